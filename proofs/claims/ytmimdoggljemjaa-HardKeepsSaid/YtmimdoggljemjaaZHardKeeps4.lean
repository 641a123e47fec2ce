import Derived.Test.YtmimdoggljemjaaZHardKeeps3
section
namespace Go.Sx
open Go Go.Proofs Go.RowKit
attribute [local irreducible] C R Fin K Own OwnT Rd Pl Ok KOf RetOk OpsOf RP KP Res NoPanic KV KE MapS ItS EntS FsO FsR RowD
variable {M M' : Mem} {H H1 H2 : Hp}
theorem truncate_K {db : Nat} {d : Dk} {hp : Hp} {n : Txt} {k : Int} (ho : DkO M db d hp) (hlen : d.ps.length ≤ 1000000) : K Try.prog 52 [.pointer (some ⟨db, 0, none⟩), str n, .int .i64 k] M (hp ++ H) fun v' M' H' => v' = .int .i64 (trcE d n k) ∧ M.le M' ∧ ∃ hp', DkO M' db (opD (trcE d n k) d (.trc n k.toNat)) hp' ∧ H' = hp' ++ H := by
  refine K.enterK Try.func52 rfl rfl rfl ?_
  intro Q hNP hQ
  (repeat' (first | (apply R.step; (exact a_ok); exact rfl) | (first | (with_reducible first | apply R.nil | apply C.ret | apply C.block | apply C.skip | apply C.exit | apply Fin.thenRet | apply Fin.thenExit | apply Fin.blockNormal | apply Fin.blockRet | apply Fin.blockExit) | (with_reducible apply Fin.thenK; assumption) | (with_reducible apply C.seqK; intro _ _) | (with_reducible apply C.regionK; intro _ _) | (with_reducible apply Fin.blockOther; exact rfl)) | (first | (apply R.store; exact rfl; exact rfl; exact rfl; (exact a_at); (exact a_blit); exact rfl; (focus (simp [Value.oneCell']; done))) | (apply R.buildSlice0; exact rfl; intro bz) | (apply R.box; exact rfl; (simp only [Value.cells]; rfl); exact rfl; intro bx) | (apply R.alloc; (simp only [Value.cells]; rfl); exact rfl; intro ba) | (apply R.buildSlice; (exact a_prt); exact rfl; exact rfl; (exact a_fills); exact rfl; intro bl)) | (first | (apply R.guardT; assumption; exact rfl; exact rfl; exact rfl) | (apply R.guardF; assumption; exact rfl; exact rfl; exact rfl; exact rfl; exact rfl) | (apply R.guardU; assumption; exact rfl; exact rfl; exact rfl; exact rfl) | (apply R.guardDec; assumption; exact rfl; exact rfl; (intro h; skip; rotate_left; intro h; skip; rotate_left)) | (apply R.guardBeq; assumption; exact rfl; exact rfl; (intro h; skip; rotate_left; intro h; skip; rotate_left)) | (apply R.guardBne; assumption; exact rfl; exact rfl; (intro h; skip; rotate_left; intro h; skip; rotate_left)) | (apply R.guardNDec; assumption; exact rfl; exact rfl; (intro h; skip; rotate_left; intro h; skip; rotate_left)) | (apply R.guardNot; assumption; exact rfl; exact rfl; (intro h; skip; rotate_left; intro h; skip; rotate_left)) | (apply R.guardC; assumption; exact rfl; exact rfl; (intro h; skip; rotate_left; intro h; skip; rotate_left))) | (first | (apply C.condT; exact rfl) | (apply C.condF; exact rfl) | (apply C.condDec; exact rfl; (intro h; skip; rotate_left; intro h; skip; rotate_left)) | (apply C.condBeq; exact rfl; (intro h; skip; rotate_left; intro h; skip; rotate_left)) | (apply C.condBne; exact rfl; (intro h; skip; rotate_left; intro h; skip; rotate_left)) | (apply C.condNDec; exact rfl; (intro h; skip; rotate_left; intro h; skip; rotate_left)) | (apply C.condNot; exact rfl; (intro h; skip; rotate_left; intro h; skip; rotate_left)) | (apply C.cond; exact rfl; (intro h; skip; rotate_left; intro h; skip; rotate_left)))))
  (apply R.call; (exact a_evs); exact rfl); exact counts_KD ho; rintro _ M _ ⟨rfl, rfl, hp1, ho1, rfl, hdn⟩
  have hnn := ho.nodup
  have hok := ho.1
  clear ho
  by_cases hs : stopD d
  · rw [decide_eq_true hs]
    have hE : trcE d n k = 3 := if_pos hs
    rw [hE] at hQ
    (repeat' (first | (apply R.step; (exact a_ok); exact rfl) | (first | (with_reducible first | apply R.nil | apply C.ret | apply C.block | apply C.skip | apply C.exit | apply Fin.thenRet | apply Fin.thenExit | apply Fin.blockNormal | apply Fin.blockRet | apply Fin.blockExit) | (with_reducible apply Fin.thenK; assumption) | (with_reducible apply C.seqK; intro _ _) | (with_reducible apply C.regionK; intro _ _) | (with_reducible apply Fin.blockOther; exact rfl)) | (first | (apply R.store; exact rfl; exact rfl; exact rfl; (exact a_at); (exact a_blit); exact rfl; (focus (simp [Value.oneCell']; done))) | (apply R.buildSlice0; exact rfl; intro bz) | (apply R.box; exact rfl; (simp only [Value.cells]; rfl); exact rfl; intro bx) | (apply R.alloc; (simp only [Value.cells]; rfl); exact rfl; intro ba) | (apply R.buildSlice; (exact a_prt); exact rfl; exact rfl; (exact a_fills); exact rfl; intro bl)) | (first | (apply R.guardT; assumption; exact rfl; exact rfl; exact rfl) | (apply R.guardF; assumption; exact rfl; exact rfl; exact rfl; exact rfl; exact rfl) | (apply R.guardU; assumption; exact rfl; exact rfl; exact rfl; exact rfl) | (apply R.guardDec; assumption; exact rfl; exact rfl; (intro h; skip; rotate_left; intro h; skip; rotate_left)) | (apply R.guardBeq; assumption; exact rfl; exact rfl; (intro h; skip; rotate_left; intro h; skip; rotate_left)) | (apply R.guardBne; assumption; exact rfl; exact rfl; (intro h; skip; rotate_left; intro h; skip; rotate_left)) | (apply R.guardNDec; assumption; exact rfl; exact rfl; (intro h; skip; rotate_left; intro h; skip; rotate_left)) | (apply R.guardNot; assumption; exact rfl; exact rfl; (intro h; skip; rotate_left; intro h; skip; rotate_left)) | (apply R.guardC; assumption; exact rfl; exact rfl; (intro h; skip; rotate_left; intro h; skip; rotate_left))) | (first | (apply C.condT; exact rfl) | (apply C.condF; exact rfl) | (apply C.condDec; exact rfl; (intro h; skip; rotate_left; intro h; skip; rotate_left)) | (apply C.condBeq; exact rfl; (intro h; skip; rotate_left; intro h; skip; rotate_left)) | (apply C.condBne; exact rfl; (intro h; skip; rotate_left; intro h; skip; rotate_left)) | (apply C.condNDec; exact rfl; (intro h; skip; rotate_left; intro h; skip; rotate_left)) | (apply C.condNot; exact rfl; (intro h; skip; rotate_left; intro h; skip; rotate_left)) | (apply C.cond; exact rfl; (intro h; skip; rotate_left; intro h; skip; rotate_left)))))
    (apply Fin.returnA (H2 := hp1 ++ H); assumption; (first | exact .inl rfl | exact .inr rfl); exact rfl; (exact a_res); (simp only [retv]; rfl); (exact a_arr))
    exact ⟨rfl, Mem.le_refl _, hp1, ho1, rfl⟩
  rw [decide_eq_false hs]
  obtain ⟨hok1, sb, nb, so, no, pv, hr, h1, h2, h3, rfl⟩ := ho1
  rw [cntD_now] at h2
  rw [hdn hs, cntD_room]
  unfold dkB
  obtain ⟨l, hm, hfr, hn⟩ := h2.use
  obtain ⟨⟨A1, c1, e1, _, _, _⟩, hg⟩ := hfr.get hn n
  have hbad : ∀ H', H' = (db, dkB d.room sb nb pv (cntD d).fuse false) :: (nb, no) :: (sb, so) :: (hr ++ H) → trcE d n k = 1 → ∃ hp', DkO M db (opD (trcE d n k) d (.trc n k.toNat)) hp' ∧ H' = hp' ++ H := fun H' hH hE => by
    rw [hE]
    exact ⟨_, DkO.no (sb := sb) (nb := nb) (by decide) hok1 hs h1 h2 h3, hH⟩
  (repeat' (first | (apply R.step; (apply Ok.move; exact rfl); exact rfl) | (apply R.step; (apply Ok.lookupS (ho := hm); exact rfl; exact rfl; exact a_mm); exact rfl) | (apply R.step; (exact a_ok); exact rfl) | (first | (with_reducible first | apply R.nil | apply C.ret | apply C.block | apply C.skip | apply C.exit | apply Fin.thenRet | apply Fin.thenExit | apply Fin.blockNormal | apply Fin.blockRet | apply Fin.blockExit) | (with_reducible apply Fin.thenK; assumption) | (with_reducible apply C.seqK; intro _ _) | (with_reducible apply C.regionK; intro _ _) | (with_reducible apply Fin.blockOther; exact rfl)) | (first | (apply R.store; exact rfl; exact rfl; exact rfl; (exact a_at); (exact a_blit); exact rfl; (focus (simp [Value.oneCell']; done))) | (apply R.buildSlice0; exact rfl; intro bz) | (apply R.box; exact rfl; (simp only [Value.cells]; rfl); exact rfl; intro bx) | (apply R.alloc; (simp only [Value.cells]; rfl); exact rfl; intro ba) | (apply R.buildSlice; (exact a_prt); exact rfl; exact rfl; (exact a_fills); exact rfl; intro bl)) | (first | (apply R.guardT; assumption; exact rfl; exact rfl; exact rfl) | (apply R.guardF; assumption; exact rfl; exact rfl; exact rfl; exact rfl; exact rfl) | (apply R.guardU; assumption; exact rfl; exact rfl; exact rfl; exact rfl) | (apply R.guardDec; assumption; exact rfl; exact rfl; (intro h; skip; rotate_left; intro h; skip; rotate_left)) | (apply R.guardBeq; assumption; exact rfl; exact rfl; (intro h; skip; rotate_left; intro h; skip; rotate_left)) | (apply R.guardBne; assumption; exact rfl; exact rfl; (intro h; skip; rotate_left; intro h; skip; rotate_left)) | (apply R.guardNDec; assumption; exact rfl; exact rfl; (intro h; skip; rotate_left; intro h; skip; rotate_left)) | (apply R.guardNot; assumption; exact rfl; exact rfl; (intro h; skip; rotate_left; intro h; skip; rotate_left)) | (apply R.guardC; assumption; exact rfl; exact rfl; (intro h; skip; rotate_left; intro h; skip; rotate_left))) | (first | (apply C.condT; exact rfl) | (apply C.condF; exact rfl) | (apply C.condDec; exact rfl; (intro h; skip; rotate_left; intro h; skip; rotate_left)) | (apply C.condBeq; exact rfl; (intro h; skip; rotate_left; intro h; skip; rotate_left)) | (apply C.condBne; exact rfl; (intro h; skip; rotate_left; intro h; skip; rotate_left)) | (apply C.condNDec; exact rfl; (intro h; skip; rotate_left; intro h; skip; rotate_left)) | (apply C.condNot; exact rfl; (intro h; skip; rotate_left; intro h; skip; rotate_left)) | (apply C.cond; exact rfl; (intro h; skip; rotate_left; intro h; skip; rotate_left)))))
  · have h : (getS l n).isSome = false := by assumption
    have hE : trcE d n k = 4 := (if_neg hs).trans (if_pos (is_none (by rw [← hg]; exact h)))
    rw [hE] at hQ
    (apply Fin.returnA (H2 := (db, dkB d.room sb nb pv (cntD d).fuse false) :: (nb, no) :: (sb, so) :: (hr ++ H)); assumption; (first | exact .inl rfl | exact .inr rfl); exact rfl; (exact a_res); (simp only [retv]; rfl); (exact a_arr))
    exact ⟨rfl, Mem.le_refl _, _, DkO.no (sb := sb) (nb := nb) (by decide) hok1 hs h1 h2 h3, rfl⟩
  · have h : (getS l n).isSome = true := by assumption
    have h5 : k < 0 := by assumption
    have hE : trcE d n k = 1 := (if_neg hs).trans ((if_neg (is_some (by rw [← hg]; exact h))).trans (if_pos (.inl h5)))
    (apply Fin.returnA (H2 := (db, dkB d.room sb nb pv (cntD d).fuse false) :: (nb, no) :: (sb, so) :: (hr ++ H)); assumption; (first | exact .inl rfl | exact .inr rfl); exact rfl; (exact a_res); (simp only [retv]; rfl); (exact a_arr))
    exact ⟨by rw [hE], Mem.le_refl _, hbad _ rfl hE⟩
  have hsm : (getS l n).isSome = true := by assumption
  have h5 : ¬ k < 0 := by assumption
  rw [e1]
  (repeat' (first | (apply R.step; (exact a_ok); exact rfl) | (first | (with_reducible first | apply R.nil | apply C.ret | apply C.block | apply C.skip | apply C.exit | apply Fin.thenRet | apply Fin.thenExit | apply Fin.blockNormal | apply Fin.blockRet | apply Fin.blockExit) | (with_reducible apply Fin.thenK; assumption) | (with_reducible apply C.seqK; intro _ _) | (with_reducible apply C.regionK; intro _ _) | (with_reducible apply Fin.blockOther; exact rfl)) | (first | (apply R.store; exact rfl; exact rfl; exact rfl; (exact a_at); (exact a_blit); exact rfl; (focus (simp [Value.oneCell']; done))) | (apply R.buildSlice0; exact rfl; intro bz) | (apply R.box; exact rfl; (simp only [Value.cells]; rfl); exact rfl; intro bx) | (apply R.alloc; (simp only [Value.cells]; rfl); exact rfl; intro ba) | (apply R.buildSlice; (exact a_prt); exact rfl; exact rfl; (exact a_fills); exact rfl; intro bl)) | (first | (apply R.guardT; assumption; exact rfl; exact rfl; exact rfl) | (apply R.guardF; assumption; exact rfl; exact rfl; exact rfl; exact rfl; exact rfl) | (apply R.guardU; assumption; exact rfl; exact rfl; exact rfl; exact rfl) | (apply R.guardDec; assumption; exact rfl; exact rfl; (intro h; skip; rotate_left; intro h; skip; rotate_left)) | (apply R.guardBeq; assumption; exact rfl; exact rfl; (intro h; skip; rotate_left; intro h; skip; rotate_left)) | (apply R.guardBne; assumption; exact rfl; exact rfl; (intro h; skip; rotate_left; intro h; skip; rotate_left)) | (apply R.guardNDec; assumption; exact rfl; exact rfl; (intro h; skip; rotate_left; intro h; skip; rotate_left)) | (apply R.guardNot; assumption; exact rfl; exact rfl; (intro h; skip; rotate_left; intro h; skip; rotate_left)) | (apply R.guardC; assumption; exact rfl; exact rfl; (intro h; skip; rotate_left; intro h; skip; rotate_left))) | (first | (apply C.condT; exact rfl) | (apply C.condF; exact rfl) | (apply C.condDec; exact rfl; (intro h; skip; rotate_left; intro h; skip; rotate_left)) | (apply C.condBeq; exact rfl; (intro h; skip; rotate_left; intro h; skip; rotate_left)) | (apply C.condBne; exact rfl; (intro h; skip; rotate_left; intro h; skip; rotate_left)) | (apply C.condNDec; exact rfl; (intro h; skip; rotate_left; intro h; skip; rotate_left)) | (apply C.condNot; exact rfl; (intro h; skip; rotate_left; intro h; skip; rotate_left)) | (apply C.cond; exact rfl; (intro h; skip; rotate_left; intro h; skip; rotate_left)))))
  · have h6 : ((fileD d.now n).length : Int) < k := by assumption
    have hE : trcE d n k = 1 := (if_neg hs).trans ((if_neg (is_some (by rw [← hg]; exact hsm))).trans (if_pos (.inr h6)))
    (apply Fin.returnA (H2 := (db, dkB d.room sb nb pv (cntD d).fuse false) :: (nb, no) :: (sb, so) :: (hr ++ H)); assumption; (first | exact .inl rfl | exact .inr rfl); exact rfl; (exact a_res); (simp only [retv]; rfl); (exact a_arr))
    exact ⟨by rw [hE], Mem.le_refl _, hbad _ rfl hE⟩
  have h6 : ¬ ((fileD d.now n).length : Int) < k := by assumption
  have hE : trcE d n k = 0 := (if_neg hs).trans ((if_neg (is_some (by rw [← hg]; exact hsm))).trans (if_neg (fun h7 => by rcases h7 with h7 | h7; exact h5 h7; exact h6 h7)))
  rw [hE] at hQ
  have hfit := trc_fit (n := n) (k := k.toNat) hnn hok.sum (by omega)
  (apply R.call; (exact a_evs); exact rfl; (apply K.arr (h := put_K (db := db) (sb := sb) (nb := nb) (room := d.room) (fuse := (cntD d).fuse) (down := false) (H := (sb, so) :: H) (x := .trc n k.toNat) (c := [.int .i64 1, str n, str [], .slice none 0 0, .int .i64 k]) h2 h3 (by show _ = _; rw [Int.toNat_of_nonneg (by omega)]) hfit (by rw [cntD_ps]; exact hlen))); ((try simp only [List.append_assoc, List.cons_append, List.nil_append, List.append_nil]); exact a_arr); rintro _ M3 _ ⟨rfl, hM3, pv', hp', no', f1, f2, rfl⟩)
  (repeat' (first | (apply R.step; (exact a_ok); exact rfl) | (first | (with_reducible first | apply R.nil | apply C.ret | apply C.block | apply C.skip | apply C.exit | apply Fin.thenRet | apply Fin.thenExit | apply Fin.blockNormal | apply Fin.blockRet | apply Fin.blockExit) | (with_reducible apply Fin.thenK; assumption) | (with_reducible apply C.seqK; intro _ _) | (with_reducible apply C.regionK; intro _ _) | (with_reducible apply Fin.blockOther; exact rfl)) | (first | (apply R.store; exact rfl; exact rfl; exact rfl; (exact a_at); (exact a_blit); exact rfl; (focus (simp [Value.oneCell']; done))) | (apply R.buildSlice0; exact rfl; intro bz) | (apply R.box; exact rfl; (simp only [Value.cells]; rfl); exact rfl; intro bx) | (apply R.alloc; (simp only [Value.cells]; rfl); exact rfl; intro ba) | (apply R.buildSlice; (exact a_prt); exact rfl; exact rfl; (exact a_fills); exact rfl; intro bl)) | (first | (apply R.guardT; assumption; exact rfl; exact rfl; exact rfl) | (apply R.guardF; assumption; exact rfl; exact rfl; exact rfl; exact rfl; exact rfl) | (apply R.guardU; assumption; exact rfl; exact rfl; exact rfl; exact rfl) | (apply R.guardDec; assumption; exact rfl; exact rfl; (intro h; skip; rotate_left; intro h; skip; rotate_left)) | (apply R.guardBeq; assumption; exact rfl; exact rfl; (intro h; skip; rotate_left; intro h; skip; rotate_left)) | (apply R.guardBne; assumption; exact rfl; exact rfl; (intro h; skip; rotate_left; intro h; skip; rotate_left)) | (apply R.guardNDec; assumption; exact rfl; exact rfl; (intro h; skip; rotate_left; intro h; skip; rotate_left)) | (apply R.guardNot; assumption; exact rfl; exact rfl; (intro h; skip; rotate_left; intro h; skip; rotate_left)) | (apply R.guardC; assumption; exact rfl; exact rfl; (intro h; skip; rotate_left; intro h; skip; rotate_left))) | (first | (apply C.condT; exact rfl) | (apply C.condF; exact rfl) | (apply C.condDec; exact rfl; (intro h; skip; rotate_left; intro h; skip; rotate_left)) | (apply C.condBeq; exact rfl; (intro h; skip; rotate_left; intro h; skip; rotate_left)) | (apply C.condBne; exact rfl; (intro h; skip; rotate_left; intro h; skip; rotate_left)) | (apply C.condNDec; exact rfl; (intro h; skip; rotate_left; intro h; skip; rotate_left)) | (apply C.condNot; exact rfl; (intro h; skip; rotate_left; intro h; skip; rotate_left)) | (apply C.cond; exact rfl; (intro h; skip; rotate_left; intro h; skip; rotate_left)))))
  (apply Fin.returnA (H2 := (db, dkB d.room sb nb pv' (cntD d).fuse false) :: (nb, no') :: (sb, so) :: (hp' ++ H)); assumption; (first | exact .inl rfl | exact .inr rfl); exact rfl; (exact a_res); (simp only [retv]; rfl); (exact a_arr))
  exact ⟨rfl, hM3, _, DkO.op (sb := sb) (nb := nb) hok hs hfit (h1.mono hM3) f1 f2, rfl⟩
theorem rename_K {db : Nat} {d : Dk} {hp : Hp} {n t : Txt} (ho : DkO M db d hp) (hlen : d.ps.length ≤ 1000000) (htl : t.length ≤ 1099511627776) : K Try.prog 57 [.pointer (some ⟨db, 0, none⟩), str n, str t] M (hp ++ H) fun v' M' H' => v' = .int .i64 (renE d n t) ∧ M.le M' ∧ ∃ hp', DkO M' db (opD (renE d n t) d (.ren n t)) hp' ∧ H' = hp' ++ H := by
  refine K.enterK Try.func57 rfl rfl rfl ?_
  intro Q hNP hQ
  (repeat' (first | (apply R.step; (exact a_ok); exact rfl) | (first | (with_reducible first | apply R.nil | apply C.ret | apply C.block | apply C.skip | apply C.exit | apply Fin.thenRet | apply Fin.thenExit | apply Fin.blockNormal | apply Fin.blockRet | apply Fin.blockExit) | (with_reducible apply Fin.thenK; assumption) | (with_reducible apply C.seqK; intro _ _) | (with_reducible apply C.regionK; intro _ _) | (with_reducible apply Fin.blockOther; exact rfl)) | (first | (apply R.store; exact rfl; exact rfl; exact rfl; (exact a_at); (exact a_blit); exact rfl; (focus (simp [Value.oneCell']; done))) | (apply R.buildSlice0; exact rfl; intro bz) | (apply R.box; exact rfl; (simp only [Value.cells]; rfl); exact rfl; intro bx) | (apply R.alloc; (simp only [Value.cells]; rfl); exact rfl; intro ba) | (apply R.buildSlice; (exact a_prt); exact rfl; exact rfl; (exact a_fills); exact rfl; intro bl)) | (first | (apply R.guardT; assumption; exact rfl; exact rfl; exact rfl) | (apply R.guardF; assumption; exact rfl; exact rfl; exact rfl; exact rfl; exact rfl) | (apply R.guardU; assumption; exact rfl; exact rfl; exact rfl; exact rfl) | (apply R.guardDec; assumption; exact rfl; exact rfl; (intro h; skip; rotate_left; intro h; skip; rotate_left)) | (apply R.guardBeq; assumption; exact rfl; exact rfl; (intro h; skip; rotate_left; intro h; skip; rotate_left)) | (apply R.guardBne; assumption; exact rfl; exact rfl; (intro h; skip; rotate_left; intro h; skip; rotate_left)) | (apply R.guardNDec; assumption; exact rfl; exact rfl; (intro h; skip; rotate_left; intro h; skip; rotate_left)) | (apply R.guardNot; assumption; exact rfl; exact rfl; (intro h; skip; rotate_left; intro h; skip; rotate_left)) | (apply R.guardC; assumption; exact rfl; exact rfl; (intro h; skip; rotate_left; intro h; skip; rotate_left))) | (first | (apply C.condT; exact rfl) | (apply C.condF; exact rfl) | (apply C.condDec; exact rfl; (intro h; skip; rotate_left; intro h; skip; rotate_left)) | (apply C.condBeq; exact rfl; (intro h; skip; rotate_left; intro h; skip; rotate_left)) | (apply C.condBne; exact rfl; (intro h; skip; rotate_left; intro h; skip; rotate_left)) | (apply C.condNDec; exact rfl; (intro h; skip; rotate_left; intro h; skip; rotate_left)) | (apply C.condNot; exact rfl; (intro h; skip; rotate_left; intro h; skip; rotate_left)) | (apply C.cond; exact rfl; (intro h; skip; rotate_left; intro h; skip; rotate_left)))))
  (apply R.call; (exact a_evs); exact rfl); exact counts_KD ho; rintro _ M _ ⟨rfl, rfl, hp1, ho1, rfl, hdn⟩
  have hnn := ho.nodup
  have hok := ho.1
  clear ho
  by_cases hs : stopD d
  · rw [decide_eq_true hs]
    have hE : renE d n t = 3 := if_pos hs
    rw [hE] at hQ
    (repeat' (first | (apply R.step; (exact a_ok); exact rfl) | (first | (with_reducible first | apply R.nil | apply C.ret | apply C.block | apply C.skip | apply C.exit | apply Fin.thenRet | apply Fin.thenExit | apply Fin.blockNormal | apply Fin.blockRet | apply Fin.blockExit) | (with_reducible apply Fin.thenK; assumption) | (with_reducible apply C.seqK; intro _ _) | (with_reducible apply C.regionK; intro _ _) | (with_reducible apply Fin.blockOther; exact rfl)) | (first | (apply R.store; exact rfl; exact rfl; exact rfl; (exact a_at); (exact a_blit); exact rfl; (focus (simp [Value.oneCell']; done))) | (apply R.buildSlice0; exact rfl; intro bz) | (apply R.box; exact rfl; (simp only [Value.cells]; rfl); exact rfl; intro bx) | (apply R.alloc; (simp only [Value.cells]; rfl); exact rfl; intro ba) | (apply R.buildSlice; (exact a_prt); exact rfl; exact rfl; (exact a_fills); exact rfl; intro bl)) | (first | (apply R.guardT; assumption; exact rfl; exact rfl; exact rfl) | (apply R.guardF; assumption; exact rfl; exact rfl; exact rfl; exact rfl; exact rfl) | (apply R.guardU; assumption; exact rfl; exact rfl; exact rfl; exact rfl) | (apply R.guardDec; assumption; exact rfl; exact rfl; (intro h; skip; rotate_left; intro h; skip; rotate_left)) | (apply R.guardBeq; assumption; exact rfl; exact rfl; (intro h; skip; rotate_left; intro h; skip; rotate_left)) | (apply R.guardBne; assumption; exact rfl; exact rfl; (intro h; skip; rotate_left; intro h; skip; rotate_left)) | (apply R.guardNDec; assumption; exact rfl; exact rfl; (intro h; skip; rotate_left; intro h; skip; rotate_left)) | (apply R.guardNot; assumption; exact rfl; exact rfl; (intro h; skip; rotate_left; intro h; skip; rotate_left)) | (apply R.guardC; assumption; exact rfl; exact rfl; (intro h; skip; rotate_left; intro h; skip; rotate_left))) | (first | (apply C.condT; exact rfl) | (apply C.condF; exact rfl) | (apply C.condDec; exact rfl; (intro h; skip; rotate_left; intro h; skip; rotate_left)) | (apply C.condBeq; exact rfl; (intro h; skip; rotate_left; intro h; skip; rotate_left)) | (apply C.condBne; exact rfl; (intro h; skip; rotate_left; intro h; skip; rotate_left)) | (apply C.condNDec; exact rfl; (intro h; skip; rotate_left; intro h; skip; rotate_left)) | (apply C.condNot; exact rfl; (intro h; skip; rotate_left; intro h; skip; rotate_left)) | (apply C.cond; exact rfl; (intro h; skip; rotate_left; intro h; skip; rotate_left)))))
    (apply Fin.returnA (H2 := hp1 ++ H); assumption; (first | exact .inl rfl | exact .inr rfl); exact rfl; (exact a_res); (simp only [retv]; rfl); (exact a_arr))
    exact ⟨rfl, Mem.le_refl _, hp1, ho1, rfl⟩
  rw [decide_eq_false hs]
  obtain ⟨hok1, sb, nb, so, no, pv, hr, h1, h2, h3, rfl⟩ := ho1
  rw [cntD_now] at h2
  rw [hdn hs, cntD_room]
  unfold dkB
  obtain ⟨l, hm, hfr, hn⟩ := h2.use
  have hg := (hfr.get hn n).2
  (repeat' (first | (apply R.step; (apply Ok.move; exact rfl); exact rfl) | (apply R.step; (apply Ok.lookupS (ho := hm); exact rfl; exact rfl; exact a_mm); exact rfl) | (apply R.step; (exact a_ok); exact rfl) | (first | (with_reducible first | apply R.nil | apply C.ret | apply C.block | apply C.skip | apply C.exit | apply Fin.thenRet | apply Fin.thenExit | apply Fin.blockNormal | apply Fin.blockRet | apply Fin.blockExit) | (with_reducible apply Fin.thenK; assumption) | (with_reducible apply C.seqK; intro _ _) | (with_reducible apply C.regionK; intro _ _) | (with_reducible apply Fin.blockOther; exact rfl)) | (first | (apply R.store; exact rfl; exact rfl; exact rfl; (exact a_at); (exact a_blit); exact rfl; (focus (simp [Value.oneCell']; done))) | (apply R.buildSlice0; exact rfl; intro bz) | (apply R.box; exact rfl; (simp only [Value.cells]; rfl); exact rfl; intro bx) | (apply R.alloc; (simp only [Value.cells]; rfl); exact rfl; intro ba) | (apply R.buildSlice; (exact a_prt); exact rfl; exact rfl; (exact a_fills); exact rfl; intro bl)) | (first | (apply R.guardT; assumption; exact rfl; exact rfl; exact rfl) | (apply R.guardF; assumption; exact rfl; exact rfl; exact rfl; exact rfl; exact rfl) | (apply R.guardU; assumption; exact rfl; exact rfl; exact rfl; exact rfl) | (apply R.guardDec; assumption; exact rfl; exact rfl; (intro h; skip; rotate_left; intro h; skip; rotate_left)) | (apply R.guardBeq; assumption; exact rfl; exact rfl; (intro h; skip; rotate_left; intro h; skip; rotate_left)) | (apply R.guardBne; assumption; exact rfl; exact rfl; (intro h; skip; rotate_left; intro h; skip; rotate_left)) | (apply R.guardNDec; assumption; exact rfl; exact rfl; (intro h; skip; rotate_left; intro h; skip; rotate_left)) | (apply R.guardNot; assumption; exact rfl; exact rfl; (intro h; skip; rotate_left; intro h; skip; rotate_left)) | (apply R.guardC; assumption; exact rfl; exact rfl; (intro h; skip; rotate_left; intro h; skip; rotate_left))) | (first | (apply C.condT; exact rfl) | (apply C.condF; exact rfl) | (apply C.condDec; exact rfl; (intro h; skip; rotate_left; intro h; skip; rotate_left)) | (apply C.condBeq; exact rfl; (intro h; skip; rotate_left; intro h; skip; rotate_left)) | (apply C.condBne; exact rfl; (intro h; skip; rotate_left; intro h; skip; rotate_left)) | (apply C.condNDec; exact rfl; (intro h; skip; rotate_left; intro h; skip; rotate_left)) | (apply C.condNot; exact rfl; (intro h; skip; rotate_left; intro h; skip; rotate_left)) | (apply C.cond; exact rfl; (intro h; skip; rotate_left; intro h; skip; rotate_left)))))
  (apply R.call; (exact a_evs); exact rfl); exact named_K (by omega); rintro _ M _ ⟨rfl, rfl, rfl⟩
  cases hnm : namedB t with
  | false =>
    have hE : renE d n t = 1 := (if_neg hs).trans (if_pos hnm)
    rw [hE] at hQ
    (repeat' (first | (apply R.step; (exact a_ok); exact rfl) | (first | (with_reducible first | apply R.nil | apply C.ret | apply C.block | apply C.skip | apply C.exit | apply Fin.thenRet | apply Fin.thenExit | apply Fin.blockNormal | apply Fin.blockRet | apply Fin.blockExit) | (with_reducible apply Fin.thenK; assumption) | (with_reducible apply C.seqK; intro _ _) | (with_reducible apply C.regionK; intro _ _) | (with_reducible apply Fin.blockOther; exact rfl)) | (first | (apply R.store; exact rfl; exact rfl; exact rfl; (exact a_at); (exact a_blit); exact rfl; (focus (simp [Value.oneCell']; done))) | (apply R.buildSlice0; exact rfl; intro bz) | (apply R.box; exact rfl; (simp only [Value.cells]; rfl); exact rfl; intro bx) | (apply R.alloc; (simp only [Value.cells]; rfl); exact rfl; intro ba) | (apply R.buildSlice; (exact a_prt); exact rfl; exact rfl; (exact a_fills); exact rfl; intro bl)) | (first | (apply R.guardT; assumption; exact rfl; exact rfl; exact rfl) | (apply R.guardF; assumption; exact rfl; exact rfl; exact rfl; exact rfl; exact rfl) | (apply R.guardU; assumption; exact rfl; exact rfl; exact rfl; exact rfl) | (apply R.guardDec; assumption; exact rfl; exact rfl; (intro h; skip; rotate_left; intro h; skip; rotate_left)) | (apply R.guardBeq; assumption; exact rfl; exact rfl; (intro h; skip; rotate_left; intro h; skip; rotate_left)) | (apply R.guardBne; assumption; exact rfl; exact rfl; (intro h; skip; rotate_left; intro h; skip; rotate_left)) | (apply R.guardNDec; assumption; exact rfl; exact rfl; (intro h; skip; rotate_left; intro h; skip; rotate_left)) | (apply R.guardNot; assumption; exact rfl; exact rfl; (intro h; skip; rotate_left; intro h; skip; rotate_left)) | (apply R.guardC; assumption; exact rfl; exact rfl; (intro h; skip; rotate_left; intro h; skip; rotate_left))) | (first | (apply C.condT; exact rfl) | (apply C.condF; exact rfl) | (apply C.condDec; exact rfl; (intro h; skip; rotate_left; intro h; skip; rotate_left)) | (apply C.condBeq; exact rfl; (intro h; skip; rotate_left; intro h; skip; rotate_left)) | (apply C.condBne; exact rfl; (intro h; skip; rotate_left; intro h; skip; rotate_left)) | (apply C.condNDec; exact rfl; (intro h; skip; rotate_left; intro h; skip; rotate_left)) | (apply C.condNot; exact rfl; (intro h; skip; rotate_left; intro h; skip; rotate_left)) | (apply C.cond; exact rfl; (intro h; skip; rotate_left; intro h; skip; rotate_left)))))
    (apply Fin.returnA (H2 := (db, dkB d.room sb nb pv (cntD d).fuse false) :: (nb, no) :: (sb, so) :: (hr ++ H)); assumption; (first | exact .inl rfl | exact .inr rfl); exact rfl; (exact a_res); (simp only [retv]; rfl); (exact a_arr))
    exact ⟨rfl, Mem.le_refl _, _, DkO.no (sb := sb) (nb := nb) (by decide) hok1 hs h1 h2 h3, rfl⟩
  | true =>
    (repeat' (first | (apply R.step; (exact a_ok); exact rfl) | (first | (with_reducible first | apply R.nil | apply C.ret | apply C.block | apply C.skip | apply C.exit | apply Fin.thenRet | apply Fin.thenExit | apply Fin.blockNormal | apply Fin.blockRet | apply Fin.blockExit) | (with_reducible apply Fin.thenK; assumption) | (with_reducible apply C.seqK; intro _ _) | (with_reducible apply C.regionK; intro _ _) | (with_reducible apply Fin.blockOther; exact rfl)) | (first | (apply R.store; exact rfl; exact rfl; exact rfl; (exact a_at); (exact a_blit); exact rfl; (focus (simp [Value.oneCell']; done))) | (apply R.buildSlice0; exact rfl; intro bz) | (apply R.box; exact rfl; (simp only [Value.cells]; rfl); exact rfl; intro bx) | (apply R.alloc; (simp only [Value.cells]; rfl); exact rfl; intro ba) | (apply R.buildSlice; (exact a_prt); exact rfl; exact rfl; (exact a_fills); exact rfl; intro bl)) | (first | (apply R.guardT; assumption; exact rfl; exact rfl; exact rfl) | (apply R.guardF; assumption; exact rfl; exact rfl; exact rfl; exact rfl; exact rfl) | (apply R.guardU; assumption; exact rfl; exact rfl; exact rfl; exact rfl) | (apply R.guardDec; assumption; exact rfl; exact rfl; (intro h; skip; rotate_left; intro h; skip; rotate_left)) | (apply R.guardBeq; assumption; exact rfl; exact rfl; (intro h; skip; rotate_left; intro h; skip; rotate_left)) | (apply R.guardBne; assumption; exact rfl; exact rfl; (intro h; skip; rotate_left; intro h; skip; rotate_left)) | (apply R.guardNDec; assumption; exact rfl; exact rfl; (intro h; skip; rotate_left; intro h; skip; rotate_left)) | (apply R.guardNot; assumption; exact rfl; exact rfl; (intro h; skip; rotate_left; intro h; skip; rotate_left)) | (apply R.guardC; assumption; exact rfl; exact rfl; (intro h; skip; rotate_left; intro h; skip; rotate_left))) | (first | (apply C.condT; exact rfl) | (apply C.condF; exact rfl) | (apply C.condDec; exact rfl; (intro h; skip; rotate_left; intro h; skip; rotate_left)) | (apply C.condBeq; exact rfl; (intro h; skip; rotate_left; intro h; skip; rotate_left)) | (apply C.condBne; exact rfl; (intro h; skip; rotate_left; intro h; skip; rotate_left)) | (apply C.condNDec; exact rfl; (intro h; skip; rotate_left; intro h; skip; rotate_left)) | (apply C.condNot; exact rfl; (intro h; skip; rotate_left; intro h; skip; rotate_left)) | (apply C.cond; exact rfl; (intro h; skip; rotate_left; intro h; skip; rotate_left)))))
    · have h : (getS l n).isSome = false := by assumption
      have hE : renE d n t = 4 := (if_neg hs).trans ((if_neg (by rw [hnm]; decide)).trans (if_pos (is_none (by rw [← hg]; exact h))))
      rw [hE] at hQ
      (apply Fin.returnA (H2 := (db, dkB d.room sb nb pv (cntD d).fuse false) :: (nb, no) :: (sb, so) :: (hr ++ H)); assumption; (first | exact .inl rfl | exact .inr rfl); exact rfl; (exact a_res); (simp only [retv]; rfl); (exact a_arr))
      exact ⟨rfl, Mem.le_refl _, _, DkO.no (sb := sb) (nb := nb) (by decide) hok1 hs h1 h2 h3, rfl⟩
    have h : (getS l n).isSome = true := by assumption
    have hE : renE d n t = 0 := (if_neg hs).trans ((if_neg (by rw [hnm]; decide)).trans (if_neg (is_some (by rw [← hg]; exact h))))
    rw [hE] at hQ
    have hfit := ren_fit (n := n) (t := t) hnn hok.sum
    (apply R.call; (exact a_evs); exact rfl; (apply K.arr (h := put_K (db := db) (sb := sb) (nb := nb) (room := d.room) (fuse := (cntD d).fuse) (down := false) (H := (sb, so) :: H) (x := .ren n t) h2 h3 rfl hfit (by rw [cntD_ps]; exact hlen))); ((try simp only [List.append_assoc, List.cons_append, List.nil_append, List.append_nil]); exact a_arr); rintro _ M3 _ ⟨rfl, hM3, pv', hp', no', f1, f2, rfl⟩)
    (repeat' (first | (apply R.step; (exact a_ok); exact rfl) | (first | (with_reducible first | apply R.nil | apply C.ret | apply C.block | apply C.skip | apply C.exit | apply Fin.thenRet | apply Fin.thenExit | apply Fin.blockNormal | apply Fin.blockRet | apply Fin.blockExit) | (with_reducible apply Fin.thenK; assumption) | (with_reducible apply C.seqK; intro _ _) | (with_reducible apply C.regionK; intro _ _) | (with_reducible apply Fin.blockOther; exact rfl)) | (first | (apply R.store; exact rfl; exact rfl; exact rfl; (exact a_at); (exact a_blit); exact rfl; (focus (simp [Value.oneCell']; done))) | (apply R.buildSlice0; exact rfl; intro bz) | (apply R.box; exact rfl; (simp only [Value.cells]; rfl); exact rfl; intro bx) | (apply R.alloc; (simp only [Value.cells]; rfl); exact rfl; intro ba) | (apply R.buildSlice; (exact a_prt); exact rfl; exact rfl; (exact a_fills); exact rfl; intro bl)) | (first | (apply R.guardT; assumption; exact rfl; exact rfl; exact rfl) | (apply R.guardF; assumption; exact rfl; exact rfl; exact rfl; exact rfl; exact rfl) | (apply R.guardU; assumption; exact rfl; exact rfl; exact rfl; exact rfl) | (apply R.guardDec; assumption; exact rfl; exact rfl; (intro h; skip; rotate_left; intro h; skip; rotate_left)) | (apply R.guardBeq; assumption; exact rfl; exact rfl; (intro h; skip; rotate_left; intro h; skip; rotate_left)) | (apply R.guardBne; assumption; exact rfl; exact rfl; (intro h; skip; rotate_left; intro h; skip; rotate_left)) | (apply R.guardNDec; assumption; exact rfl; exact rfl; (intro h; skip; rotate_left; intro h; skip; rotate_left)) | (apply R.guardNot; assumption; exact rfl; exact rfl; (intro h; skip; rotate_left; intro h; skip; rotate_left)) | (apply R.guardC; assumption; exact rfl; exact rfl; (intro h; skip; rotate_left; intro h; skip; rotate_left))) | (first | (apply C.condT; exact rfl) | (apply C.condF; exact rfl) | (apply C.condDec; exact rfl; (intro h; skip; rotate_left; intro h; skip; rotate_left)) | (apply C.condBeq; exact rfl; (intro h; skip; rotate_left; intro h; skip; rotate_left)) | (apply C.condBne; exact rfl; (intro h; skip; rotate_left; intro h; skip; rotate_left)) | (apply C.condNDec; exact rfl; (intro h; skip; rotate_left; intro h; skip; rotate_left)) | (apply C.condNot; exact rfl; (intro h; skip; rotate_left; intro h; skip; rotate_left)) | (apply C.cond; exact rfl; (intro h; skip; rotate_left; intro h; skip; rotate_left)))))
    (apply Fin.returnA (H2 := (db, dkB d.room sb nb pv' (cntD d).fuse false) :: (nb, no') :: (sb, so) :: (hp' ++ H)); assumption; (first | exact .inl rfl | exact .inr rfl); exact rfl; (exact a_res); (simp only [retv]; rfl); (exact a_arr))
    exact ⟨rfl, hM3, _, DkO.op (sb := sb) (nb := nb) hok hs hfit (h1.mono hM3) f1 f2, rfl⟩
end Go.Sx
end
section
namespace Go.Sx
open Go Go.Proofs Go.RowKit
attribute [local irreducible] C R Fin K Own OwnT Rd Pl Ok KOf RetOk OpsOf RP KP Res NoPanic KV KE MapS ItS EntS FsO FsR RowD PlD DkO
variable {M M' : Mem} {H H1 H2 : Hp}
theorem frame_KF {A : Option Addr} {cap m : Nat} {bs : List UInt8} (hpl : Pl M A (bs.map bv)) (hm : bs.length = m) (hb : m ≤ 140737488351232) : K Try.prog 51 [.slice A m cap] M H fun v M' H' =>
    PlB M' v (frameS bs) ∧ M.le M' ∧ H' = H := by
  subst hm
  refine (frame_K hpl hb).freezeT ?_
  rintro v M' H' ⟨hp, h1, rfl, rfl⟩
  exact ⟨hp, _, Arr.all _, fun M2 hM2 hin => ⟨h1.plB hin, hM2, rfl⟩⟩
def hfile : Txt := [104, 97, 114, 100]
def hnew : Txt := [104, 97, 114, 100, 46, 110, 101, 119]
def recS (t : Nat) (v : Int) : Txt := numS t ++ [UInt8.ofNat v.toNat]
def hrdC (t : Nat) (v : Int) : List Value := [.int .u64 (t : Int), .int .i64 v]
def rightH (t : Nat) (v : Int) : Bool := decide (t ≤ 72057594037927935) && decide (0 ≤ v) && decide (v ≤ 7)
theorem right_K {t : Nat} {v : Int} : K Try.prog 26 [.agg (hrdC t v).toArray] M H fun v' M' H' => v' = .bool (rightH t v) ∧ M' = M ∧ H' = H := by
  refine K.enterK Try.func26 rfl rfl rfl ?_
  intro Q hNP hQ
  unfold hrdC
  have e1 : decide ((t : Int) ≤ 72057594037927935) = decide (t ≤ 72057594037927935) := decide_eq_decide.2 (by omega)
  by_cases h1 : t ≤ 72057594037927935
  · by_cases h2 : 0 ≤ v
    · have hE : rightH t v = decide (v ≤ 7) := by
        unfold rightH
        rw [decide_eq_true h1, decide_eq_true h2]
        rfl
      rw [hE] at hQ
      (repeat' (first | (apply R.step; (exact a_ok); exact rfl) | (first | (with_reducible first | apply R.nil | apply C.ret | apply C.block | apply C.skip | apply C.exit | apply Fin.thenRet | apply Fin.thenExit | apply Fin.blockNormal | apply Fin.blockRet | apply Fin.blockExit) | (with_reducible apply Fin.thenK; assumption) | (with_reducible apply C.seqK; intro _ _) | (with_reducible apply C.regionK; intro _ _) | (with_reducible apply Fin.blockOther; exact rfl)) | (first | (apply R.store; exact rfl; exact rfl; exact rfl; (exact a_at); (exact a_blit); exact rfl; (focus (simp [Value.oneCell']; done))) | (apply R.buildSlice0; exact rfl; intro bz) | (apply R.box; exact rfl; (simp only [Value.cells]; rfl); exact rfl; intro bx) | (apply R.alloc; (simp only [Value.cells]; rfl); exact rfl; intro ba) | (apply R.buildSlice; (exact a_prt); exact rfl; exact rfl; (exact a_fills); exact rfl; intro bl)) | (first | (apply R.guardT; assumption; exact rfl; exact rfl; exact rfl) | (apply R.guardF; assumption; exact rfl; exact rfl; exact rfl; exact rfl; exact rfl) | (apply R.guardU; assumption; exact rfl; exact rfl; exact rfl; exact rfl) | (apply R.guardDec; assumption; exact rfl; exact rfl; (intro h; skip; rotate_left; intro h; skip; rotate_left)) | (apply R.guardBeq; assumption; exact rfl; exact rfl; (intro h; skip; rotate_left; intro h; skip; rotate_left)) | (apply R.guardBne; assumption; exact rfl; exact rfl; (intro h; skip; rotate_left; intro h; skip; rotate_left)) | (apply R.guardNDec; assumption; exact rfl; exact rfl; (intro h; skip; rotate_left; intro h; skip; rotate_left)) | (apply R.guardNot; assumption; exact rfl; exact rfl; (intro h; skip; rotate_left; intro h; skip; rotate_left)) | (apply R.guardC; assumption; exact rfl; exact rfl; (intro h; skip; rotate_left; intro h; skip; rotate_left))) | (first | (apply C.condT; exact rfl) | (apply C.condF; exact rfl) | (apply C.condDec; exact rfl; (intro h; skip; rotate_left; intro h; skip; rotate_left)) | (apply C.condBeq; exact rfl; (intro h; skip; rotate_left; intro h; skip; rotate_left)) | (apply C.condBne; exact rfl; (intro h; skip; rotate_left; intro h; skip; rotate_left)) | (apply C.condNDec; exact rfl; (intro h; skip; rotate_left; intro h; skip; rotate_left)) | (apply C.condNot; exact rfl; (intro h; skip; rotate_left; intro h; skip; rotate_left)) | (apply C.cond; exact rfl; (intro h; skip; rotate_left; intro h; skip; rotate_left)))))
      all_goals (first | (exfalso; omega) | skip)
      (apply Fin.returnA (H2 := H); assumption; (first | exact .inl rfl | exact .inr rfl); exact rfl; (exact a_res); (simp only [retv]; rfl); (exact a_arr))
      exact ⟨rfl, rfl, rfl⟩
    · have hE : rightH t v = false := by
        unfold rightH
        rw [decide_eq_false h2]
        simp
      rw [hE] at hQ
      (repeat' (first | (apply R.step; (apply Ok.move; exact rfl); exact rfl) | (apply R.step; (apply Ok.geF; exact rfl; exact rfl; exact h2); exact rfl) | (apply R.step; (exact a_ok); exact rfl) | (first | (with_reducible first | apply R.nil | apply C.ret | apply C.block | apply C.skip | apply C.exit | apply Fin.thenRet | apply Fin.thenExit | apply Fin.blockNormal | apply Fin.blockRet | apply Fin.blockExit) | (with_reducible apply Fin.thenK; assumption) | (with_reducible apply C.seqK; intro _ _) | (with_reducible apply C.regionK; intro _ _) | (with_reducible apply Fin.blockOther; exact rfl)) | (first | (apply R.store; exact rfl; exact rfl; exact rfl; (exact a_at); (exact a_blit); exact rfl; (focus (simp [Value.oneCell']; done))) | (apply R.buildSlice0; exact rfl; intro bz) | (apply R.box; exact rfl; (simp only [Value.cells]; rfl); exact rfl; intro bx) | (apply R.alloc; (simp only [Value.cells]; rfl); exact rfl; intro ba) | (apply R.buildSlice; (exact a_prt); exact rfl; exact rfl; (exact a_fills); exact rfl; intro bl)) | (first | (apply R.guardT; assumption; exact rfl; exact rfl; exact rfl) | (apply R.guardF; assumption; exact rfl; exact rfl; exact rfl; exact rfl; exact rfl) | (apply R.guardU; assumption; exact rfl; exact rfl; exact rfl; exact rfl) | (apply R.guardDec; assumption; exact rfl; exact rfl; (intro h; skip; rotate_left; intro h; skip; rotate_left)) | (apply R.guardBeq; assumption; exact rfl; exact rfl; (intro h; skip; rotate_left; intro h; skip; rotate_left)) | (apply R.guardBne; assumption; exact rfl; exact rfl; (intro h; skip; rotate_left; intro h; skip; rotate_left)) | (apply R.guardNDec; assumption; exact rfl; exact rfl; (intro h; skip; rotate_left; intro h; skip; rotate_left)) | (apply R.guardNot; assumption; exact rfl; exact rfl; (intro h; skip; rotate_left; intro h; skip; rotate_left)) | (apply R.guardC; assumption; exact rfl; exact rfl; (intro h; skip; rotate_left; intro h; skip; rotate_left))) | (first | (apply C.condT; exact rfl) | (apply C.condF; exact rfl) | (apply C.condDec; exact rfl; (intro h; skip; rotate_left; intro h; skip; rotate_left)) | (apply C.condBeq; exact rfl; (intro h; skip; rotate_left; intro h; skip; rotate_left)) | (apply C.condBne; exact rfl; (intro h; skip; rotate_left; intro h; skip; rotate_left)) | (apply C.condNDec; exact rfl; (intro h; skip; rotate_left; intro h; skip; rotate_left)) | (apply C.condNot; exact rfl; (intro h; skip; rotate_left; intro h; skip; rotate_left)) | (apply C.cond; exact rfl; (intro h; skip; rotate_left; intro h; skip; rotate_left)))))
      all_goals (first | (exfalso; omega) | skip)
      (apply Fin.returnA (H2 := H); assumption; (first | exact .inl rfl | exact .inr rfl); exact rfl; (exact a_res); (simp only [retv]; rfl); (exact a_arr))
      exact ⟨rfl, rfl, rfl⟩
  · have hE : rightH t v = false := by
      unfold rightH
      rw [decide_eq_false h1]
      simp
    rw [hE] at hQ
    (repeat' (first | (apply R.step; (apply Ok.move; exact rfl); exact rfl) | (apply R.step; (apply Ok.leF; exact rfl; exact rfl; omega); exact rfl) | (apply R.step; (exact a_ok); exact rfl) | (first | (with_reducible first | apply R.nil | apply C.ret | apply C.block | apply C.skip | apply C.exit | apply Fin.thenRet | apply Fin.thenExit | apply Fin.blockNormal | apply Fin.blockRet | apply Fin.blockExit) | (with_reducible apply Fin.thenK; assumption) | (with_reducible apply C.seqK; intro _ _) | (with_reducible apply C.regionK; intro _ _) | (with_reducible apply Fin.blockOther; exact rfl)) | (first | (apply R.store; exact rfl; exact rfl; exact rfl; (exact a_at); (exact a_blit); exact rfl; (focus (simp [Value.oneCell']; done))) | (apply R.buildSlice0; exact rfl; intro bz) | (apply R.box; exact rfl; (simp only [Value.cells]; rfl); exact rfl; intro bx) | (apply R.alloc; (simp only [Value.cells]; rfl); exact rfl; intro ba) | (apply R.buildSlice; (exact a_prt); exact rfl; exact rfl; (exact a_fills); exact rfl; intro bl)) | (first | (apply R.guardT; assumption; exact rfl; exact rfl; exact rfl) | (apply R.guardF; assumption; exact rfl; exact rfl; exact rfl; exact rfl; exact rfl) | (apply R.guardU; assumption; exact rfl; exact rfl; exact rfl; exact rfl) | (apply R.guardDec; assumption; exact rfl; exact rfl; (intro h; skip; rotate_left; intro h; skip; rotate_left)) | (apply R.guardBeq; assumption; exact rfl; exact rfl; (intro h; skip; rotate_left; intro h; skip; rotate_left)) | (apply R.guardBne; assumption; exact rfl; exact rfl; (intro h; skip; rotate_left; intro h; skip; rotate_left)) | (apply R.guardNDec; assumption; exact rfl; exact rfl; (intro h; skip; rotate_left; intro h; skip; rotate_left)) | (apply R.guardNot; assumption; exact rfl; exact rfl; (intro h; skip; rotate_left; intro h; skip; rotate_left)) | (apply R.guardC; assumption; exact rfl; exact rfl; (intro h; skip; rotate_left; intro h; skip; rotate_left))) | (first | (apply C.condT; exact rfl) | (apply C.condF; exact rfl) | (apply C.condDec; exact rfl; (intro h; skip; rotate_left; intro h; skip; rotate_left)) | (apply C.condBeq; exact rfl; (intro h; skip; rotate_left; intro h; skip; rotate_left)) | (apply C.condBne; exact rfl; (intro h; skip; rotate_left; intro h; skip; rotate_left)) | (apply C.condNDec; exact rfl; (intro h; skip; rotate_left; intro h; skip; rotate_left)) | (apply C.condNot; exact rfl; (intro h; skip; rotate_left; intro h; skip; rotate_left)) | (apply C.cond; exact rfl; (intro h; skip; rotate_left; intro h; skip; rotate_left)))))
    all_goals (first | (exfalso; omega) | skip)
    (apply Fin.returnA (H2 := H); assumption; (first | exact .inl rfl | exact .inr rfl); exact rfl; (exact a_res); (simp only [retv]; rfl); (exact a_arr))
    exact ⟨rfl, rfl, rfl⟩
def clearD (d : Dk) : Int × Dk := if (readD d hnew).isSome then (remE d hnew, opD (remE d hnew) d (.rem hnew)) else (0, d)
theorem clear_K {db : Nat} {d : Dk} {hp : Hp} (ho : DkO M db d hp) (hlen : d.ps.length ≤ 1000000) : K Try.prog 45 [.pointer (some ⟨db, 0, none⟩)] M (hp ++ H) fun v' M' H' => v' = .int .i64 (clearD d).1 ∧ M.le M' ∧ ∃ hp', DkO M' db (clearD d).2 hp' ∧ H' = hp' ++ H := by
  refine K.enterK Try.func45 rfl rfl rfl ?_
  intro Q hNP hQ
  (repeat' (first | (apply R.step; (exact a_ok); exact rfl) | (first | (with_reducible first | apply R.nil | apply C.ret | apply C.block | apply C.skip | apply C.exit | apply Fin.thenRet | apply Fin.thenExit | apply Fin.blockNormal | apply Fin.blockRet | apply Fin.blockExit) | (with_reducible apply Fin.thenK; assumption) | (with_reducible apply C.seqK; intro _ _) | (with_reducible apply C.regionK; intro _ _) | (with_reducible apply Fin.blockOther; exact rfl)) | (first | (apply R.store; exact rfl; exact rfl; exact rfl; (exact a_at); (exact a_blit); exact rfl; (focus (simp [Value.oneCell']; done))) | (apply R.buildSlice0; exact rfl; intro bz) | (apply R.box; exact rfl; (simp only [Value.cells]; rfl); exact rfl; intro bx) | (apply R.alloc; (simp only [Value.cells]; rfl); exact rfl; intro ba) | (apply R.buildSlice; (exact a_prt); exact rfl; exact rfl; (exact a_fills); exact rfl; intro bl)) | (first | (apply R.guardT; assumption; exact rfl; exact rfl; exact rfl) | (apply R.guardF; assumption; exact rfl; exact rfl; exact rfl; exact rfl; exact rfl) | (apply R.guardU; assumption; exact rfl; exact rfl; exact rfl; exact rfl) | (apply R.guardDec; assumption; exact rfl; exact rfl; (intro h; skip; rotate_left; intro h; skip; rotate_left)) | (apply R.guardBeq; assumption; exact rfl; exact rfl; (intro h; skip; rotate_left; intro h; skip; rotate_left)) | (apply R.guardBne; assumption; exact rfl; exact rfl; (intro h; skip; rotate_left; intro h; skip; rotate_left)) | (apply R.guardNDec; assumption; exact rfl; exact rfl; (intro h; skip; rotate_left; intro h; skip; rotate_left)) | (apply R.guardNot; assumption; exact rfl; exact rfl; (intro h; skip; rotate_left; intro h; skip; rotate_left)) | (apply R.guardC; assumption; exact rfl; exact rfl; (intro h; skip; rotate_left; intro h; skip; rotate_left))) | (first | (apply C.condT; exact rfl) | (apply C.condF; exact rfl) | (apply C.condDec; exact rfl; (intro h; skip; rotate_left; intro h; skip; rotate_left)) | (apply C.condBeq; exact rfl; (intro h; skip; rotate_left; intro h; skip; rotate_left)) | (apply C.condBne; exact rfl; (intro h; skip; rotate_left; intro h; skip; rotate_left)) | (apply C.condNDec; exact rfl; (intro h; skip; rotate_left; intro h; skip; rotate_left)) | (apply C.condNot; exact rfl; (intro h; skip; rotate_left; intro h; skip; rotate_left)) | (apply C.cond; exact rfl; (intro h; skip; rotate_left; intro h; skip; rotate_left)))))
  (apply R.call; (exact a_evs); exact rfl; exact dread_K (n := hnew) ho; rintro _ M _ ⟨v5, hv5, rfl, hown5, rfl, rfl⟩)
  unfold clearD at hQ
  cases hs : (readD d hnew).isSome with
  | true =>
    rw [hs] at hQ
    (repeat' (first | (apply R.step; (exact a_ok); exact rfl) | (first | (with_reducible first | apply R.nil | apply C.ret | apply C.block | apply C.skip | apply C.exit | apply Fin.thenRet | apply Fin.thenExit | apply Fin.blockNormal | apply Fin.blockRet | apply Fin.blockExit) | (with_reducible apply Fin.thenK; assumption) | (with_reducible apply C.seqK; intro _ _) | (with_reducible apply C.regionK; intro _ _) | (with_reducible apply Fin.blockOther; exact rfl)) | (first | (apply R.store; exact rfl; exact rfl; exact rfl; (exact a_at); (exact a_blit); exact rfl; (focus (simp [Value.oneCell']; done))) | (apply R.buildSlice0; exact rfl; intro bz) | (apply R.box; exact rfl; (simp only [Value.cells]; rfl); exact rfl; intro bx) | (apply R.alloc; (simp only [Value.cells]; rfl); exact rfl; intro ba) | (apply R.buildSlice; (exact a_prt); exact rfl; exact rfl; (exact a_fills); exact rfl; intro bl)) | (first | (apply R.guardT; assumption; exact rfl; exact rfl; exact rfl) | (apply R.guardF; assumption; exact rfl; exact rfl; exact rfl; exact rfl; exact rfl) | (apply R.guardU; assumption; exact rfl; exact rfl; exact rfl; exact rfl) | (apply R.guardDec; assumption; exact rfl; exact rfl; (intro h; skip; rotate_left; intro h; skip; rotate_left)) | (apply R.guardBeq; assumption; exact rfl; exact rfl; (intro h; skip; rotate_left; intro h; skip; rotate_left)) | (apply R.guardBne; assumption; exact rfl; exact rfl; (intro h; skip; rotate_left; intro h; skip; rotate_left)) | (apply R.guardNDec; assumption; exact rfl; exact rfl; (intro h; skip; rotate_left; intro h; skip; rotate_left)) | (apply R.guardNot; assumption; exact rfl; exact rfl; (intro h; skip; rotate_left; intro h; skip; rotate_left)) | (apply R.guardC; assumption; exact rfl; exact rfl; (intro h; skip; rotate_left; intro h; skip; rotate_left))) | (first | (apply C.condT; exact rfl) | (apply C.condF; exact rfl) | (apply C.condDec; exact rfl; (intro h; skip; rotate_left; intro h; skip; rotate_left)) | (apply C.condBeq; exact rfl; (intro h; skip; rotate_left; intro h; skip; rotate_left)) | (apply C.condBne; exact rfl; (intro h; skip; rotate_left; intro h; skip; rotate_left)) | (apply C.condNDec; exact rfl; (intro h; skip; rotate_left; intro h; skip; rotate_left)) | (apply C.condNot; exact rfl; (intro h; skip; rotate_left; intro h; skip; rotate_left)) | (apply C.cond; exact rfl; (intro h; skip; rotate_left; intro h; skip; rotate_left)))))
    apply R.arr (H2 := hp ++ H) (by ((try simp only [List.append_assoc, List.cons_append, List.nil_append, List.append_nil]); exact a_arr))
    (apply R.call; (exact a_evs); exact rfl; exact remove_K (n := hnew) ho hlen; rintro _ M3 _ ⟨rfl, hM3, hp6, ho6, rfl⟩)
    (repeat' (first | (apply R.step; (exact a_ok); exact rfl) | (first | (with_reducible first | apply R.nil | apply C.ret | apply C.block | apply C.skip | apply C.exit | apply Fin.thenRet | apply Fin.thenExit | apply Fin.blockNormal | apply Fin.blockRet | apply Fin.blockExit) | (with_reducible apply Fin.thenK; assumption) | (with_reducible apply C.seqK; intro _ _) | (with_reducible apply C.regionK; intro _ _) | (with_reducible apply Fin.blockOther; exact rfl)) | (first | (apply R.store; exact rfl; exact rfl; exact rfl; (exact a_at); (exact a_blit); exact rfl; (focus (simp [Value.oneCell']; done))) | (apply R.buildSlice0; exact rfl; intro bz) | (apply R.box; exact rfl; (simp only [Value.cells]; rfl); exact rfl; intro bx) | (apply R.alloc; (simp only [Value.cells]; rfl); exact rfl; intro ba) | (apply R.buildSlice; (exact a_prt); exact rfl; exact rfl; (exact a_fills); exact rfl; intro bl)) | (first | (apply R.guardT; assumption; exact rfl; exact rfl; exact rfl) | (apply R.guardF; assumption; exact rfl; exact rfl; exact rfl; exact rfl; exact rfl) | (apply R.guardU; assumption; exact rfl; exact rfl; exact rfl; exact rfl) | (apply R.guardDec; assumption; exact rfl; exact rfl; (intro h; skip; rotate_left; intro h; skip; rotate_left)) | (apply R.guardBeq; assumption; exact rfl; exact rfl; (intro h; skip; rotate_left; intro h; skip; rotate_left)) | (apply R.guardBne; assumption; exact rfl; exact rfl; (intro h; skip; rotate_left; intro h; skip; rotate_left)) | (apply R.guardNDec; assumption; exact rfl; exact rfl; (intro h; skip; rotate_left; intro h; skip; rotate_left)) | (apply R.guardNot; assumption; exact rfl; exact rfl; (intro h; skip; rotate_left; intro h; skip; rotate_left)) | (apply R.guardC; assumption; exact rfl; exact rfl; (intro h; skip; rotate_left; intro h; skip; rotate_left))) | (first | (apply C.condT; exact rfl) | (apply C.condF; exact rfl) | (apply C.condDec; exact rfl; (intro h; skip; rotate_left; intro h; skip; rotate_left)) | (apply C.condBeq; exact rfl; (intro h; skip; rotate_left; intro h; skip; rotate_left)) | (apply C.condBne; exact rfl; (intro h; skip; rotate_left; intro h; skip; rotate_left)) | (apply C.condNDec; exact rfl; (intro h; skip; rotate_left; intro h; skip; rotate_left)) | (apply C.condNot; exact rfl; (intro h; skip; rotate_left; intro h; skip; rotate_left)) | (apply C.cond; exact rfl; (intro h; skip; rotate_left; intro h; skip; rotate_left)))))
    (apply Fin.returnA (H2 := hp6 ++ H); assumption; (first | exact .inl rfl | exact .inr rfl); exact rfl; (exact a_res); (simp only [retv]; rfl); (exact a_arr))
    exact ⟨rfl, hM3, hp6, ho6, rfl⟩
  | false =>
    rw [hs] at hQ
    (repeat' (first | (apply R.step; (exact a_ok); exact rfl) | (first | (with_reducible first | apply R.nil | apply C.ret | apply C.block | apply C.skip | apply C.exit | apply Fin.thenRet | apply Fin.thenExit | apply Fin.blockNormal | apply Fin.blockRet | apply Fin.blockExit) | (with_reducible apply Fin.thenK; assumption) | (with_reducible apply C.seqK; intro _ _) | (with_reducible apply C.regionK; intro _ _) | (with_reducible apply Fin.blockOther; exact rfl)) | (first | (apply R.store; exact rfl; exact rfl; exact rfl; (exact a_at); (exact a_blit); exact rfl; (focus (simp [Value.oneCell']; done))) | (apply R.buildSlice0; exact rfl; intro bz) | (apply R.box; exact rfl; (simp only [Value.cells]; rfl); exact rfl; intro bx) | (apply R.alloc; (simp only [Value.cells]; rfl); exact rfl; intro ba) | (apply R.buildSlice; (exact a_prt); exact rfl; exact rfl; (exact a_fills); exact rfl; intro bl)) | (first | (apply R.guardT; assumption; exact rfl; exact rfl; exact rfl) | (apply R.guardF; assumption; exact rfl; exact rfl; exact rfl; exact rfl; exact rfl) | (apply R.guardU; assumption; exact rfl; exact rfl; exact rfl; exact rfl) | (apply R.guardDec; assumption; exact rfl; exact rfl; (intro h; skip; rotate_left; intro h; skip; rotate_left)) | (apply R.guardBeq; assumption; exact rfl; exact rfl; (intro h; skip; rotate_left; intro h; skip; rotate_left)) | (apply R.guardBne; assumption; exact rfl; exact rfl; (intro h; skip; rotate_left; intro h; skip; rotate_left)) | (apply R.guardNDec; assumption; exact rfl; exact rfl; (intro h; skip; rotate_left; intro h; skip; rotate_left)) | (apply R.guardNot; assumption; exact rfl; exact rfl; (intro h; skip; rotate_left; intro h; skip; rotate_left)) | (apply R.guardC; assumption; exact rfl; exact rfl; (intro h; skip; rotate_left; intro h; skip; rotate_left))) | (first | (apply C.condT; exact rfl) | (apply C.condF; exact rfl) | (apply C.condDec; exact rfl; (intro h; skip; rotate_left; intro h; skip; rotate_left)) | (apply C.condBeq; exact rfl; (intro h; skip; rotate_left; intro h; skip; rotate_left)) | (apply C.condBne; exact rfl; (intro h; skip; rotate_left; intro h; skip; rotate_left)) | (apply C.condNDec; exact rfl; (intro h; skip; rotate_left; intro h; skip; rotate_left)) | (apply C.condNot; exact rfl; (intro h; skip; rotate_left; intro h; skip; rotate_left)) | (apply C.cond; exact rfl; (intro h; skip; rotate_left; intro h; skip; rotate_left)))))
    (apply Fin.returnA (H2 := hp ++ H); assumption; (first | exact .inl rfl | exact .inr rfl); exact rfl; (exact a_res); (simp only [retv]; rfl); (exact a_arr))
    exact ⟨rfl, Mem.le_refl _, hp, ho, rfl⟩
def saveD (d : Dk) (t : Nat) (v : Int) : Int × Dk :=
  if rightH t v = false then (1, d) else
  if ((readD d hfile).getD []).length < 256 then (appE d hfile (frameS (recS t v)), opD (appE d hfile (frameS (recS t v))) d (.app hfile (frameS (recS t v)))) else
  if (clearD d).1 ≠ 0 then clearD d else
  if appE (clearD d).2 hnew (frameS (recS t v)) ≠ 0 then (appE (clearD d).2 hnew (frameS (recS t v)), opD (appE (clearD d).2 hnew (frameS (recS t v))) (clearD d).2 (.app hnew (frameS (recS t v)))) else
  (renE (opD 0 (clearD d).2 (.app hnew (frameS (recS t v)))) hnew hfile, opD (renE (opD 0 (clearD d).2 (.app hnew (frameS (recS t v)))) hnew hfile) (opD 0 (clearD d).2 (.app hnew (frameS (recS t v)))) (.ren hnew hfile))
theorem opD_ps (d : Dk) (e : Int) (x : De) : (opD e d x).ps.length ≤ d.ps.length + 1 := by
  unfold opD
  split
  · show (d.ps ++ [x]).length ≤ _
    rw [List.length_append]
    exact Nat.le_refl _
  · rw [cntD_ps]
    omega
theorem clearD_ps (d : Dk) : (clearD d).2.ps.length ≤ d.ps.length + 1 := by
  unfold clearD
  split
  · exact opD_ps _ _ _
  · show d.ps.length ≤ d.ps.length + 1
    omega
theorem recS_len {t : Nat} {v : Int} (ht : t ≤ 18446744073709551615) : (recS t v).length ≤ 11 := by
  unfold recS
  have := (numS_len10 ht).2
  rw [List.length_append, List.length_singleton]
  omega
theorem save_K {db : Nat} {d : Dk} {hp : Hp} {t : Nat} {v : Int} (ho : DkO M db d hp) (hlen : d.ps.length ≤ 900000) (ht : t ≤ 18446744073709551615) : K Try.prog 25 [.pointer (some ⟨db, 0, none⟩), .agg (hrdC t v).toArray] M (hp ++ H) fun v' M' H' => v' = .int .i64 (saveD d t v).1 ∧ M.le M' ∧ ∃ hp', DkO M' db (saveD d t v).2 hp' ∧ H' = hp' ++ H := by
  refine K.enterK Try.func25 rfl rfl rfl ?_
  intro Q hNP hQ
  (repeat' (first | (apply R.step; (exact a_ok); exact rfl) | (first | (with_reducible first | apply R.nil | apply C.ret | apply C.block | apply C.skip | apply C.exit | apply Fin.thenRet | apply Fin.thenExit | apply Fin.blockNormal | apply Fin.blockRet | apply Fin.blockExit) | (with_reducible apply Fin.thenK; assumption) | (with_reducible apply C.seqK; intro _ _) | (with_reducible apply C.regionK; intro _ _) | (with_reducible apply Fin.blockOther; exact rfl)) | (first | (apply R.store; exact rfl; exact rfl; exact rfl; (exact a_at); (exact a_blit); exact rfl; (focus (simp [Value.oneCell']; done))) | (apply R.buildSlice0; exact rfl; intro bz) | (apply R.box; exact rfl; (simp only [Value.cells]; rfl); exact rfl; intro bx) | (apply R.alloc; (simp only [Value.cells]; rfl); exact rfl; intro ba) | (apply R.buildSlice; (exact a_prt); exact rfl; exact rfl; (exact a_fills); exact rfl; intro bl)) | (first | (apply R.guardT; assumption; exact rfl; exact rfl; exact rfl) | (apply R.guardF; assumption; exact rfl; exact rfl; exact rfl; exact rfl; exact rfl) | (apply R.guardU; assumption; exact rfl; exact rfl; exact rfl; exact rfl) | (apply R.guardDec; assumption; exact rfl; exact rfl; (intro h; skip; rotate_left; intro h; skip; rotate_left)) | (apply R.guardBeq; assumption; exact rfl; exact rfl; (intro h; skip; rotate_left; intro h; skip; rotate_left)) | (apply R.guardBne; assumption; exact rfl; exact rfl; (intro h; skip; rotate_left; intro h; skip; rotate_left)) | (apply R.guardNDec; assumption; exact rfl; exact rfl; (intro h; skip; rotate_left; intro h; skip; rotate_left)) | (apply R.guardNot; assumption; exact rfl; exact rfl; (intro h; skip; rotate_left; intro h; skip; rotate_left)) | (apply R.guardC; assumption; exact rfl; exact rfl; (intro h; skip; rotate_left; intro h; skip; rotate_left))) | (first | (apply C.condT; exact rfl) | (apply C.condF; exact rfl) | (apply C.condDec; exact rfl; (intro h; skip; rotate_left; intro h; skip; rotate_left)) | (apply C.condBeq; exact rfl; (intro h; skip; rotate_left; intro h; skip; rotate_left)) | (apply C.condBne; exact rfl; (intro h; skip; rotate_left; intro h; skip; rotate_left)) | (apply C.condNDec; exact rfl; (intro h; skip; rotate_left; intro h; skip; rotate_left)) | (apply C.condNot; exact rfl; (intro h; skip; rotate_left; intro h; skip; rotate_left)) | (apply C.cond; exact rfl; (intro h; skip; rotate_left; intro h; skip; rotate_left)))))
  (apply R.call; (exact a_evs); exact rfl; exact right_K; rintro _ M _ ⟨rfl, rfl, rfl⟩)
  cases hr : rightH t v with
  | false =>
    have hE : saveD d t v = (1, d) := if_pos hr
    rw [hE] at hQ
    (repeat' (first | (apply R.step; (exact a_ok); exact rfl) | (first | (with_reducible first | apply R.nil | apply C.ret | apply C.block | apply C.skip | apply C.exit | apply Fin.thenRet | apply Fin.thenExit | apply Fin.blockNormal | apply Fin.blockRet | apply Fin.blockExit) | (with_reducible apply Fin.thenK; assumption) | (with_reducible apply C.seqK; intro _ _) | (with_reducible apply C.regionK; intro _ _) | (with_reducible apply Fin.blockOther; exact rfl)) | (first | (apply R.store; exact rfl; exact rfl; exact rfl; (exact a_at); (exact a_blit); exact rfl; (focus (simp [Value.oneCell']; done))) | (apply R.buildSlice0; exact rfl; intro bz) | (apply R.box; exact rfl; (simp only [Value.cells]; rfl); exact rfl; intro bx) | (apply R.alloc; (simp only [Value.cells]; rfl); exact rfl; intro ba) | (apply R.buildSlice; (exact a_prt); exact rfl; exact rfl; (exact a_fills); exact rfl; intro bl)) | (first | (apply R.guardT; assumption; exact rfl; exact rfl; exact rfl) | (apply R.guardF; assumption; exact rfl; exact rfl; exact rfl; exact rfl; exact rfl) | (apply R.guardU; assumption; exact rfl; exact rfl; exact rfl; exact rfl) | (apply R.guardDec; assumption; exact rfl; exact rfl; (intro h; skip; rotate_left; intro h; skip; rotate_left)) | (apply R.guardBeq; assumption; exact rfl; exact rfl; (intro h; skip; rotate_left; intro h; skip; rotate_left)) | (apply R.guardBne; assumption; exact rfl; exact rfl; (intro h; skip; rotate_left; intro h; skip; rotate_left)) | (apply R.guardNDec; assumption; exact rfl; exact rfl; (intro h; skip; rotate_left; intro h; skip; rotate_left)) | (apply R.guardNot; assumption; exact rfl; exact rfl; (intro h; skip; rotate_left; intro h; skip; rotate_left)) | (apply R.guardC; assumption; exact rfl; exact rfl; (intro h; skip; rotate_left; intro h; skip; rotate_left))) | (first | (apply C.condT; exact rfl) | (apply C.condF; exact rfl) | (apply C.condDec; exact rfl; (intro h; skip; rotate_left; intro h; skip; rotate_left)) | (apply C.condBeq; exact rfl; (intro h; skip; rotate_left; intro h; skip; rotate_left)) | (apply C.condBne; exact rfl; (intro h; skip; rotate_left; intro h; skip; rotate_left)) | (apply C.condNDec; exact rfl; (intro h; skip; rotate_left; intro h; skip; rotate_left)) | (apply C.condNot; exact rfl; (intro h; skip; rotate_left; intro h; skip; rotate_left)) | (apply C.cond; exact rfl; (intro h; skip; rotate_left; intro h; skip; rotate_left)))))
    (apply Fin.returnA (H2 := hp ++ H); assumption; (first | exact .inl rfl | exact .inr rfl); exact rfl; (exact a_res); (simp only [retv]; rfl); (exact a_arr))
    exact ⟨rfl, Mem.le_refl _, hp, ho, rfl⟩
  | true =>
    have hv : (0 ≤ v ∧ v ≤ 7) ∧ t ≤ 72057594037927935 := by
      unfold rightH at hr
      simp only [Bool.and_eq_true, decide_eq_true_eq] at hr
      omega
    obtain ⟨vn, hvn⟩ : ∃ vn : Nat, v = (vn : Int) := ⟨_, (Int.toNat_of_nonneg hv.1.1).symm⟩
    unfold hrdC
    (repeat' (first | (apply R.step; (exact a_ok); exact rfl) | (first | (with_reducible first | apply R.nil | apply C.ret | apply C.block | apply C.skip | apply C.exit | apply Fin.thenRet | apply Fin.thenExit | apply Fin.blockNormal | apply Fin.blockRet | apply Fin.blockExit) | (with_reducible apply Fin.thenK; assumption) | (with_reducible apply C.seqK; intro _ _) | (with_reducible apply C.regionK; intro _ _) | (with_reducible apply Fin.blockOther; exact rfl)) | (first | (apply R.store; exact rfl; exact rfl; exact rfl; (exact a_at); (exact a_blit); exact rfl; (focus (simp [Value.oneCell']; done))) | (apply R.buildSlice0; exact rfl; intro bz) | (apply R.box; exact rfl; (simp only [Value.cells]; rfl); exact rfl; intro bx) | (apply R.alloc; (simp only [Value.cells]; rfl); exact rfl; intro ba) | (apply R.buildSlice; (exact a_prt); exact rfl; exact rfl; (exact a_fills); exact rfl; intro bl)) | (first | (apply R.guardT; assumption; exact rfl; exact rfl; exact rfl) | (apply R.guardF; assumption; exact rfl; exact rfl; exact rfl; exact rfl; exact rfl) | (apply R.guardU; assumption; exact rfl; exact rfl; exact rfl; exact rfl) | (apply R.guardDec; assumption; exact rfl; exact rfl; (intro h; skip; rotate_left; intro h; skip; rotate_left)) | (apply R.guardBeq; assumption; exact rfl; exact rfl; (intro h; skip; rotate_left; intro h; skip; rotate_left)) | (apply R.guardBne; assumption; exact rfl; exact rfl; (intro h; skip; rotate_left; intro h; skip; rotate_left)) | (apply R.guardNDec; assumption; exact rfl; exact rfl; (intro h; skip; rotate_left; intro h; skip; rotate_left)) | (apply R.guardNot; assumption; exact rfl; exact rfl; (intro h; skip; rotate_left; intro h; skip; rotate_left)) | (apply R.guardC; assumption; exact rfl; exact rfl; (intro h; skip; rotate_left; intro h; skip; rotate_left))) | (first | (apply C.condT; exact rfl) | (apply C.condF; exact rfl) | (apply C.condDec; exact rfl; (intro h; skip; rotate_left; intro h; skip; rotate_left)) | (apply C.condBeq; exact rfl; (intro h; skip; rotate_left; intro h; skip; rotate_left)) | (apply C.condBne; exact rfl; (intro h; skip; rotate_left; intro h; skip; rotate_left)) | (apply C.condNDec; exact rfl; (intro h; skip; rotate_left; intro h; skip; rotate_left)) | (apply C.condNot; exact rfl; (intro h; skip; rotate_left; intro h; skip; rotate_left)) | (apply C.cond; exact rfl; (intro h; skip; rotate_left; intro h; skip; rotate_left)))))
    (apply R.call; (exact a_evs); exact rfl; exact newWriter_K; rintro _ M _ ⟨wb, rfl, rfl, rfl⟩)
    (repeat' (first | (apply R.step; (exact a_ok); exact rfl) | (first | (with_reducible first | apply R.nil | apply C.ret | apply C.block | apply C.skip | apply C.exit | apply Fin.thenRet | apply Fin.thenExit | apply Fin.blockNormal | apply Fin.blockRet | apply Fin.blockExit) | (with_reducible apply Fin.thenK; assumption) | (with_reducible apply C.seqK; intro _ _) | (with_reducible apply C.regionK; intro _ _) | (with_reducible apply Fin.blockOther; exact rfl)) | (first | (apply R.store; exact rfl; exact rfl; exact rfl; (exact a_at); (exact a_blit); exact rfl; (focus (simp [Value.oneCell']; done))) | (apply R.buildSlice0; exact rfl; intro bz) | (apply R.box; exact rfl; (simp only [Value.cells]; rfl); exact rfl; intro bx) | (apply R.alloc; (simp only [Value.cells]; rfl); exact rfl; intro ba) | (apply R.buildSlice; (exact a_prt); exact rfl; exact rfl; (exact a_fills); exact rfl; intro bl)) | (first | (apply R.guardT; assumption; exact rfl; exact rfl; exact rfl) | (apply R.guardF; assumption; exact rfl; exact rfl; exact rfl; exact rfl; exact rfl) | (apply R.guardU; assumption; exact rfl; exact rfl; exact rfl; exact rfl) | (apply R.guardDec; assumption; exact rfl; exact rfl; (intro h; skip; rotate_left; intro h; skip; rotate_left)) | (apply R.guardBeq; assumption; exact rfl; exact rfl; (intro h; skip; rotate_left; intro h; skip; rotate_left)) | (apply R.guardBne; assumption; exact rfl; exact rfl; (intro h; skip; rotate_left; intro h; skip; rotate_left)) | (apply R.guardNDec; assumption; exact rfl; exact rfl; (intro h; skip; rotate_left; intro h; skip; rotate_left)) | (apply R.guardNot; assumption; exact rfl; exact rfl; (intro h; skip; rotate_left; intro h; skip; rotate_left)) | (apply R.guardC; assumption; exact rfl; exact rfl; (intro h; skip; rotate_left; intro h; skip; rotate_left))) | (first | (apply C.condT; exact rfl) | (apply C.condF; exact rfl) | (apply C.condDec; exact rfl; (intro h; skip; rotate_left; intro h; skip; rotate_left)) | (apply C.condBeq; exact rfl; (intro h; skip; rotate_left; intro h; skip; rotate_left)) | (apply C.condBne; exact rfl; (intro h; skip; rotate_left; intro h; skip; rotate_left)) | (apply C.condNDec; exact rfl; (intro h; skip; rotate_left; intro h; skip; rotate_left)) | (apply C.condNot; exact rfl; (intro h; skip; rotate_left; intro h; skip; rotate_left)) | (apply C.cond; exact rfl; (intro h; skip; rotate_left; intro h; skip; rotate_left)))))
    (apply R.call; (exact a_evs); exact rfl; (apply K.arr (h := wnum_K (wb := wb) (v := .slice none 0 0) (bs := []) (n := t) (hr := []) (H := (bx, .cells [.int .u64 (t : Int), .int .i64 v].toArray 44 (0, 0)) :: (hp ++ H)) (Own.nil _ _) (by decide) ht)); ((try simp only [List.append_assoc, List.cons_append, List.nil_append, List.append_nil]); exact a_arr); rintro _ M _ ⟨rfl, rfl, v2, hr2, how2, rfl⟩)
    rw [List.nil_append] at how2
    rw [hvn]
    (repeat' (first | (apply R.step; (apply Ok.move; exact rfl); exact rfl) | (apply R.step; (apply Ok.convLI; exact rfl); exact rfl) | (apply R.step; (exact a_ok); exact rfl) | (first | (with_reducible first | apply R.nil | apply C.ret | apply C.block | apply C.skip | apply C.exit | apply Fin.thenRet | apply Fin.thenExit | apply Fin.blockNormal | apply Fin.blockRet | apply Fin.blockExit) | (with_reducible apply Fin.thenK; assumption) | (with_reducible apply C.seqK; intro _ _) | (with_reducible apply C.regionK; intro _ _) | (with_reducible apply Fin.blockOther; exact rfl)) | (first | (apply R.store; exact rfl; exact rfl; exact rfl; (exact a_at); (exact a_blit); exact rfl; (focus (simp [Value.oneCell']; done))) | (apply R.buildSlice0; exact rfl; intro bz) | (apply R.box; exact rfl; (simp only [Value.cells]; rfl); exact rfl; intro bx) | (apply R.alloc; (simp only [Value.cells]; rfl); exact rfl; intro ba) | (apply R.buildSlice; (exact a_prt); exact rfl; exact rfl; (exact a_fills); exact rfl; intro bl)) | (first | (apply R.guardT; assumption; exact rfl; exact rfl; exact rfl) | (apply R.guardF; assumption; exact rfl; exact rfl; exact rfl; exact rfl; exact rfl) | (apply R.guardU; assumption; exact rfl; exact rfl; exact rfl; exact rfl) | (apply R.guardDec; assumption; exact rfl; exact rfl; (intro h; skip; rotate_left; intro h; skip; rotate_left)) | (apply R.guardBeq; assumption; exact rfl; exact rfl; (intro h; skip; rotate_left; intro h; skip; rotate_left)) | (apply R.guardBne; assumption; exact rfl; exact rfl; (intro h; skip; rotate_left; intro h; skip; rotate_left)) | (apply R.guardNDec; assumption; exact rfl; exact rfl; (intro h; skip; rotate_left; intro h; skip; rotate_left)) | (apply R.guardNot; assumption; exact rfl; exact rfl; (intro h; skip; rotate_left; intro h; skip; rotate_left)) | (apply R.guardC; assumption; exact rfl; exact rfl; (intro h; skip; rotate_left; intro h; skip; rotate_left))) | (first | (apply C.condT; exact rfl) | (apply C.condF; exact rfl) | (apply C.condDec; exact rfl; (intro h; skip; rotate_left; intro h; skip; rotate_left)) | (apply C.condBeq; exact rfl; (intro h; skip; rotate_left; intro h; skip; rotate_left)) | (apply C.condBne; exact rfl; (intro h; skip; rotate_left; intro h; skip; rotate_left)) | (apply C.condNDec; exact rfl; (intro h; skip; rotate_left; intro h; skip; rotate_left)) | (apply C.condNot; exact rfl; (intro h; skip; rotate_left; intro h; skip; rotate_left)) | (apply C.cond; exact rfl; (intro h; skip; rotate_left; intro h; skip; rotate_left)))))
    have hl10 := (numS_len10 ht).2
    (apply R.call; (exact a_evs); exact rfl; (apply K.arr (h := wbyte_K (wb := wb) (v := v2) (bs := numS t) (b := UInt8.ofNat vn) (hr := hr2) (H := (bx, .cells [.int .u64 (t : Int), .int .i64 (vn : Int)].toArray 44 (0, 0)) :: (hp ++ H)) how2 (by omega))); ((try simp only [List.append_assoc, List.cons_append, List.nil_append, List.append_nil]); exact a_arr); rintro _ M _ ⟨rfl, rfl, v3, hr3, how3, rfl⟩)
    have hrec : numS t ++ [UInt8.ofNat vn] = recS t v := by
      unfold recS
      rw [hvn]
      rfl
    rw [hrec] at how3
    have hrl := recS_len (v := v) ht
    (repeat' (first | (apply R.step; (exact a_ok); exact rfl) | (first | (with_reducible first | apply R.nil | apply C.ret | apply C.block | apply C.skip | apply C.exit | apply Fin.thenRet | apply Fin.thenExit | apply Fin.blockNormal | apply Fin.blockRet | apply Fin.blockExit) | (with_reducible apply Fin.thenK; assumption) | (with_reducible apply C.seqK; intro _ _) | (with_reducible apply C.regionK; intro _ _) | (with_reducible apply Fin.blockOther; exact rfl)) | (first | (apply R.store; exact rfl; exact rfl; exact rfl; (exact a_at); (exact a_blit); exact rfl; (focus (simp [Value.oneCell']; done))) | (apply R.buildSlice0; exact rfl; intro bz) | (apply R.box; exact rfl; (simp only [Value.cells]; rfl); exact rfl; intro bx) | (apply R.alloc; (simp only [Value.cells]; rfl); exact rfl; intro ba) | (apply R.buildSlice; (exact a_prt); exact rfl; exact rfl; (exact a_fills); exact rfl; intro bl)) | (first | (apply R.guardT; assumption; exact rfl; exact rfl; exact rfl) | (apply R.guardF; assumption; exact rfl; exact rfl; exact rfl; exact rfl; exact rfl) | (apply R.guardU; assumption; exact rfl; exact rfl; exact rfl; exact rfl) | (apply R.guardDec; assumption; exact rfl; exact rfl; (intro h; skip; rotate_left; intro h; skip; rotate_left)) | (apply R.guardBeq; assumption; exact rfl; exact rfl; (intro h; skip; rotate_left; intro h; skip; rotate_left)) | (apply R.guardBne; assumption; exact rfl; exact rfl; (intro h; skip; rotate_left; intro h; skip; rotate_left)) | (apply R.guardNDec; assumption; exact rfl; exact rfl; (intro h; skip; rotate_left; intro h; skip; rotate_left)) | (apply R.guardNot; assumption; exact rfl; exact rfl; (intro h; skip; rotate_left; intro h; skip; rotate_left)) | (apply R.guardC; assumption; exact rfl; exact rfl; (intro h; skip; rotate_left; intro h; skip; rotate_left))) | (first | (apply C.condT; exact rfl) | (apply C.condF; exact rfl) | (apply C.condDec; exact rfl; (intro h; skip; rotate_left; intro h; skip; rotate_left)) | (apply C.condBeq; exact rfl; (intro h; skip; rotate_left; intro h; skip; rotate_left)) | (apply C.condBne; exact rfl; (intro h; skip; rotate_left; intro h; skip; rotate_left)) | (apply C.condNDec; exact rfl; (intro h; skip; rotate_left; intro h; skip; rotate_left)) | (apply C.condNot; exact rfl; (intro h; skip; rotate_left; intro h; skip; rotate_left)) | (apply C.cond; exact rfl; (intro h; skip; rotate_left; intro h; skip; rotate_left)))))
    (apply R.call; (exact a_evs); exact rfl; (apply K.arr (h := wbytes_K (wb := wb) (v := v3) (bs := recS t v) (hr := hr3) (H := (bx, .cells [.int .u64 (t : Int), .int .i64 (vn : Int)].toArray 44 (0, 0)) :: (hp ++ H)) how3 (by omega))); ((try simp only [List.append_assoc, List.cons_append, List.nil_append, List.append_nil]); exact a_arr); rintro v4 M _ ⟨rfl, hr4, how4, rfl⟩)
    obtain ⟨A4, c4, rfl, _, _⟩ := how4.form
    apply R.arr (H2 := hr4 ++ (hp ++ H)) (by ((try simp only [List.append_assoc, List.cons_append, List.nil_append, List.append_nil]); exact a_arr))
    (apply R.ice (hp := hr4) (H1 := hp ++ H) (by (exact a_arr)); intro M2 hM2 hin2)
    have hpl4 := how4.plIn hin2
    (apply R.call; (exact a_evs); exact rfl; exact frame_KF hpl4 rfl (by omega); rintro v5 M3 _ ⟨hb5, hM3, rfl⟩)
    have hfl : (frameS (recS t v)).length ≤ 19 := by
      rw [frameS_len (by omega)]
      omega
    have ho3 := (ho.mono hM2).mono hM3
    generalize hf : frameS (recS t v) = f at hb5 hfl
    (repeat' (first | (apply R.step; (exact a_ok); exact rfl) | (first | (with_reducible first | apply R.nil | apply C.ret | apply C.block | apply C.skip | apply C.exit | apply Fin.thenRet | apply Fin.thenExit | apply Fin.blockNormal | apply Fin.blockRet | apply Fin.blockExit) | (with_reducible apply Fin.thenK; assumption) | (with_reducible apply C.seqK; intro _ _) | (with_reducible apply C.regionK; intro _ _) | (with_reducible apply Fin.blockOther; exact rfl)) | (first | (apply R.store; exact rfl; exact rfl; exact rfl; (exact a_at); (exact a_blit); exact rfl; (focus (simp [Value.oneCell']; done))) | (apply R.buildSlice0; exact rfl; intro bz) | (apply R.box; exact rfl; (simp only [Value.cells]; rfl); exact rfl; intro bx) | (apply R.alloc; (simp only [Value.cells]; rfl); exact rfl; intro ba) | (apply R.buildSlice; (exact a_prt); exact rfl; exact rfl; (exact a_fills); exact rfl; intro bl)) | (first | (apply R.guardT; assumption; exact rfl; exact rfl; exact rfl) | (apply R.guardF; assumption; exact rfl; exact rfl; exact rfl; exact rfl; exact rfl) | (apply R.guardU; assumption; exact rfl; exact rfl; exact rfl; exact rfl) | (apply R.guardDec; assumption; exact rfl; exact rfl; (intro h; skip; rotate_left; intro h; skip; rotate_left)) | (apply R.guardBeq; assumption; exact rfl; exact rfl; (intro h; skip; rotate_left; intro h; skip; rotate_left)) | (apply R.guardBne; assumption; exact rfl; exact rfl; (intro h; skip; rotate_left; intro h; skip; rotate_left)) | (apply R.guardNDec; assumption; exact rfl; exact rfl; (intro h; skip; rotate_left; intro h; skip; rotate_left)) | (apply R.guardNot; assumption; exact rfl; exact rfl; (intro h; skip; rotate_left; intro h; skip; rotate_left)) | (apply R.guardC; assumption; exact rfl; exact rfl; (intro h; skip; rotate_left; intro h; skip; rotate_left))) | (first | (apply C.condT; exact rfl) | (apply C.condF; exact rfl) | (apply C.condDec; exact rfl; (intro h; skip; rotate_left; intro h; skip; rotate_left)) | (apply C.condBeq; exact rfl; (intro h; skip; rotate_left; intro h; skip; rotate_left)) | (apply C.condBne; exact rfl; (intro h; skip; rotate_left; intro h; skip; rotate_left)) | (apply C.condNDec; exact rfl; (intro h; skip; rotate_left; intro h; skip; rotate_left)) | (apply C.condNot; exact rfl; (intro h; skip; rotate_left; intro h; skip; rotate_left)) | (apply C.cond; exact rfl; (intro h; skip; rotate_left; intro h; skip; rotate_left)))))
    (apply R.call; (exact a_evs); exact rfl; exact dread_K (n := hfile) ho3; rintro _ M3 _ ⟨v6, hv6, rfl, hown6, rfl, rfl⟩)
    obtain ⟨A6, c6, rfl, _, _⟩ := hown6.form
    obtain ⟨w6, hw6⟩ : ∃ w6, w6 = (readD d hfile).getD [] := ⟨_, rfl⟩
    have hE0 : saveD d t v = if w6.length < 256 then (appE d hfile f, opD (appE d hfile f) d (.app hfile f)) else
        if (clearD d).1 ≠ 0 then clearD d else
        if appE (clearD d).2 hnew f ≠ 0 then (appE (clearD d).2 hnew f, opD (appE (clearD d).2 hnew f) (clearD d).2 (.app hnew f)) else
        (renE (opD 0 (clearD d).2 (.app hnew f)) hnew hfile, opD (renE (opD 0 (clearD d).2 (.app hnew f)) hnew hfile) (opD 0 (clearD d).2 (.app hnew f)) (.ren hnew hfile)) := by
      rw [hw6, ← hf]
      exact if_neg (by rw [hr]; decide)
    rw [← hw6] at hown6 ⊢
    by_cases h256 : w6.length < 256
    · rw [hE0, if_pos h256] at hQ
      (repeat' (first | (apply R.step; (apply Ok.move; exact rfl); exact rfl) | (apply R.step; (apply Ok.ltTr; exact rfl; exact rfl; omega); exact rfl) | (apply R.step; (exact a_ok); exact rfl) | (first | (with_reducible first | apply R.nil | apply C.ret | apply C.block | apply C.skip | apply C.exit | apply Fin.thenRet | apply Fin.thenExit | apply Fin.blockNormal | apply Fin.blockRet | apply Fin.blockExit) | (with_reducible apply Fin.thenK; assumption) | (with_reducible apply C.seqK; intro _ _) | (with_reducible apply C.regionK; intro _ _) | (with_reducible apply Fin.blockOther; exact rfl)) | (first | (apply R.store; exact rfl; exact rfl; exact rfl; (exact a_at); (exact a_blit); exact rfl; (focus (simp [Value.oneCell']; done))) | (apply R.buildSlice0; exact rfl; intro bz) | (apply R.box; exact rfl; (simp only [Value.cells]; rfl); exact rfl; intro bx) | (apply R.alloc; (simp only [Value.cells]; rfl); exact rfl; intro ba) | (apply R.buildSlice; (exact a_prt); exact rfl; exact rfl; (exact a_fills); exact rfl; intro bl)) | (first | (apply R.guardT; assumption; exact rfl; exact rfl; exact rfl) | (apply R.guardF; assumption; exact rfl; exact rfl; exact rfl; exact rfl; exact rfl) | (apply R.guardU; assumption; exact rfl; exact rfl; exact rfl; exact rfl) | (apply R.guardDec; assumption; exact rfl; exact rfl; (intro h; skip; rotate_left; intro h; skip; rotate_left)) | (apply R.guardBeq; assumption; exact rfl; exact rfl; (intro h; skip; rotate_left; intro h; skip; rotate_left)) | (apply R.guardBne; assumption; exact rfl; exact rfl; (intro h; skip; rotate_left; intro h; skip; rotate_left)) | (apply R.guardNDec; assumption; exact rfl; exact rfl; (intro h; skip; rotate_left; intro h; skip; rotate_left)) | (apply R.guardNot; assumption; exact rfl; exact rfl; (intro h; skip; rotate_left; intro h; skip; rotate_left)) | (apply R.guardC; assumption; exact rfl; exact rfl; (intro h; skip; rotate_left; intro h; skip; rotate_left))) | (first | (apply C.condT; exact rfl) | (apply C.condF; exact rfl) | (apply C.condDec; exact rfl; (intro h; skip; rotate_left; intro h; skip; rotate_left)) | (apply C.condBeq; exact rfl; (intro h; skip; rotate_left; intro h; skip; rotate_left)) | (apply C.condBne; exact rfl; (intro h; skip; rotate_left; intro h; skip; rotate_left)) | (apply C.condNDec; exact rfl; (intro h; skip; rotate_left; intro h; skip; rotate_left)) | (apply C.condNot; exact rfl; (intro h; skip; rotate_left; intro h; skip; rotate_left)) | (apply C.cond; exact rfl; (intro h; skip; rotate_left; intro h; skip; rotate_left)))))
      apply R.arr (H2 := hp ++ H) (by ((try simp only [List.append_assoc, List.cons_append, List.nil_append, List.append_nil]); exact a_arr))
      (apply R.call; (exact a_evs); exact rfl; exact append_K (n := hfile) ho3 hb5 (by omega) (by decide) (by omega); rintro _ M4 _ ⟨rfl, hM4, hp7, ho7, rfl⟩)
      (repeat' (first | (apply R.step; (exact a_ok); exact rfl) | (first | (with_reducible first | apply R.nil | apply C.ret | apply C.block | apply C.skip | apply C.exit | apply Fin.thenRet | apply Fin.thenExit | apply Fin.blockNormal | apply Fin.blockRet | apply Fin.blockExit) | (with_reducible apply Fin.thenK; assumption) | (with_reducible apply C.seqK; intro _ _) | (with_reducible apply C.regionK; intro _ _) | (with_reducible apply Fin.blockOther; exact rfl)) | (first | (apply R.store; exact rfl; exact rfl; exact rfl; (exact a_at); (exact a_blit); exact rfl; (focus (simp [Value.oneCell']; done))) | (apply R.buildSlice0; exact rfl; intro bz) | (apply R.box; exact rfl; (simp only [Value.cells]; rfl); exact rfl; intro bx) | (apply R.alloc; (simp only [Value.cells]; rfl); exact rfl; intro ba) | (apply R.buildSlice; (exact a_prt); exact rfl; exact rfl; (exact a_fills); exact rfl; intro bl)) | (first | (apply R.guardT; assumption; exact rfl; exact rfl; exact rfl) | (apply R.guardF; assumption; exact rfl; exact rfl; exact rfl; exact rfl; exact rfl) | (apply R.guardU; assumption; exact rfl; exact rfl; exact rfl; exact rfl) | (apply R.guardDec; assumption; exact rfl; exact rfl; (intro h; skip; rotate_left; intro h; skip; rotate_left)) | (apply R.guardBeq; assumption; exact rfl; exact rfl; (intro h; skip; rotate_left; intro h; skip; rotate_left)) | (apply R.guardBne; assumption; exact rfl; exact rfl; (intro h; skip; rotate_left; intro h; skip; rotate_left)) | (apply R.guardNDec; assumption; exact rfl; exact rfl; (intro h; skip; rotate_left; intro h; skip; rotate_left)) | (apply R.guardNot; assumption; exact rfl; exact rfl; (intro h; skip; rotate_left; intro h; skip; rotate_left)) | (apply R.guardC; assumption; exact rfl; exact rfl; (intro h; skip; rotate_left; intro h; skip; rotate_left))) | (first | (apply C.condT; exact rfl) | (apply C.condF; exact rfl) | (apply C.condDec; exact rfl; (intro h; skip; rotate_left; intro h; skip; rotate_left)) | (apply C.condBeq; exact rfl; (intro h; skip; rotate_left; intro h; skip; rotate_left)) | (apply C.condBne; exact rfl; (intro h; skip; rotate_left; intro h; skip; rotate_left)) | (apply C.condNDec; exact rfl; (intro h; skip; rotate_left; intro h; skip; rotate_left)) | (apply C.condNot; exact rfl; (intro h; skip; rotate_left; intro h; skip; rotate_left)) | (apply C.cond; exact rfl; (intro h; skip; rotate_left; intro h; skip; rotate_left)))))
      (apply Fin.returnA (H2 := hp7 ++ H); assumption; (first | exact .inl rfl | exact .inr rfl); exact rfl; (exact a_res); (simp only [retv]; rfl); (exact a_arr))
      exact ⟨rfl, hM2.trans_ (hM3.trans_ hM4), hp7, ho7, rfl⟩
    · rw [if_neg h256] at hE0
      (repeat' (first | (apply R.step; (apply Ok.move; exact rfl); exact rfl) | (apply R.step; (apply Ok.ltF; exact rfl; exact rfl; omega); exact rfl) | (apply R.step; (exact a_ok); exact rfl) | (first | (with_reducible first | apply R.nil | apply C.ret | apply C.block | apply C.skip | apply C.exit | apply Fin.thenRet | apply Fin.thenExit | apply Fin.blockNormal | apply Fin.blockRet | apply Fin.blockExit) | (with_reducible apply Fin.thenK; assumption) | (with_reducible apply C.seqK; intro _ _) | (with_reducible apply C.regionK; intro _ _) | (with_reducible apply Fin.blockOther; exact rfl)) | (first | (apply R.store; exact rfl; exact rfl; exact rfl; (exact a_at); (exact a_blit); exact rfl; (focus (simp [Value.oneCell']; done))) | (apply R.buildSlice0; exact rfl; intro bz) | (apply R.box; exact rfl; (simp only [Value.cells]; rfl); exact rfl; intro bx) | (apply R.alloc; (simp only [Value.cells]; rfl); exact rfl; intro ba) | (apply R.buildSlice; (exact a_prt); exact rfl; exact rfl; (exact a_fills); exact rfl; intro bl)) | (first | (apply R.guardT; assumption; exact rfl; exact rfl; exact rfl) | (apply R.guardF; assumption; exact rfl; exact rfl; exact rfl; exact rfl; exact rfl) | (apply R.guardU; assumption; exact rfl; exact rfl; exact rfl; exact rfl) | (apply R.guardDec; assumption; exact rfl; exact rfl; (intro h; skip; rotate_left; intro h; skip; rotate_left)) | (apply R.guardBeq; assumption; exact rfl; exact rfl; (intro h; skip; rotate_left; intro h; skip; rotate_left)) | (apply R.guardBne; assumption; exact rfl; exact rfl; (intro h; skip; rotate_left; intro h; skip; rotate_left)) | (apply R.guardNDec; assumption; exact rfl; exact rfl; (intro h; skip; rotate_left; intro h; skip; rotate_left)) | (apply R.guardNot; assumption; exact rfl; exact rfl; (intro h; skip; rotate_left; intro h; skip; rotate_left)) | (apply R.guardC; assumption; exact rfl; exact rfl; (intro h; skip; rotate_left; intro h; skip; rotate_left))) | (first | (apply C.condT; exact rfl) | (apply C.condF; exact rfl) | (apply C.condDec; exact rfl; (intro h; skip; rotate_left; intro h; skip; rotate_left)) | (apply C.condBeq; exact rfl; (intro h; skip; rotate_left; intro h; skip; rotate_left)) | (apply C.condBne; exact rfl; (intro h; skip; rotate_left; intro h; skip; rotate_left)) | (apply C.condNDec; exact rfl; (intro h; skip; rotate_left; intro h; skip; rotate_left)) | (apply C.condNot; exact rfl; (intro h; skip; rotate_left; intro h; skip; rotate_left)) | (apply C.cond; exact rfl; (intro h; skip; rotate_left; intro h; skip; rotate_left)))))
      apply R.arr (H2 := hp ++ H) (by ((try simp only [List.append_assoc, List.cons_append, List.nil_append, List.append_nil]); exact a_arr))
      (apply R.call; (exact a_evs); exact rfl; exact clear_K ho3 (by omega); rintro _ M4 _ ⟨rfl, hM4, hp7, ho7, rfl⟩)
      have hcp := clearD_ps d
      by_cases hc1 : (clearD d).1 ≠ 0
      · rw [hE0, if_pos hc1] at hQ
        (repeat' (first | (apply R.step; (apply Ok.move; exact rfl); exact rfl) | (apply R.step; (apply Ok.neIT; exact rfl; exact rfl; exact hc1); exact rfl) | (apply R.step; (exact a_ok); exact rfl) | (first | (with_reducible first | apply R.nil | apply C.ret | apply C.block | apply C.skip | apply C.exit | apply Fin.thenRet | apply Fin.thenExit | apply Fin.blockNormal | apply Fin.blockRet | apply Fin.blockExit) | (with_reducible apply Fin.thenK; assumption) | (with_reducible apply C.seqK; intro _ _) | (with_reducible apply C.regionK; intro _ _) | (with_reducible apply Fin.blockOther; exact rfl)) | (first | (apply R.store; exact rfl; exact rfl; exact rfl; (exact a_at); (exact a_blit); exact rfl; (focus (simp [Value.oneCell']; done))) | (apply R.buildSlice0; exact rfl; intro bz) | (apply R.box; exact rfl; (simp only [Value.cells]; rfl); exact rfl; intro bx) | (apply R.alloc; (simp only [Value.cells]; rfl); exact rfl; intro ba) | (apply R.buildSlice; (exact a_prt); exact rfl; exact rfl; (exact a_fills); exact rfl; intro bl)) | (first | (apply R.guardT; assumption; exact rfl; exact rfl; exact rfl) | (apply R.guardF; assumption; exact rfl; exact rfl; exact rfl; exact rfl; exact rfl) | (apply R.guardU; assumption; exact rfl; exact rfl; exact rfl; exact rfl) | (apply R.guardDec; assumption; exact rfl; exact rfl; (intro h; skip; rotate_left; intro h; skip; rotate_left)) | (apply R.guardBeq; assumption; exact rfl; exact rfl; (intro h; skip; rotate_left; intro h; skip; rotate_left)) | (apply R.guardBne; assumption; exact rfl; exact rfl; (intro h; skip; rotate_left; intro h; skip; rotate_left)) | (apply R.guardNDec; assumption; exact rfl; exact rfl; (intro h; skip; rotate_left; intro h; skip; rotate_left)) | (apply R.guardNot; assumption; exact rfl; exact rfl; (intro h; skip; rotate_left; intro h; skip; rotate_left)) | (apply R.guardC; assumption; exact rfl; exact rfl; (intro h; skip; rotate_left; intro h; skip; rotate_left))) | (first | (apply C.condT; exact rfl) | (apply C.condF; exact rfl) | (apply C.condDec; exact rfl; (intro h; skip; rotate_left; intro h; skip; rotate_left)) | (apply C.condBeq; exact rfl; (intro h; skip; rotate_left; intro h; skip; rotate_left)) | (apply C.condBne; exact rfl; (intro h; skip; rotate_left; intro h; skip; rotate_left)) | (apply C.condNDec; exact rfl; (intro h; skip; rotate_left; intro h; skip; rotate_left)) | (apply C.condNot; exact rfl; (intro h; skip; rotate_left; intro h; skip; rotate_left)) | (apply C.cond; exact rfl; (intro h; skip; rotate_left; intro h; skip; rotate_left)))))
        (apply Fin.returnA (H2 := hp7 ++ H); assumption; (first | exact .inl rfl | exact .inr rfl); exact rfl; (exact a_res); (simp only [retv]; rfl); (exact a_arr))
        exact ⟨rfl, hM2.trans_ (hM3.trans_ hM4), hp7, ho7, rfl⟩
      rw [if_neg hc1] at hE0
      have hc0 : (clearD d).1 = 0 := by omega
      rw [hc0]
      generalize (clearD d).2 = d1 at hE0 ho7 hcp
      (repeat' (first | (apply R.step; (exact a_ok); exact rfl) | (first | (with_reducible first | apply R.nil | apply C.ret | apply C.block | apply C.skip | apply C.exit | apply Fin.thenRet | apply Fin.thenExit | apply Fin.blockNormal | apply Fin.blockRet | apply Fin.blockExit) | (with_reducible apply Fin.thenK; assumption) | (with_reducible apply C.seqK; intro _ _) | (with_reducible apply C.regionK; intro _ _) | (with_reducible apply Fin.blockOther; exact rfl)) | (first | (apply R.store; exact rfl; exact rfl; exact rfl; (exact a_at); (exact a_blit); exact rfl; (focus (simp [Value.oneCell']; done))) | (apply R.buildSlice0; exact rfl; intro bz) | (apply R.box; exact rfl; (simp only [Value.cells]; rfl); exact rfl; intro bx) | (apply R.alloc; (simp only [Value.cells]; rfl); exact rfl; intro ba) | (apply R.buildSlice; (exact a_prt); exact rfl; exact rfl; (exact a_fills); exact rfl; intro bl)) | (first | (apply R.guardT; assumption; exact rfl; exact rfl; exact rfl) | (apply R.guardF; assumption; exact rfl; exact rfl; exact rfl; exact rfl; exact rfl) | (apply R.guardU; assumption; exact rfl; exact rfl; exact rfl; exact rfl) | (apply R.guardDec; assumption; exact rfl; exact rfl; (intro h; skip; rotate_left; intro h; skip; rotate_left)) | (apply R.guardBeq; assumption; exact rfl; exact rfl; (intro h; skip; rotate_left; intro h; skip; rotate_left)) | (apply R.guardBne; assumption; exact rfl; exact rfl; (intro h; skip; rotate_left; intro h; skip; rotate_left)) | (apply R.guardNDec; assumption; exact rfl; exact rfl; (intro h; skip; rotate_left; intro h; skip; rotate_left)) | (apply R.guardNot; assumption; exact rfl; exact rfl; (intro h; skip; rotate_left; intro h; skip; rotate_left)) | (apply R.guardC; assumption; exact rfl; exact rfl; (intro h; skip; rotate_left; intro h; skip; rotate_left))) | (first | (apply C.condT; exact rfl) | (apply C.condF; exact rfl) | (apply C.condDec; exact rfl; (intro h; skip; rotate_left; intro h; skip; rotate_left)) | (apply C.condBeq; exact rfl; (intro h; skip; rotate_left; intro h; skip; rotate_left)) | (apply C.condBne; exact rfl; (intro h; skip; rotate_left; intro h; skip; rotate_left)) | (apply C.condNDec; exact rfl; (intro h; skip; rotate_left; intro h; skip; rotate_left)) | (apply C.condNot; exact rfl; (intro h; skip; rotate_left; intro h; skip; rotate_left)) | (apply C.cond; exact rfl; (intro h; skip; rotate_left; intro h; skip; rotate_left)))))
      (apply R.call; (exact a_evs); exact rfl; exact append_K (n := hnew) ho7 (hb5.mono hM4) (by omega) (by decide) (by omega); rintro _ M5 _ ⟨rfl, hM5, hp8, ho8, rfl⟩)
      by_cases ha1 : appE d1 hnew f ≠ 0
      · rw [hE0, if_pos ha1] at hQ
        (repeat' (first | (apply R.step; (apply Ok.move; exact rfl); exact rfl) | (apply R.step; (apply Ok.neIT; exact rfl; exact rfl; exact ha1); exact rfl) | (apply R.step; (exact a_ok); exact rfl) | (first | (with_reducible first | apply R.nil | apply C.ret | apply C.block | apply C.skip | apply C.exit | apply Fin.thenRet | apply Fin.thenExit | apply Fin.blockNormal | apply Fin.blockRet | apply Fin.blockExit) | (with_reducible apply Fin.thenK; assumption) | (with_reducible apply C.seqK; intro _ _) | (with_reducible apply C.regionK; intro _ _) | (with_reducible apply Fin.blockOther; exact rfl)) | (first | (apply R.store; exact rfl; exact rfl; exact rfl; (exact a_at); (exact a_blit); exact rfl; (focus (simp [Value.oneCell']; done))) | (apply R.buildSlice0; exact rfl; intro bz) | (apply R.box; exact rfl; (simp only [Value.cells]; rfl); exact rfl; intro bx) | (apply R.alloc; (simp only [Value.cells]; rfl); exact rfl; intro ba) | (apply R.buildSlice; (exact a_prt); exact rfl; exact rfl; (exact a_fills); exact rfl; intro bl)) | (first | (apply R.guardT; assumption; exact rfl; exact rfl; exact rfl) | (apply R.guardF; assumption; exact rfl; exact rfl; exact rfl; exact rfl; exact rfl) | (apply R.guardU; assumption; exact rfl; exact rfl; exact rfl; exact rfl) | (apply R.guardDec; assumption; exact rfl; exact rfl; (intro h; skip; rotate_left; intro h; skip; rotate_left)) | (apply R.guardBeq; assumption; exact rfl; exact rfl; (intro h; skip; rotate_left; intro h; skip; rotate_left)) | (apply R.guardBne; assumption; exact rfl; exact rfl; (intro h; skip; rotate_left; intro h; skip; rotate_left)) | (apply R.guardNDec; assumption; exact rfl; exact rfl; (intro h; skip; rotate_left; intro h; skip; rotate_left)) | (apply R.guardNot; assumption; exact rfl; exact rfl; (intro h; skip; rotate_left; intro h; skip; rotate_left)) | (apply R.guardC; assumption; exact rfl; exact rfl; (intro h; skip; rotate_left; intro h; skip; rotate_left))) | (first | (apply C.condT; exact rfl) | (apply C.condF; exact rfl) | (apply C.condDec; exact rfl; (intro h; skip; rotate_left; intro h; skip; rotate_left)) | (apply C.condBeq; exact rfl; (intro h; skip; rotate_left; intro h; skip; rotate_left)) | (apply C.condBne; exact rfl; (intro h; skip; rotate_left; intro h; skip; rotate_left)) | (apply C.condNDec; exact rfl; (intro h; skip; rotate_left; intro h; skip; rotate_left)) | (apply C.condNot; exact rfl; (intro h; skip; rotate_left; intro h; skip; rotate_left)) | (apply C.cond; exact rfl; (intro h; skip; rotate_left; intro h; skip; rotate_left)))))
        (apply Fin.returnA (H2 := hp8 ++ H); assumption; (first | exact .inl rfl | exact .inr rfl); exact rfl; (exact a_res); (simp only [retv]; rfl); (exact a_arr))
        exact ⟨rfl, hM2.trans_ (hM3.trans_ (hM4.trans_ hM5)), hp8, ho8, rfl⟩
      rw [if_neg ha1] at hE0
      have ha0 : appE d1 hnew f = 0 := by omega
      rw [ha0] at ho8 ⊢
      have hps := opD_ps d1 0 (.app hnew f)
      rw [hE0] at hQ
      (repeat' (first | (apply R.step; (exact a_ok); exact rfl) | (first | (with_reducible first | apply R.nil | apply C.ret | apply C.block | apply C.skip | apply C.exit | apply Fin.thenRet | apply Fin.thenExit | apply Fin.blockNormal | apply Fin.blockRet | apply Fin.blockExit) | (with_reducible apply Fin.thenK; assumption) | (with_reducible apply C.seqK; intro _ _) | (with_reducible apply C.regionK; intro _ _) | (with_reducible apply Fin.blockOther; exact rfl)) | (first | (apply R.store; exact rfl; exact rfl; exact rfl; (exact a_at); (exact a_blit); exact rfl; (focus (simp [Value.oneCell']; done))) | (apply R.buildSlice0; exact rfl; intro bz) | (apply R.box; exact rfl; (simp only [Value.cells]; rfl); exact rfl; intro bx) | (apply R.alloc; (simp only [Value.cells]; rfl); exact rfl; intro ba) | (apply R.buildSlice; (exact a_prt); exact rfl; exact rfl; (exact a_fills); exact rfl; intro bl)) | (first | (apply R.guardT; assumption; exact rfl; exact rfl; exact rfl) | (apply R.guardF; assumption; exact rfl; exact rfl; exact rfl; exact rfl; exact rfl) | (apply R.guardU; assumption; exact rfl; exact rfl; exact rfl; exact rfl) | (apply R.guardDec; assumption; exact rfl; exact rfl; (intro h; skip; rotate_left; intro h; skip; rotate_left)) | (apply R.guardBeq; assumption; exact rfl; exact rfl; (intro h; skip; rotate_left; intro h; skip; rotate_left)) | (apply R.guardBne; assumption; exact rfl; exact rfl; (intro h; skip; rotate_left; intro h; skip; rotate_left)) | (apply R.guardNDec; assumption; exact rfl; exact rfl; (intro h; skip; rotate_left; intro h; skip; rotate_left)) | (apply R.guardNot; assumption; exact rfl; exact rfl; (intro h; skip; rotate_left; intro h; skip; rotate_left)) | (apply R.guardC; assumption; exact rfl; exact rfl; (intro h; skip; rotate_left; intro h; skip; rotate_left))) | (first | (apply C.condT; exact rfl) | (apply C.condF; exact rfl) | (apply C.condDec; exact rfl; (intro h; skip; rotate_left; intro h; skip; rotate_left)) | (apply C.condBeq; exact rfl; (intro h; skip; rotate_left; intro h; skip; rotate_left)) | (apply C.condBne; exact rfl; (intro h; skip; rotate_left; intro h; skip; rotate_left)) | (apply C.condNDec; exact rfl; (intro h; skip; rotate_left; intro h; skip; rotate_left)) | (apply C.condNot; exact rfl; (intro h; skip; rotate_left; intro h; skip; rotate_left)) | (apply C.cond; exact rfl; (intro h; skip; rotate_left; intro h; skip; rotate_left)))))
      (apply R.call; (exact a_evs); exact rfl; exact rename_K (n := hnew) (t := hfile) ho8 (by omega) (by decide); rintro _ M6 _ ⟨rfl, hM6, hp9, ho9, rfl⟩)
      (repeat' (first | (apply R.step; (exact a_ok); exact rfl) | (first | (with_reducible first | apply R.nil | apply C.ret | apply C.block | apply C.skip | apply C.exit | apply Fin.thenRet | apply Fin.thenExit | apply Fin.blockNormal | apply Fin.blockRet | apply Fin.blockExit) | (with_reducible apply Fin.thenK; assumption) | (with_reducible apply C.seqK; intro _ _) | (with_reducible apply C.regionK; intro _ _) | (with_reducible apply Fin.blockOther; exact rfl)) | (first | (apply R.store; exact rfl; exact rfl; exact rfl; (exact a_at); (exact a_blit); exact rfl; (focus (simp [Value.oneCell']; done))) | (apply R.buildSlice0; exact rfl; intro bz) | (apply R.box; exact rfl; (simp only [Value.cells]; rfl); exact rfl; intro bx) | (apply R.alloc; (simp only [Value.cells]; rfl); exact rfl; intro ba) | (apply R.buildSlice; (exact a_prt); exact rfl; exact rfl; (exact a_fills); exact rfl; intro bl)) | (first | (apply R.guardT; assumption; exact rfl; exact rfl; exact rfl) | (apply R.guardF; assumption; exact rfl; exact rfl; exact rfl; exact rfl; exact rfl) | (apply R.guardU; assumption; exact rfl; exact rfl; exact rfl; exact rfl) | (apply R.guardDec; assumption; exact rfl; exact rfl; (intro h; skip; rotate_left; intro h; skip; rotate_left)) | (apply R.guardBeq; assumption; exact rfl; exact rfl; (intro h; skip; rotate_left; intro h; skip; rotate_left)) | (apply R.guardBne; assumption; exact rfl; exact rfl; (intro h; skip; rotate_left; intro h; skip; rotate_left)) | (apply R.guardNDec; assumption; exact rfl; exact rfl; (intro h; skip; rotate_left; intro h; skip; rotate_left)) | (apply R.guardNot; assumption; exact rfl; exact rfl; (intro h; skip; rotate_left; intro h; skip; rotate_left)) | (apply R.guardC; assumption; exact rfl; exact rfl; (intro h; skip; rotate_left; intro h; skip; rotate_left))) | (first | (apply C.condT; exact rfl) | (apply C.condF; exact rfl) | (apply C.condDec; exact rfl; (intro h; skip; rotate_left; intro h; skip; rotate_left)) | (apply C.condBeq; exact rfl; (intro h; skip; rotate_left; intro h; skip; rotate_left)) | (apply C.condBne; exact rfl; (intro h; skip; rotate_left; intro h; skip; rotate_left)) | (apply C.condNDec; exact rfl; (intro h; skip; rotate_left; intro h; skip; rotate_left)) | (apply C.condNot; exact rfl; (intro h; skip; rotate_left; intro h; skip; rotate_left)) | (apply C.cond; exact rfl; (intro h; skip; rotate_left; intro h; skip; rotate_left)))))
      (apply Fin.returnA (H2 := hp9 ++ H); assumption; (first | exact .inl rfl | exact .inr rfl); exact rfl; (exact a_res); (simp only [retv]; rfl); (exact a_arr))
      exact ⟨rfl, hM2.trans_ (hM3.trans_ (hM4.trans_ (hM5.trans_ hM6))), hp9, ho9, rfl⟩
end Go.Sx
end
section
namespace Go.Sx
open Go Go.Proofs Go.RowKit
attribute [local irreducible] C R Fin K Own OwnT Rd Pl Ok KOf RetOk OpsOf RP KP Res NoPanic KV KE MapS ItS EntS FsO FsR RowD PlD DkO
variable {M M' : Mem} {H H1 H2 : Hp}
def recP (x : Txt) : Option (Nat × Int) :=
  if endR x (byteR x 7 (numRd x 72057594037927935 0 0).2.1 (numRd x 72057594037927935 0 0).2.2).2.1 (byteR x 7 (numRd x 72057594037927935 0 0).2.1 (numRd x 72057594037927935 0 0).2.2).2.2 = 0
  then some ((numRd x 72057594037927935 0 0).1, ((byteR x 7 (numRd x 72057594037927935 0 0).2.1 (numRd x 72057594037927935 0 0).2.2).1.toNat : Int)) else none
def openF : List Txt → Nat × Int → Nat → (Nat × Int) × Nat
  | [], h, at_ => (h, at_)
  | x :: xs, h, at_ => match recP x with
    | none => (h, at_)
    | some h' => openF xs h' (at_ + (frameS x).length)
theorem openF_some {x : Txt} {xs : List Txt} {h h' : Nat × Int} {a : Nat} (e : recP x = some h') : openF (x :: xs) h a = openF xs h' (a + (frameS x).length) := by rw [openF, e]
theorem openF_none {x : Txt} {xs : List Txt} {h : Nat × Int} {a : Nat} (e : recP x = none) : openF (x :: xs) h a = (h, a) := by rw [openF, e]
structure OpS where
  h : Nat × Int
  at_ : Nat
  brk : Bool
  M : Mem
def OpSt (s : OpS) (r : Txt) (b : Bool) (s1 : OpS) : Prop := s.M.le s1.M ∧ r.length ≤ 65536 ∧
  ((recP r = none ∧ b = false ∧ s1.h = s.h ∧ s1.at_ = s.at_ ∧ s1.brk = true) ∨ (b = true ∧ recP r = some s1.h ∧ s1.at_ = s.at_ + (frameS r).length ∧ s1.brk = false))
theorem told_op {s0 : OpS} (h0 : s0.brk = false) {pre : List Txt} {s : OpS} (h : Told OpSt s0 pre s) : s0.M.le s.M ∧ s.brk = false ∧ s.at_ = s0.at_ + endS pre ∧ ∀ rest, openF (pre ++ rest) s0.h s0.at_ = openF rest s.h s.at_ := by
  induction h with
  | nil => exact ⟨Mem.le_refl _, h0, rfl, fun _ => rfl⟩
  | more _ hs ih =>
    obtain ⟨i1, i2, i3, i4⟩ := ih
    obtain ⟨h1, h2, ⟨_, h3, _⟩ | ⟨_, h3, h4, h5⟩⟩ := hs
    · cases h3
    · refine ⟨i1.trans_ h1, h5, ?_, fun rest => ?_⟩
      · rw [h4, i3, endS_append, frameS_len h2]
        unfold endS
        simp
        omega
      · rw [List.append_assoc, i4]
        show openF (_ :: rest) _ _ = _
        rw [openF_some h3, h4]
theorem ends_op {s0 : OpS} (h0 : s0.brk = false) {l : List Txt} {s : OpS} (h : Ends OpSt s0 l s) : s0.M.le s.M ∧ openF l s0.h s0.at_ = (s.h, s.at_) := by
  rcases h with h | ⟨pre, r, rest, s1, rfl, h, hs⟩
  · obtain ⟨i1, _, _, i4⟩ := told_op h0 h
    have := i4 []
    rw [List.append_nil] at this
    exact ⟨i1, this⟩
  · obtain ⟨i1, _, _, i4⟩ := told_op h0 h
    obtain ⟨h1, _, ⟨h3, _, h4, h5, _⟩ | ⟨h3, _⟩⟩ := hs
    · refine ⟨i1.trans_ h1, ?_⟩
      rw [i4, openF_none h3, h4, h5]
    · cases h3
def openC (d1 : Dk) (b : Txt) (z : (Nat × Int) × Nat) : Int × Dk × (Nat × Int) :=
  if z.2 < b.length then (if trcE d1 hfile (z.2 : Int) ≠ 0 then (trcE d1 hfile (z.2 : Int), opD (trcE d1 hfile (z.2 : Int)) d1 (.trc hfile z.2), (0, 0)) else (0, opD 0 d1 (.trc hfile z.2), z.1)) else (0, d1, z.1)
def openD (d : Dk) : Int × Dk × (Nat × Int) :=
  if (clearD d).1 ≠ 0 then ((clearD d).1, (clearD d).2, (0, 0)) else
  openC (clearD d).2 ((readD (clearD d).2 hfile).getD []) (openF (framesF ((readD (clearD d).2 hfile).getD []).length ((readD (clearD d).2 hfile).getD [])) (0, 0) 0)
def hrdV (h : Nat × Int) : Value := .agg (hrdC h.1 h.2).toArray
theorem readD_len {d : Dk} (h : d.ok) (n : Txt) : ((readD d n).getD []).length ≤ 1048576 := by
  unfold readD
  split
  · exact Nat.zero_le _
  · exact Nat.le_trans fileD_len h.sum
theorem open_K {db : Nat} {d : Dk} {hp : Hp} (ho : DkO M db d hp) (hlen : d.ps.length ≤ 900000) : K Try.prog 23 [.pointer (some ⟨db, 0, none⟩)] M (hp ++ H) fun v' M' H' => v' = .tuple #[hrdV (openD d).2.2, .int .i64 (openD d).1] ∧ M.le M' ∧ ∃ hp', DkO M' db (openD d).2.1 hp' ∧ H' = hp' ++ H := by
  refine K.enterM Try.func23 rfl rfl rfl ?_
  intro Q hNP hQ
  unfold hrdV hrdC at hQ
  (repeat' (first | (apply R.step; (exact a_ok); exact rfl) | (first | (with_reducible first | apply R.nil | apply C.ret | apply C.block | apply C.skip | apply C.exit | apply Fin.thenRet | apply Fin.thenExit | apply Fin.blockNormal | apply Fin.blockRet | apply Fin.blockExit) | (with_reducible apply Fin.thenK; assumption) | (with_reducible apply C.seqK; intro _ _) | (with_reducible apply C.regionK; intro _ _) | (with_reducible apply Fin.blockOther; exact rfl)) | (apply R.store; exact rfl; exact rfl; exact rfl; (exact a_at); (exact a_blit); exact rfl; (focus (simp [Value.oneCell']; done))) | (first | (apply R.guardT; assumption; exact rfl; exact rfl; exact rfl) | (apply R.guardF; assumption; exact rfl; exact rfl; exact rfl; exact rfl; exact rfl) | (apply R.guardU; assumption; exact rfl; exact rfl; exact rfl; exact rfl) | (apply R.guardDec; assumption; exact rfl; exact rfl; (intro h; skip; rotate_left; intro h; skip; rotate_left)) | (apply R.guardBeq; assumption; exact rfl; exact rfl; (intro h; skip; rotate_left; intro h; skip; rotate_left)) | (apply R.guardBne; assumption; exact rfl; exact rfl; (intro h; skip; rotate_left; intro h; skip; rotate_left)) | (apply R.guardNDec; assumption; exact rfl; exact rfl; (intro h; skip; rotate_left; intro h; skip; rotate_left)) | (apply R.guardNot; assumption; exact rfl; exact rfl; (intro h; skip; rotate_left; intro h; skip; rotate_left)) | (apply R.guardC; assumption; exact rfl; exact rfl; (intro h; skip; rotate_left; intro h; skip; rotate_left))) | (first | (apply C.condT; exact rfl) | (apply C.condF; exact rfl) | (apply C.condDec; exact rfl; (intro h; skip; rotate_left; intro h; skip; rotate_left)) | (apply C.condBeq; exact rfl; (intro h; skip; rotate_left; intro h; skip; rotate_left)) | (apply C.condBne; exact rfl; (intro h; skip; rotate_left; intro h; skip; rotate_left)) | (apply C.condNDec; exact rfl; (intro h; skip; rotate_left; intro h; skip; rotate_left)) | (apply C.condNot; exact rfl; (intro h; skip; rotate_left; intro h; skip; rotate_left)) | (apply C.cond; exact rfl; (intro h; skip; rotate_left; intro h; skip; rotate_left)))))
  ((apply R.alloc; (simp only [Value.cells]; rfl); exact rfl); intro b2)
  (repeat' (first | (apply R.step; (exact a_ok); exact rfl) | (first | (with_reducible first | apply R.nil | apply C.ret | apply C.block | apply C.skip | apply C.exit | apply Fin.thenRet | apply Fin.thenExit | apply Fin.blockNormal | apply Fin.blockRet | apply Fin.blockExit) | (with_reducible apply Fin.thenK; assumption) | (with_reducible apply C.seqK; intro _ _) | (with_reducible apply C.regionK; intro _ _) | (with_reducible apply Fin.blockOther; exact rfl)) | (first | (apply R.store; exact rfl; exact rfl; exact rfl; (exact a_at); (exact a_blit); exact rfl; (focus (simp [Value.oneCell']; done))) | (apply R.buildSlice0; exact rfl; intro bz) | (apply R.box; exact rfl; (simp only [Value.cells]; rfl); exact rfl; intro bx) | (apply R.alloc; (simp only [Value.cells]; rfl); exact rfl; intro ba) | (apply R.buildSlice; (exact a_prt); exact rfl; exact rfl; (exact a_fills); exact rfl; intro bl)) | (first | (apply R.guardT; assumption; exact rfl; exact rfl; exact rfl) | (apply R.guardF; assumption; exact rfl; exact rfl; exact rfl; exact rfl; exact rfl) | (apply R.guardU; assumption; exact rfl; exact rfl; exact rfl; exact rfl) | (apply R.guardDec; assumption; exact rfl; exact rfl; (intro h; skip; rotate_left; intro h; skip; rotate_left)) | (apply R.guardBeq; assumption; exact rfl; exact rfl; (intro h; skip; rotate_left; intro h; skip; rotate_left)) | (apply R.guardBne; assumption; exact rfl; exact rfl; (intro h; skip; rotate_left; intro h; skip; rotate_left)) | (apply R.guardNDec; assumption; exact rfl; exact rfl; (intro h; skip; rotate_left; intro h; skip; rotate_left)) | (apply R.guardNot; assumption; exact rfl; exact rfl; (intro h; skip; rotate_left; intro h; skip; rotate_left)) | (apply R.guardC; assumption; exact rfl; exact rfl; (intro h; skip; rotate_left; intro h; skip; rotate_left))) | (first | (apply C.condT; exact rfl) | (apply C.condF; exact rfl) | (apply C.condDec; exact rfl; (intro h; skip; rotate_left; intro h; skip; rotate_left)) | (apply C.condBeq; exact rfl; (intro h; skip; rotate_left; intro h; skip; rotate_left)) | (apply C.condBne; exact rfl; (intro h; skip; rotate_left; intro h; skip; rotate_left)) | (apply C.condNDec; exact rfl; (intro h; skip; rotate_left; intro h; skip; rotate_left)) | (apply C.condNot; exact rfl; (intro h; skip; rotate_left; intro h; skip; rotate_left)) | (apply C.cond; exact rfl; (intro h; skip; rotate_left; intro h; skip; rotate_left)))))
  apply R.arr (H2 := hp ++ ((b2, .cells [.int .u64 0, .int .i64 0].toArray 44 (0, 0)) :: H)) (by ((try simp only [List.append_assoc, List.cons_append, List.nil_append, List.append_nil]); exact a_arr))
  (apply R.call; (exact a_evs); exact rfl; exact clear_K ho (by omega); rintro _ M1 _ ⟨rfl, hM1, hp1, ho1, rfl⟩)
  have hcp := clearD_ps d
  by_cases hc1 : (clearD d).1 ≠ 0
  · have hE : openD d = ((clearD d).1, (clearD d).2, (0, 0)) := if_pos hc1
    rw [hE] at hQ
    (repeat' (first | (apply R.step; (apply Ok.move; exact rfl); exact rfl) | (apply R.step; (apply Ok.neIT; exact rfl; exact rfl; exact hc1); exact rfl) | (apply R.step; (exact a_ok); exact rfl) | (first | (with_reducible first | apply R.nil | apply C.ret | apply C.block | apply C.skip | apply C.exit | apply Fin.thenRet | apply Fin.thenExit | apply Fin.blockNormal | apply Fin.blockRet | apply Fin.blockExit) | (with_reducible apply Fin.thenK; assumption) | (with_reducible apply C.seqK; intro _ _) | (with_reducible apply C.regionK; intro _ _) | (with_reducible apply Fin.blockOther; exact rfl)) | (first | (apply R.store; exact rfl; exact rfl; exact rfl; (exact a_at); (exact a_blit); exact rfl; (focus (simp [Value.oneCell']; done))) | (apply R.buildSlice0; exact rfl; intro bz) | (apply R.box; exact rfl; (simp only [Value.cells]; rfl); exact rfl; intro bx) | (apply R.alloc; (simp only [Value.cells]; rfl); exact rfl; intro ba) | (apply R.buildSlice; (exact a_prt); exact rfl; exact rfl; (exact a_fills); exact rfl; intro bl)) | (first | (apply R.guardT; assumption; exact rfl; exact rfl; exact rfl) | (apply R.guardF; assumption; exact rfl; exact rfl; exact rfl; exact rfl; exact rfl) | (apply R.guardU; assumption; exact rfl; exact rfl; exact rfl; exact rfl) | (apply R.guardDec; assumption; exact rfl; exact rfl; (intro h; skip; rotate_left; intro h; skip; rotate_left)) | (apply R.guardBeq; assumption; exact rfl; exact rfl; (intro h; skip; rotate_left; intro h; skip; rotate_left)) | (apply R.guardBne; assumption; exact rfl; exact rfl; (intro h; skip; rotate_left; intro h; skip; rotate_left)) | (apply R.guardNDec; assumption; exact rfl; exact rfl; (intro h; skip; rotate_left; intro h; skip; rotate_left)) | (apply R.guardNot; assumption; exact rfl; exact rfl; (intro h; skip; rotate_left; intro h; skip; rotate_left)) | (apply R.guardC; assumption; exact rfl; exact rfl; (intro h; skip; rotate_left; intro h; skip; rotate_left))) | (first | (apply C.condT; exact rfl) | (apply C.condF; exact rfl) | (apply C.condDec; exact rfl; (intro h; skip; rotate_left; intro h; skip; rotate_left)) | (apply C.condBeq; exact rfl; (intro h; skip; rotate_left; intro h; skip; rotate_left)) | (apply C.condBne; exact rfl; (intro h; skip; rotate_left; intro h; skip; rotate_left)) | (apply C.condNDec; exact rfl; (intro h; skip; rotate_left; intro h; skip; rotate_left)) | (apply C.condNot; exact rfl; (intro h; skip; rotate_left; intro h; skip; rotate_left)) | (apply C.cond; exact rfl; (intro h; skip; rotate_left; intro h; skip; rotate_left)))))
    (apply Fin.returnM (H2 := hp1 ++ H); assumption; exact .inl rfl; exact rfl; exact Marks.nil _; (exact a_res); (simp only [retv]; rfl); (exact a_arr))
    exact ⟨rfl, hM1, hp1, ho1, rfl⟩
  have hc0 : (clearD d).1 = 0 := by omega
  have hE : openD d = openC (clearD d).2 ((readD (clearD d).2 hfile).getD []) (openF (framesF ((readD (clearD d).2 hfile).getD []).length ((readD (clearD d).2 hfile).getD [])) (0, 0) 0) := if_neg hc1
  rw [hE] at hQ
  rw [hc0]
  clear hE hc0 hc1 ho
  generalize (clearD d).2 = d1 at ho1 hcp hQ
  have hbl := readD_len ho1.isok hfile
  (repeat' (first | (apply R.step; (exact a_ok); exact rfl) | (first | (with_reducible first | apply R.nil | apply C.ret | apply C.block | apply C.skip | apply C.exit | apply Fin.thenRet | apply Fin.thenExit | apply Fin.blockNormal | apply Fin.blockRet | apply Fin.blockExit) | (with_reducible apply Fin.thenK; assumption) | (with_reducible apply C.seqK; intro _ _) | (with_reducible apply C.regionK; intro _ _) | (with_reducible apply Fin.blockOther; exact rfl)) | (first | (apply R.store; exact rfl; exact rfl; exact rfl; (exact a_at); (exact a_blit); exact rfl; (focus (simp [Value.oneCell']; done))) | (apply R.buildSlice0; exact rfl; intro bz) | (apply R.box; exact rfl; (simp only [Value.cells]; rfl); exact rfl; intro bx) | (apply R.alloc; (simp only [Value.cells]; rfl); exact rfl; intro ba) | (apply R.buildSlice; (exact a_prt); exact rfl; exact rfl; (exact a_fills); exact rfl; intro bl)) | (first | (apply R.guardT; assumption; exact rfl; exact rfl; exact rfl) | (apply R.guardF; assumption; exact rfl; exact rfl; exact rfl; exact rfl; exact rfl) | (apply R.guardU; assumption; exact rfl; exact rfl; exact rfl; exact rfl) | (apply R.guardDec; assumption; exact rfl; exact rfl; (intro h; skip; rotate_left; intro h; skip; rotate_left)) | (apply R.guardBeq; assumption; exact rfl; exact rfl; (intro h; skip; rotate_left; intro h; skip; rotate_left)) | (apply R.guardBne; assumption; exact rfl; exact rfl; (intro h; skip; rotate_left; intro h; skip; rotate_left)) | (apply R.guardNDec; assumption; exact rfl; exact rfl; (intro h; skip; rotate_left; intro h; skip; rotate_left)) | (apply R.guardNot; assumption; exact rfl; exact rfl; (intro h; skip; rotate_left; intro h; skip; rotate_left)) | (apply R.guardC; assumption; exact rfl; exact rfl; (intro h; skip; rotate_left; intro h; skip; rotate_left))) | (first | (apply C.condT; exact rfl) | (apply C.condF; exact rfl) | (apply C.condDec; exact rfl; (intro h; skip; rotate_left; intro h; skip; rotate_left)) | (apply C.condBeq; exact rfl; (intro h; skip; rotate_left; intro h; skip; rotate_left)) | (apply C.condBne; exact rfl; (intro h; skip; rotate_left; intro h; skip; rotate_left)) | (apply C.condNDec; exact rfl; (intro h; skip; rotate_left; intro h; skip; rotate_left)) | (apply C.condNot; exact rfl; (intro h; skip; rotate_left; intro h; skip; rotate_left)) | (apply C.cond; exact rfl; (intro h; skip; rotate_left; intro h; skip; rotate_left)))))
  (apply R.call; (exact a_evs); exact rfl; exact dread_K (n := hfile) ho1; rintro _ M1 _ ⟨v5, hv5, rfl, hown5, rfl, rfl⟩)
  generalize (readD d1 hfile).getD [] = b at hown5 hbl hQ
  obtain ⟨A5, c5, rfl, k1, k2⟩ := hown5.form
  (apply R.ice (hp := hv5) (H1 := hp1 ++ ((b2, .cells [.int .u64 0, .int .i64 0].toArray 44 (0, 0)) :: H)) (by (exact a_arr)); intro M2 hM2 hin5)
  have hpl5 := hown5.plIn hin5
  replace ho1 := ho1.mono hM2
  (repeat' (first | (apply R.step; (exact a_ok); exact rfl) | (first | (with_reducible first | apply R.nil | apply C.ret | apply C.block | apply C.skip | apply C.exit | apply Fin.thenRet | apply Fin.thenExit | apply Fin.blockNormal | apply Fin.blockRet | apply Fin.blockExit) | (with_reducible apply Fin.thenK; assumption) | (with_reducible apply C.seqK; intro _ _) | (with_reducible apply C.regionK; intro _ _) | (with_reducible apply Fin.blockOther; exact rfl)) | (apply R.store; exact rfl; exact rfl; exact rfl; (exact a_at); (exact a_blit); exact rfl; (focus (simp [Value.oneCell']; done))) | (first | (apply R.guardT; assumption; exact rfl; exact rfl; exact rfl) | (apply R.guardF; assumption; exact rfl; exact rfl; exact rfl; exact rfl; exact rfl) | (apply R.guardU; assumption; exact rfl; exact rfl; exact rfl; exact rfl) | (apply R.guardDec; assumption; exact rfl; exact rfl; (intro h; skip; rotate_left; intro h; skip; rotate_left)) | (apply R.guardBeq; assumption; exact rfl; exact rfl; (intro h; skip; rotate_left; intro h; skip; rotate_left)) | (apply R.guardBne; assumption; exact rfl; exact rfl; (intro h; skip; rotate_left; intro h; skip; rotate_left)) | (apply R.guardNDec; assumption; exact rfl; exact rfl; (intro h; skip; rotate_left; intro h; skip; rotate_left)) | (apply R.guardNot; assumption; exact rfl; exact rfl; (intro h; skip; rotate_left; intro h; skip; rotate_left)) | (apply R.guardC; assumption; exact rfl; exact rfl; (intro h; skip; rotate_left; intro h; skip; rotate_left))) | (first | (apply C.condT; exact rfl) | (apply C.condF; exact rfl) | (apply C.condDec; exact rfl; (intro h; skip; rotate_left; intro h; skip; rotate_left)) | (apply C.condBeq; exact rfl; (intro h; skip; rotate_left; intro h; skip; rotate_left)) | (apply C.condBne; exact rfl; (intro h; skip; rotate_left; intro h; skip; rotate_left)) | (apply C.condNDec; exact rfl; (intro h; skip; rotate_left; intro h; skip; rotate_left)) | (apply C.condNot; exact rfl; (intro h; skip; rotate_left; intro h; skip; rotate_left)) | (apply C.cond; exact rfl; (intro h; skip; rotate_left; intro h; skip; rotate_left)))))
  ((apply R.alloc; (simp only [Value.cells]; rfl); exact rfl); intro b7)
  (repeat' (first | (apply R.step; (exact a_ok); exact rfl) | (first | (with_reducible first | apply R.nil | apply C.ret | apply C.block | apply C.skip | apply C.exit | apply Fin.thenRet | apply Fin.thenExit | apply Fin.blockNormal | apply Fin.blockRet | apply Fin.blockExit) | (with_reducible apply Fin.thenK; assumption) | (with_reducible apply C.seqK; intro _ _) | (with_reducible apply C.regionK; intro _ _) | (with_reducible apply Fin.blockOther; exact rfl)) | (apply R.store; exact rfl; exact rfl; exact rfl; (exact a_at); (exact a_blit); exact rfl; (focus (simp [Value.oneCell']; done))) | (first | (apply R.guardT; assumption; exact rfl; exact rfl; exact rfl) | (apply R.guardF; assumption; exact rfl; exact rfl; exact rfl; exact rfl; exact rfl) | (apply R.guardU; assumption; exact rfl; exact rfl; exact rfl; exact rfl) | (apply R.guardDec; assumption; exact rfl; exact rfl; (intro h; skip; rotate_left; intro h; skip; rotate_left)) | (apply R.guardBeq; assumption; exact rfl; exact rfl; (intro h; skip; rotate_left; intro h; skip; rotate_left)) | (apply R.guardBne; assumption; exact rfl; exact rfl; (intro h; skip; rotate_left; intro h; skip; rotate_left)) | (apply R.guardNDec; assumption; exact rfl; exact rfl; (intro h; skip; rotate_left; intro h; skip; rotate_left)) | (apply R.guardNot; assumption; exact rfl; exact rfl; (intro h; skip; rotate_left; intro h; skip; rotate_left)) | (apply R.guardC; assumption; exact rfl; exact rfl; (intro h; skip; rotate_left; intro h; skip; rotate_left))) | (first | (apply C.condT; exact rfl) | (apply C.condF; exact rfl) | (apply C.condDec; exact rfl; (intro h; skip; rotate_left; intro h; skip; rotate_left)) | (apply C.condBeq; exact rfl; (intro h; skip; rotate_left; intro h; skip; rotate_left)) | (apply C.condBne; exact rfl; (intro h; skip; rotate_left; intro h; skip; rotate_left)) | (apply C.condNDec; exact rfl; (intro h; skip; rotate_left; intro h; skip; rotate_left)) | (apply C.condNot; exact rfl; (intro h; skip; rotate_left; intro h; skip; rotate_left)) | (apply C.cond; exact rfl; (intro h; skip; rotate_left; intro h; skip; rotate_left)))))
  ((apply R.alloc; (simp only [Value.cells]; rfl); exact rfl); intro b8)
  (repeat' (first | (apply R.step; (exact a_ok); exact rfl) | (first | (with_reducible first | apply R.nil | apply C.ret | apply C.block | apply C.skip | apply C.exit | apply Fin.thenRet | apply Fin.thenExit | apply Fin.blockNormal | apply Fin.blockRet | apply Fin.blockExit) | (with_reducible apply Fin.thenK; assumption) | (with_reducible apply C.seqK; intro _ _) | (with_reducible apply C.regionK; intro _ _) | (with_reducible apply Fin.blockOther; exact rfl)) | (first | (apply R.store; exact rfl; exact rfl; exact rfl; (exact a_at); (exact a_blit); exact rfl; (focus (simp [Value.oneCell']; done))) | (apply R.buildSlice0; exact rfl; intro bz) | (apply R.box; exact rfl; (simp only [Value.cells]; rfl); exact rfl; intro bx) | (apply R.alloc; (simp only [Value.cells]; rfl); exact rfl; intro ba) | (apply R.buildSlice; (exact a_prt); exact rfl; exact rfl; (exact a_fills); exact rfl; intro bl)) | (first | (apply R.guardT; assumption; exact rfl; exact rfl; exact rfl) | (apply R.guardF; assumption; exact rfl; exact rfl; exact rfl; exact rfl; exact rfl) | (apply R.guardU; assumption; exact rfl; exact rfl; exact rfl; exact rfl) | (apply R.guardDec; assumption; exact rfl; exact rfl; (intro h; skip; rotate_left; intro h; skip; rotate_left)) | (apply R.guardBeq; assumption; exact rfl; exact rfl; (intro h; skip; rotate_left; intro h; skip; rotate_left)) | (apply R.guardBne; assumption; exact rfl; exact rfl; (intro h; skip; rotate_left; intro h; skip; rotate_left)) | (apply R.guardNDec; assumption; exact rfl; exact rfl; (intro h; skip; rotate_left; intro h; skip; rotate_left)) | (apply R.guardNot; assumption; exact rfl; exact rfl; (intro h; skip; rotate_left; intro h; skip; rotate_left)) | (apply R.guardC; assumption; exact rfl; exact rfl; (intro h; skip; rotate_left; intro h; skip; rotate_left))) | (first | (apply C.condT; exact rfl) | (apply C.condF; exact rfl) | (apply C.condDec; exact rfl; (intro h; skip; rotate_left; intro h; skip; rotate_left)) | (apply C.condBeq; exact rfl; (intro h; skip; rotate_left; intro h; skip; rotate_left)) | (apply C.condBne; exact rfl; (intro h; skip; rotate_left; intro h; skip; rotate_left)) | (apply C.condNDec; exact rfl; (intro h; skip; rotate_left; intro h; skip; rotate_left)) | (apply C.condNot; exact rfl; (intro h; skip; rotate_left; intro h; skip; rotate_left)) | (apply C.cond; exact rfl; (intro h; skip; rotate_left; intro h; skip; rotate_left)))))
  (apply R.call; (exact a_evs); exact rfl; exact all_K; rintro _ M2 _ ⟨bx, rfl, rfl, rfl⟩)
  (repeat' (first | (apply R.step; (exact a_ok); exact rfl) | (first | (with_reducible first | apply R.nil | apply C.ret | apply C.block | apply C.skip | apply C.exit | apply Fin.thenRet | apply Fin.thenExit | apply Fin.blockNormal | apply Fin.blockRet | apply Fin.blockExit) | (with_reducible apply Fin.thenK; assumption) | (with_reducible apply C.seqK; intro _ _) | (with_reducible apply C.regionK; intro _ _) | (with_reducible apply Fin.blockOther; exact rfl)) | (first | (apply R.store; exact rfl; exact rfl; exact rfl; (exact a_at); (exact a_blit); exact rfl; (focus (simp [Value.oneCell']; done))) | (apply R.buildSlice0; exact rfl; intro bz) | (apply R.box; exact rfl; (simp only [Value.cells]; rfl); exact rfl; intro bx) | (apply R.alloc; (simp only [Value.cells]; rfl); exact rfl; intro ba) | (apply R.buildSlice; (exact a_prt); exact rfl; exact rfl; (exact a_fills); exact rfl; intro bl)) | (first | (apply R.guardT; assumption; exact rfl; exact rfl; exact rfl) | (apply R.guardF; assumption; exact rfl; exact rfl; exact rfl; exact rfl; exact rfl) | (apply R.guardU; assumption; exact rfl; exact rfl; exact rfl; exact rfl) | (apply R.guardDec; assumption; exact rfl; exact rfl; (intro h; skip; rotate_left; intro h; skip; rotate_left)) | (apply R.guardBeq; assumption; exact rfl; exact rfl; (intro h; skip; rotate_left; intro h; skip; rotate_left)) | (apply R.guardBne; assumption; exact rfl; exact rfl; (intro h; skip; rotate_left; intro h; skip; rotate_left)) | (apply R.guardNDec; assumption; exact rfl; exact rfl; (intro h; skip; rotate_left; intro h; skip; rotate_left)) | (apply R.guardNot; assumption; exact rfl; exact rfl; (intro h; skip; rotate_left; intro h; skip; rotate_left)) | (apply R.guardC; assumption; exact rfl; exact rfl; (intro h; skip; rotate_left; intro h; skip; rotate_left))) | (first | (apply C.condT; exact rfl) | (apply C.condF; exact rfl) | (apply C.condDec; exact rfl; (intro h; skip; rotate_left; intro h; skip; rotate_left)) | (apply C.condBeq; exact rfl; (intro h; skip; rotate_left; intro h; skip; rotate_left)) | (apply C.condBne; exact rfl; (intro h; skip; rotate_left; intro h; skip; rotate_left)) | (apply C.condNDec; exact rfl; (intro h; skip; rotate_left; intro h; skip; rotate_left)) | (apply C.condNot; exact rfl; (intro h; skip; rotate_left; intro h; skip; rotate_left)) | (apply C.cond; exact rfl; (intro h; skip; rotate_left; intro h; skip; rotate_left)))))
  apply C.rangeO (gf := 77) (pl := [30]) (cs := [.pointer (some ⟨bx, 0, none⟩)]); exact rfl
  intro fn tmps bD l o ho_ hfr
  have hJ : ∃ J : OpS → Hp, J = fun s => (l, o (if s.brk then .done else .ready) (if s.brk then some (.exit 0) else none)) :: (bD, .deferred (some [])) :: (b8, .cells #[.int .i64 (s.at_ : Int)] 3 (0, 0)) :: [(b7, .cells #[.int .u64 (s.h.1 : Int), .int .i64 s.h.2] 44 (0, 0))] := ⟨_, rfl⟩
  obtain ⟨J, hJ⟩ := hJ
  refine (K.arr (H2 := J ⟨(0, 0), 0, false, M2⟩ ++ ((bx, .cells #[.slice A5 b.length c5] 25 (0, 0)) :: (hp1 ++ ((b2, .cells [.int .u64 0, .int .i64 0].toArray 44 (0, 0)) :: H)))) ?_ (all1_M (J := J) (Mf := OpS.M) (St := OpSt) ⟨(0, 0), 0, false, M2⟩ hpl5 k1 (by unfold maxLen at k2; omega) ?_ ?_)).mono ?_
  · rw [hJ]
    (exact a_arr)
  · intro pre s h
    exact (told_op rfl h).1
  · intro pre r rest s v hpv H' hfr2 htold hown hr6
    obtain ⟨i1, i2, i3, i4⟩ := told_op rfl htold
    have hat : s.at_ + 8 + r.length ≤ b.length := by
      have h1 := framesF_end b.length b
      rw [hfr2, endS_append] at h1
      have h2 : endS (r :: rest) = 8 + r.length + endS rest := by simp [endS]
      dsimp only at i3
      omega
    obtain ⟨AV, capV, rfl, _, _⟩ := hown.form
    refine KV.perm (H' := (l, o .ready none) :: (bD, .deferred (some [])) :: (b8, .cells #[.int .i64 (s.at_ : Int)] 3 (0, 0)) :: (b7, .cells #[.int .u64 (s.h.1 : Int), .int .i64 s.h.2] 44 (0, 0)) :: (hpv ++ H')) ?_ ?_
    · rw [hJ]
      dsimp only
      rw [i2]
      (exact a_arr)
    subst ho_
    refine KV.roundL (pl := [30]) (vs := [.slice AV r.length capV]) (At.head _ _ _) rfl (by decide) hfr ?_
    intro Q2 hNP2 hAsg
    (repeat' (first | (apply R.step; (exact a_ok); exact rfl) | (first | (with_reducible first | apply R.nil | apply C.ret | apply C.block | apply C.skip | apply C.exit | apply Fin.thenRet | apply Fin.thenExit | apply Fin.blockNormal | apply Fin.blockRet | apply Fin.blockExit) | (with_reducible apply Fin.thenK; assumption) | (with_reducible apply C.seqK; intro _ _) | (with_reducible apply C.regionK; intro _ _) | (with_reducible apply Fin.blockOther; exact rfl)) | (first | (apply R.store; exact rfl; exact rfl; exact rfl; (exact a_at); (exact a_blit); exact rfl; (focus (simp [Value.oneCell']; done))) | (apply R.buildSlice0; exact rfl; intro bz) | (apply R.box; exact rfl; (simp only [Value.cells]; rfl); exact rfl; intro bx) | (apply R.alloc; (simp only [Value.cells]; rfl); exact rfl; intro ba) | (apply R.buildSlice; (exact a_prt); exact rfl; exact rfl; (exact a_fills); exact rfl; intro bl)) | (first | (apply R.guardT; assumption; exact rfl; exact rfl; exact rfl) | (apply R.guardF; assumption; exact rfl; exact rfl; exact rfl; exact rfl; exact rfl) | (apply R.guardU; assumption; exact rfl; exact rfl; exact rfl; exact rfl) | (apply R.guardDec; assumption; exact rfl; exact rfl; (intro h; skip; rotate_left; intro h; skip; rotate_left)) | (apply R.guardBeq; assumption; exact rfl; exact rfl; (intro h; skip; rotate_left; intro h; skip; rotate_left)) | (apply R.guardBne; assumption; exact rfl; exact rfl; (intro h; skip; rotate_left; intro h; skip; rotate_left)) | (apply R.guardNDec; assumption; exact rfl; exact rfl; (intro h; skip; rotate_left; intro h; skip; rotate_left)) | (apply R.guardNot; assumption; exact rfl; exact rfl; (intro h; skip; rotate_left; intro h; skip; rotate_left)) | (apply R.guardC; assumption; exact rfl; exact rfl; (intro h; skip; rotate_left; intro h; skip; rotate_left))) | (first | (apply C.condT; exact rfl) | (apply C.condF; exact rfl) | (apply C.condDec; exact rfl; (intro h; skip; rotate_left; intro h; skip; rotate_left)) | (apply C.condBeq; exact rfl; (intro h; skip; rotate_left; intro h; skip; rotate_left)) | (apply C.condBne; exact rfl; (intro h; skip; rotate_left; intro h; skip; rotate_left)) | (apply C.condNDec; exact rfl; (intro h; skip; rotate_left; intro h; skip; rotate_left)) | (apply C.condNot; exact rfl; (intro h; skip; rotate_left; intro h; skip; rotate_left)) | (apply C.cond; exact rfl; (intro h; skip; rotate_left; intro h; skip; rotate_left)))))
    refine hAsg _ _ _ _ _ (At.head _ _ _) ?_
    intro Q3 hR
    have hNP3 := hR.np
    apply C.ice (hp := hpv) (H1 := (l, _) :: (bD, .deferred (some [])) :: (b8, .cells #[.int .i64 (s.at_ : Int)] 3 (0, 0)) :: (b7, .cells #[.int .u64 (s.h.1 : Int), .int .i64 s.h.2] 44 (0, 0)) :: H') (by (exact a_arr))
    intro M3 hM3 hin3
    have hplr := hown.plIn hin3
    have hbr := hown.plB hin3
    (repeat' (first | (apply R.step; (exact a_ok); exact rfl) | (first | (with_reducible first | apply R.nil | apply C.ret | apply C.block | apply C.skip | apply C.exit | apply Fin.thenRet | apply Fin.thenExit | apply Fin.blockNormal | apply Fin.blockRet | apply Fin.blockExit) | (with_reducible apply Fin.thenK; assumption) | (with_reducible apply C.seqK; intro _ _) | (with_reducible apply C.regionK; intro _ _) | (with_reducible apply Fin.blockOther; exact rfl)) | (first | (apply R.store; exact rfl; exact rfl; exact rfl; (exact a_at); (exact a_blit); exact rfl; (focus (simp [Value.oneCell']; done))) | (apply R.buildSlice0; exact rfl; intro bz) | (apply R.box; exact rfl; (simp only [Value.cells]; rfl); exact rfl; intro bx) | (apply R.alloc; (simp only [Value.cells]; rfl); exact rfl; intro ba) | (apply R.buildSlice; (exact a_prt); exact rfl; exact rfl; (exact a_fills); exact rfl; intro bl)) | (first | (apply R.guardT; assumption; exact rfl; exact rfl; exact rfl) | (apply R.guardF; assumption; exact rfl; exact rfl; exact rfl; exact rfl; exact rfl) | (apply R.guardU; assumption; exact rfl; exact rfl; exact rfl; exact rfl) | (apply R.guardDec; assumption; exact rfl; exact rfl; (intro h; skip; rotate_left; intro h; skip; rotate_left)) | (apply R.guardBeq; assumption; exact rfl; exact rfl; (intro h; skip; rotate_left; intro h; skip; rotate_left)) | (apply R.guardBne; assumption; exact rfl; exact rfl; (intro h; skip; rotate_left; intro h; skip; rotate_left)) | (apply R.guardNDec; assumption; exact rfl; exact rfl; (intro h; skip; rotate_left; intro h; skip; rotate_left)) | (apply R.guardNot; assumption; exact rfl; exact rfl; (intro h; skip; rotate_left; intro h; skip; rotate_left)) | (apply R.guardC; assumption; exact rfl; exact rfl; (intro h; skip; rotate_left; intro h; skip; rotate_left))) | (first | (apply C.condT; exact rfl) | (apply C.condF; exact rfl) | (apply C.condDec; exact rfl; (intro h; skip; rotate_left; intro h; skip; rotate_left)) | (apply C.condBeq; exact rfl; (intro h; skip; rotate_left; intro h; skip; rotate_left)) | (apply C.condBne; exact rfl; (intro h; skip; rotate_left; intro h; skip; rotate_left)) | (apply C.condNDec; exact rfl; (intro h; skip; rotate_left; intro h; skip; rotate_left)) | (apply C.condNot; exact rfl; (intro h; skip; rotate_left; intro h; skip; rotate_left)) | (apply C.cond; exact rfl; (intro h; skip; rotate_left; intro h; skip; rotate_left)))))
    (apply R.call; (exact a_evs); exact rfl; exact newReader_K hbr (by omega); rintro _ M4 _ ⟨rb, v4, rfl, hM4, hb4, rfl⟩)
    (repeat' (first | (apply R.step; (exact a_ok); exact rfl) | (first | (with_reducible first | apply R.nil | apply C.ret | apply C.block | apply C.skip | apply C.exit | apply Fin.thenRet | apply Fin.thenExit | apply Fin.blockNormal | apply Fin.blockRet | apply Fin.blockExit) | (with_reducible apply Fin.thenK; assumption) | (with_reducible apply C.seqK; intro _ _) | (with_reducible apply C.regionK; intro _ _) | (with_reducible apply Fin.blockOther; exact rfl)) | (first | (apply R.store; exact rfl; exact rfl; exact rfl; (exact a_at); (exact a_blit); exact rfl; (focus (simp [Value.oneCell']; done))) | (apply R.buildSlice0; exact rfl; intro bz) | (apply R.box; exact rfl; (simp only [Value.cells]; rfl); exact rfl; intro bx) | (apply R.alloc; (simp only [Value.cells]; rfl); exact rfl; intro ba) | (apply R.buildSlice; (exact a_prt); exact rfl; exact rfl; (exact a_fills); exact rfl; intro bl)) | (first | (apply R.guardT; assumption; exact rfl; exact rfl; exact rfl) | (apply R.guardF; assumption; exact rfl; exact rfl; exact rfl; exact rfl; exact rfl) | (apply R.guardU; assumption; exact rfl; exact rfl; exact rfl; exact rfl) | (apply R.guardDec; assumption; exact rfl; exact rfl; (intro h; skip; rotate_left; intro h; skip; rotate_left)) | (apply R.guardBeq; assumption; exact rfl; exact rfl; (intro h; skip; rotate_left; intro h; skip; rotate_left)) | (apply R.guardBne; assumption; exact rfl; exact rfl; (intro h; skip; rotate_left; intro h; skip; rotate_left)) | (apply R.guardNDec; assumption; exact rfl; exact rfl; (intro h; skip; rotate_left; intro h; skip; rotate_left)) | (apply R.guardNot; assumption; exact rfl; exact rfl; (intro h; skip; rotate_left; intro h; skip; rotate_left)) | (apply R.guardC; assumption; exact rfl; exact rfl; (intro h; skip; rotate_left; intro h; skip; rotate_left))) | (first | (apply C.condT; exact rfl) | (apply C.condF; exact rfl) | (apply C.condDec; exact rfl; (intro h; skip; rotate_left; intro h; skip; rotate_left)) | (apply C.condBeq; exact rfl; (intro h; skip; rotate_left; intro h; skip; rotate_left)) | (apply C.condBne; exact rfl; (intro h; skip; rotate_left; intro h; skip; rotate_left)) | (apply C.condNDec; exact rfl; (intro h; skip; rotate_left; intro h; skip; rotate_left)) | (apply C.condNot; exact rfl; (intro h; skip; rotate_left; intro h; skip; rotate_left)) | (apply C.cond; exact rfl; (intro h; skip; rotate_left; intro h; skip; rotate_left)))))
    (apply R.call; (exact a_evs); exact rfl; exact rnum_K (most := 72057594037927935) (at_ := 0) (bad := 0) hb4 (by omega) (Nat.zero_le _); rintro _ M4 _ ⟨rfl, rfl, rfl⟩)
    have hz1 := numRd_at (bs := r) (most := 72057594037927935) (at_ := 0) (bad := 0) (Nat.zero_le _)
    have hrec : recP r = if endR r (byteR r 7 (numRd r 72057594037927935 0 0).2.1 (numRd r 72057594037927935 0 0).2.2).2.1 (byteR r 7 (numRd r 72057594037927935 0 0).2.1 (numRd r 72057594037927935 0 0).2.2).2.2 = 0
      then some ((numRd r 72057594037927935 0 0).1, ((byteR r 7 (numRd r 72057594037927935 0 0).2.1 (numRd r 72057594037927935 0 0).2.2).1.toNat : Int)) else none := rfl
    generalize numRd r 72057594037927935 0 0 = z1 at hz1 hrec
    obtain ⟨t1, a1, e1⟩ := z1
    dsimp only at hz1 hrec ⊢
    (repeat' (first | (apply R.step; (exact a_ok); exact rfl) | (first | (with_reducible first | apply R.nil | apply C.ret | apply C.block | apply C.skip | apply C.exit | apply Fin.thenRet | apply Fin.thenExit | apply Fin.blockNormal | apply Fin.blockRet | apply Fin.blockExit) | (with_reducible apply Fin.thenK; assumption) | (with_reducible apply C.seqK; intro _ _) | (with_reducible apply C.regionK; intro _ _) | (with_reducible apply Fin.blockOther; exact rfl)) | (first | (apply R.store; exact rfl; exact rfl; exact rfl; (exact a_at); (exact a_blit); exact rfl; (focus (simp [Value.oneCell']; done))) | (apply R.buildSlice0; exact rfl; intro bz) | (apply R.box; exact rfl; (simp only [Value.cells]; rfl); exact rfl; intro bx) | (apply R.alloc; (simp only [Value.cells]; rfl); exact rfl; intro ba) | (apply R.buildSlice; (exact a_prt); exact rfl; exact rfl; (exact a_fills); exact rfl; intro bl)) | (first | (apply R.guardT; assumption; exact rfl; exact rfl; exact rfl) | (apply R.guardF; assumption; exact rfl; exact rfl; exact rfl; exact rfl; exact rfl) | (apply R.guardU; assumption; exact rfl; exact rfl; exact rfl; exact rfl) | (apply R.guardDec; assumption; exact rfl; exact rfl; (intro h; skip; rotate_left; intro h; skip; rotate_left)) | (apply R.guardBeq; assumption; exact rfl; exact rfl; (intro h; skip; rotate_left; intro h; skip; rotate_left)) | (apply R.guardBne; assumption; exact rfl; exact rfl; (intro h; skip; rotate_left; intro h; skip; rotate_left)) | (apply R.guardNDec; assumption; exact rfl; exact rfl; (intro h; skip; rotate_left; intro h; skip; rotate_left)) | (apply R.guardNot; assumption; exact rfl; exact rfl; (intro h; skip; rotate_left; intro h; skip; rotate_left)) | (apply R.guardC; assumption; exact rfl; exact rfl; (intro h; skip; rotate_left; intro h; skip; rotate_left))) | (first | (apply C.condT; exact rfl) | (apply C.condF; exact rfl) | (apply C.condDec; exact rfl; (intro h; skip; rotate_left; intro h; skip; rotate_left)) | (apply C.condBeq; exact rfl; (intro h; skip; rotate_left; intro h; skip; rotate_left)) | (apply C.condBne; exact rfl; (intro h; skip; rotate_left; intro h; skip; rotate_left)) | (apply C.condNDec; exact rfl; (intro h; skip; rotate_left; intro h; skip; rotate_left)) | (apply C.condNot; exact rfl; (intro h; skip; rotate_left; intro h; skip; rotate_left)) | (apply C.cond; exact rfl; (intro h; skip; rotate_left; intro h; skip; rotate_left)))))
    (apply R.call; (exact a_evs); exact rfl; exact rbyte_K (most := 7) (at_ := a1) (bad := e1) hb4 hz1; rintro _ M4 _ ⟨rfl, rfl, rfl⟩)
    generalize byteR r 7 a1 e1 = z2 at hrec
    obtain ⟨t2, a2, e2⟩ := z2
    dsimp only at hrec ⊢
    (repeat' (first | (apply R.step; (exact a_ok); exact rfl) | (first | (with_reducible first | apply R.nil | apply C.ret | apply C.block | apply C.skip | apply C.exit | apply Fin.thenRet | apply Fin.thenExit | apply Fin.blockNormal | apply Fin.blockRet | apply Fin.blockExit) | (with_reducible apply Fin.thenK; assumption) | (with_reducible apply C.seqK; intro _ _) | (with_reducible apply C.regionK; intro _ _) | (with_reducible apply Fin.blockOther; exact rfl)) | (first | (apply R.store; exact rfl; exact rfl; exact rfl; (exact a_at); (exact a_blit); exact rfl; (focus (simp [Value.oneCell']; done))) | (apply R.buildSlice0; exact rfl; intro bz) | (apply R.box; exact rfl; (simp only [Value.cells]; rfl); exact rfl; intro bx) | (apply R.alloc; (simp only [Value.cells]; rfl); exact rfl; intro ba) | (apply R.buildSlice; (exact a_prt); exact rfl; exact rfl; (exact a_fills); exact rfl; intro bl)) | (first | (apply R.guardT; assumption; exact rfl; exact rfl; exact rfl) | (apply R.guardF; assumption; exact rfl; exact rfl; exact rfl; exact rfl; exact rfl) | (apply R.guardU; assumption; exact rfl; exact rfl; exact rfl; exact rfl) | (apply R.guardDec; assumption; exact rfl; exact rfl; (intro h; skip; rotate_left; intro h; skip; rotate_left)) | (apply R.guardBeq; assumption; exact rfl; exact rfl; (intro h; skip; rotate_left; intro h; skip; rotate_left)) | (apply R.guardBne; assumption; exact rfl; exact rfl; (intro h; skip; rotate_left; intro h; skip; rotate_left)) | (apply R.guardNDec; assumption; exact rfl; exact rfl; (intro h; skip; rotate_left; intro h; skip; rotate_left)) | (apply R.guardNot; assumption; exact rfl; exact rfl; (intro h; skip; rotate_left; intro h; skip; rotate_left)) | (apply R.guardC; assumption; exact rfl; exact rfl; (intro h; skip; rotate_left; intro h; skip; rotate_left))) | (first | (apply C.condT; exact rfl) | (apply C.condF; exact rfl) | (apply C.condDec; exact rfl; (intro h; skip; rotate_left; intro h; skip; rotate_left)) | (apply C.condBeq; exact rfl; (intro h; skip; rotate_left; intro h; skip; rotate_left)) | (apply C.condBne; exact rfl; (intro h; skip; rotate_left; intro h; skip; rotate_left)) | (apply C.condNDec; exact rfl; (intro h; skip; rotate_left; intro h; skip; rotate_left)) | (apply C.condNot; exact rfl; (intro h; skip; rotate_left; intro h; skip; rotate_left)) | (apply C.cond; exact rfl; (intro h; skip; rotate_left; intro h; skip; rotate_left)))))
    (apply R.call; (exact a_evs); exact rfl; exact rend_K (at_ := a2) (bad := e2) hb4 (by omega); rintro _ M4 _ ⟨rfl, rfl, rfl⟩)
    by_cases hE : endR r a2 e2 = 0
    · rw [if_pos hE] at hrec
      rw [hE]
      (repeat' (first | (apply R.step; (apply Ok.move; exact rfl); exact rfl) | (apply R.step; (apply Ok.convBI; exact rfl); exact rfl) | (apply R.step; (exact a_ok); exact rfl) | (first | (with_reducible first | apply R.nil | apply C.ret | apply C.block | apply C.skip | apply C.exit | apply Fin.thenRet | apply Fin.thenExit | apply Fin.blockNormal | apply Fin.blockRet | apply Fin.blockExit) | (with_reducible apply Fin.thenK; assumption) | (with_reducible apply C.seqK; intro _ _) | (with_reducible apply C.regionK; intro _ _) | (with_reducible apply Fin.blockOther; exact rfl)) | (first | (apply R.store; exact rfl; exact rfl; exact rfl; (exact a_at); (exact a_blit); exact rfl; (focus (simp [Value.oneCell']; done))) | (apply R.buildSlice0; exact rfl; intro bz) | (apply R.box; exact rfl; (simp only [Value.cells]; rfl); exact rfl; intro bx) | (apply R.alloc; (simp only [Value.cells]; rfl); exact rfl; intro ba) | (apply R.buildSlice; (exact a_prt); exact rfl; exact rfl; (exact a_fills); exact rfl; intro bl)) | (first | (apply R.guardT; assumption; exact rfl; exact rfl; exact rfl) | (apply R.guardF; assumption; exact rfl; exact rfl; exact rfl; exact rfl; exact rfl) | (apply R.guardU; assumption; exact rfl; exact rfl; exact rfl; exact rfl) | (apply R.guardDec; assumption; exact rfl; exact rfl; (intro h; skip; rotate_left; intro h; skip; rotate_left)) | (apply R.guardBeq; assumption; exact rfl; exact rfl; (intro h; skip; rotate_left; intro h; skip; rotate_left)) | (apply R.guardBne; assumption; exact rfl; exact rfl; (intro h; skip; rotate_left; intro h; skip; rotate_left)) | (apply R.guardNDec; assumption; exact rfl; exact rfl; (intro h; skip; rotate_left; intro h; skip; rotate_left)) | (apply R.guardNot; assumption; exact rfl; exact rfl; (intro h; skip; rotate_left; intro h; skip; rotate_left)) | (apply R.guardC; assumption; exact rfl; exact rfl; (intro h; skip; rotate_left; intro h; skip; rotate_left))) | (first | (apply C.condT; exact rfl) | (apply C.condF; exact rfl) | (apply C.condDec; exact rfl; (intro h; skip; rotate_left; intro h; skip; rotate_left)) | (apply C.condBeq; exact rfl; (intro h; skip; rotate_left; intro h; skip; rotate_left)) | (apply C.condBne; exact rfl; (intro h; skip; rotate_left; intro h; skip; rotate_left)) | (apply C.condNDec; exact rfl; (intro h; skip; rotate_left; intro h; skip; rotate_left)) | (apply C.condNot; exact rfl; (intro h; skip; rotate_left; intro h; skip; rotate_left)) | (apply C.cond; exact rfl; (intro h; skip; rotate_left; intro h; skip; rotate_left)))))
      have hfl := frameS_len hr6
      (apply C.regionE (isA := [0, 1, 2, 3, 4]) (ksA := [true, true, false, true, true]) (isB := [5]) (ksB := [0]) (Hs := [(b8, .cells #[.int .i64 ↑s.at_] 3 (0, 0))]); exact Mix.h; (first | exact Arr.all _ | (exact a_arr)); (exact a_np); (exact a_picked); (exact a_picked); kernel_rfl; intro _ e; subst e)
      (repeat' (first | fail | (apply RQ.step; intro _ _ _; (exact a_ok); exact rfl) | (apply RQ.stepT; exact rfl; exact rfl; exact rfl; intro _ _ _; (exact a_ok); exact rfl) | (apply RQ.stepF; exact rfl; exact rfl; exact rfl; exact rfl; exact rfl)))
      (apply RQ.eff; intro Kc hKc ops0)
      (apply R.call; (exact a_evs); exact rfl; exact frame_KF (hplr.mono hM4) rfl (by omega); rintro v5 M5 _ ⟨hb5, hM5, rfl⟩)
      (apply R.nil; apply Fin.kq hKc; exact hM5; (exact a_arr))
      obtain ⟨A6, c6, rfl, _, _, _⟩ := hb5
      (repeat' (first | fail | (apply RQ.step; intro _ _ _; (exact a_ok); exact rfl) | (apply RQ.stepT; exact rfl; exact rfl; exact rfl; intro _ _ _; (exact a_ok); exact rfl) | (apply RQ.stepF; exact rfl; exact rfl; exact rfl; exact rfl; exact rfl)))
      apply RQ.nil
      (repeat' (first | (first | (apply RP.step; intro _ _ _; (exact a_ok); exact rfl) | (apply RP.stepT; exact rfl; exact rfl; exact rfl; intro _ _ _; (exact a_ok); exact rfl) | (apply RP.stepF; exact rfl; exact rfl; exact rfl; exact rfl; exact rfl) | (apply RP.effF; exact rfl; exact rfl; exact rfl; exact rfl; exact rfl)) | (apply RP.callQ; (exact a_evs); exact rfl)))
      (apply RP.eff; intro Kc hKc ops0)
      (first | (apply R.store; exact rfl; exact rfl; exact rfl; (exact a_at); (exact a_blit); exact rfl; (focus (simp [Value.oneCell']; done))) | (apply R.buildSlice0; exact rfl; intro bz) | (apply R.box; exact rfl; (simp only [Value.cells]; rfl); exact rfl; intro bx) | (apply R.alloc; (simp only [Value.cells]; rfl); exact rfl; intro ba) | (apply R.buildSlice; (exact a_prt); exact rfl; exact rfl; (exact a_fills); exact rfl; intro bl))
      (apply R.nil; apply Fin.kp hKc; exact hM5; (exact a_arr))
      (first | apply RP.nil0 | apply RP.nil)
      (repeat' (first | (apply R.step; (exact a_ok); exact rfl) | (first | (with_reducible first | apply R.nil | apply C.ret | apply C.block | apply C.skip | apply C.exit | apply Fin.thenRet | apply Fin.thenExit | apply Fin.blockNormal | apply Fin.blockRet | apply Fin.blockExit) | (with_reducible apply Fin.thenK; assumption) | (with_reducible apply C.seqK; intro _ _) | (with_reducible apply C.regionK; intro _ _) | (with_reducible apply Fin.blockOther; exact rfl)) | (first | (apply R.store; exact rfl; exact rfl; exact rfl; (exact a_at); (exact a_blit); exact rfl; (focus (simp [Value.oneCell']; done))) | (apply R.buildSlice0; exact rfl; intro bz) | (apply R.box; exact rfl; (simp only [Value.cells]; rfl); exact rfl; intro bx) | (apply R.alloc; (simp only [Value.cells]; rfl); exact rfl; intro ba) | (apply R.buildSlice; (exact a_prt); exact rfl; exact rfl; (exact a_fills); exact rfl; intro bl)) | (first | (apply R.guardT; assumption; exact rfl; exact rfl; exact rfl) | (apply R.guardF; assumption; exact rfl; exact rfl; exact rfl; exact rfl; exact rfl) | (apply R.guardU; assumption; exact rfl; exact rfl; exact rfl; exact rfl) | (apply R.guardDec; assumption; exact rfl; exact rfl; (intro h; skip; rotate_left; intro h; skip; rotate_left)) | (apply R.guardBeq; assumption; exact rfl; exact rfl; (intro h; skip; rotate_left; intro h; skip; rotate_left)) | (apply R.guardBne; assumption; exact rfl; exact rfl; (intro h; skip; rotate_left; intro h; skip; rotate_left)) | (apply R.guardNDec; assumption; exact rfl; exact rfl; (intro h; skip; rotate_left; intro h; skip; rotate_left)) | (apply R.guardNot; assumption; exact rfl; exact rfl; (intro h; skip; rotate_left; intro h; skip; rotate_left)) | (apply R.guardC; assumption; exact rfl; exact rfl; (intro h; skip; rotate_left; intro h; skip; rotate_left))) | (first | (apply C.condT; exact rfl) | (apply C.condF; exact rfl) | (apply C.condDec; exact rfl; (intro h; skip; rotate_left; intro h; skip; rotate_left)) | (apply C.condBeq; exact rfl; (intro h; skip; rotate_left; intro h; skip; rotate_left)) | (apply C.condBne; exact rfl; (intro h; skip; rotate_left; intro h; skip; rotate_left)) | (apply C.condNDec; exact rfl; (intro h; skip; rotate_left; intro h; skip; rotate_left)) | (apply C.condNot; exact rfl; (intro h; skip; rotate_left; intro h; skip; rotate_left)) | (apply C.cond; exact rfl; (intro h; skip; rotate_left; intro h; skip; rotate_left)))))
      (apply Fin.arr (H2 := (l, _) :: (bD, .deferred (some [])) :: (b8, .cells #[.int .i64 ((s.at_ + (frameS r).length : Nat) : Int)] 3 (0, 0)) :: (b7, .cells #[.int .u64 (t1 : Int), .int .i64 (t2.toNat : Int)] 44 (0, 0)) :: H'); (exact a_arr))
      refine hR.normal _ _ _ _ _ _ (At.head _ _ _) ?_
      refine ⟨true, ⟨(t1, (t2.toNat : Int)), s.at_ + (frameS r).length, false, M5⟩, rfl, rfl, ?_, hM3.trans_ (hM4.trans_ hM5), hr6, .inr ⟨rfl, hrec, rfl, rfl⟩⟩
      rw [hJ]
      rfl
    · rw [if_neg hE] at hrec
      (repeat' (first | (apply R.step; (apply Ok.move; exact rfl); exact rfl) | (apply R.step; (apply Ok.neIT; exact rfl; exact rfl; exact hE); exact rfl) | (apply R.step; (exact a_ok); exact rfl) | (first | (with_reducible first | apply R.nil | apply C.ret | apply C.block | apply C.skip | apply C.exit | apply Fin.thenRet | apply Fin.thenExit | apply Fin.blockNormal | apply Fin.blockRet | apply Fin.blockExit) | (with_reducible apply Fin.thenK; assumption) | (with_reducible apply C.seqK; intro _ _) | (with_reducible apply C.regionK; intro _ _) | (with_reducible apply Fin.blockOther; exact rfl)) | (first | (apply R.store; exact rfl; exact rfl; exact rfl; (exact a_at); (exact a_blit); exact rfl; (focus (simp [Value.oneCell']; done))) | (apply R.buildSlice0; exact rfl; intro bz) | (apply R.box; exact rfl; (simp only [Value.cells]; rfl); exact rfl; intro bx) | (apply R.alloc; (simp only [Value.cells]; rfl); exact rfl; intro ba) | (apply R.buildSlice; (exact a_prt); exact rfl; exact rfl; (exact a_fills); exact rfl; intro bl)) | (first | (apply R.guardT; assumption; exact rfl; exact rfl; exact rfl) | (apply R.guardF; assumption; exact rfl; exact rfl; exact rfl; exact rfl; exact rfl) | (apply R.guardU; assumption; exact rfl; exact rfl; exact rfl; exact rfl) | (apply R.guardDec; assumption; exact rfl; exact rfl; (intro h; skip; rotate_left; intro h; skip; rotate_left)) | (apply R.guardBeq; assumption; exact rfl; exact rfl; (intro h; skip; rotate_left; intro h; skip; rotate_left)) | (apply R.guardBne; assumption; exact rfl; exact rfl; (intro h; skip; rotate_left; intro h; skip; rotate_left)) | (apply R.guardNDec; assumption; exact rfl; exact rfl; (intro h; skip; rotate_left; intro h; skip; rotate_left)) | (apply R.guardNot; assumption; exact rfl; exact rfl; (intro h; skip; rotate_left; intro h; skip; rotate_left)) | (apply R.guardC; assumption; exact rfl; exact rfl; (intro h; skip; rotate_left; intro h; skip; rotate_left))) | (first | (apply C.condT; exact rfl) | (apply C.condF; exact rfl) | (apply C.condDec; exact rfl; (intro h; skip; rotate_left; intro h; skip; rotate_left)) | (apply C.condBeq; exact rfl; (intro h; skip; rotate_left; intro h; skip; rotate_left)) | (apply C.condBne; exact rfl; (intro h; skip; rotate_left; intro h; skip; rotate_left)) | (apply C.condNDec; exact rfl; (intro h; skip; rotate_left; intro h; skip; rotate_left)) | (apply C.condNot; exact rfl; (intro h; skip; rotate_left; intro h; skip; rotate_left)) | (apply C.cond; exact rfl; (intro h; skip; rotate_left; intro h; skip; rotate_left)))))
      apply Fin.blockOther (by exact rfl)
      (apply Fin.arr (H2 := (l, _) :: (bD, .deferred (some [])) :: (b8, .cells #[.int .i64 (s.at_ : Int)] 3 (0, 0)) :: (b7, .cells #[.int .u64 (s.h.1 : Int), .int .i64 s.h.2] 44 (0, 0)) :: H'); (exact a_arr))
      refine hR.exit _ _ _ _ _ _ _ (At.head _ _ _) ?_
      refine ⟨false, ⟨s.h, s.at_, true, M4⟩, rfl, rfl, ?_, hM3.trans_ hM4, hr6, .inl ⟨hrec, rfl, rfl, rfl, rfl⟩⟩
      rw [hJ]
      rfl
  · rintro v M' H' ⟨s', rfl, rfl, hend⟩
    obtain ⟨i1, i2⟩ := ends_op rfl hend
    dsimp only at i1 i2
    rw [i2] at hQ
    rw [hJ]
    clear hend hJ ho_
    obtain ⟨h, at_, brk, M3⟩ := s'
    dsimp only at i1 i2 hQ ⊢
    have ho3 := ho1.mono i1
    refine ⟨if brk then .done else .ready, if brk then some (.exit 0) else none, _, by cases brk <;> simp, At.head _ _ _, ?_⟩
    cases brk
    rotate_left
    (show C _ _ _ (.exit 0) _ _ _ _ _; apply C.exit; apply Fin.blockExit; generalize o _ _ = ob)
    rotate_left
    (show Fin _ .normal (Exit.inBlock 0 _) _ _ _ _; apply Fin.blockNormal; generalize o _ _ = ob)
    all_goals (apply Fin.arr (H2 := (l, ob) :: (bD, .deferred (some [])) :: (b8, .cells #[.int .i64 (at_ : Int)] 3 (0, 0)) :: (b7, .cells #[.int .u64 (h.1 : Int), .int .i64 h.2] 44 (0, 0)) :: (bx, .cells #[.slice A5 b.length c5] 25 (0, 0)) :: (hp1 ++ ((b2, .cells [.int .u64 0, .int .i64 0].toArray 44 (0, 0)) :: H))) (by (exact a_arr)) ?_)
    all_goals (
      obtain ⟨ht, hv⟩ := h
      dsimp only at hQ i2 ⊢
      (repeat' (first | (apply R.step; (exact a_ok); exact rfl) | (first | (with_reducible first | apply R.nil | apply C.ret | apply C.block | apply C.skip | apply C.exit | apply Fin.thenRet | apply Fin.thenExit | apply Fin.blockNormal | apply Fin.blockRet | apply Fin.blockExit) | (with_reducible apply Fin.thenK; assumption) | (with_reducible apply C.seqK; intro _ _) | (with_reducible apply C.regionK; intro _ _) | (with_reducible apply Fin.blockOther; exact rfl)) | (first | (apply R.store; exact rfl; exact rfl; exact rfl; (exact a_at); (exact a_blit); exact rfl; (focus (simp [Value.oneCell']; done))) | (apply R.buildSlice0; exact rfl; intro bz) | (apply R.box; exact rfl; (simp only [Value.cells]; rfl); exact rfl; intro bx) | (apply R.alloc; (simp only [Value.cells]; rfl); exact rfl; intro ba) | (apply R.buildSlice; (exact a_prt); exact rfl; exact rfl; (exact a_fills); exact rfl; intro bl)) | (first | (apply R.guardT; assumption; exact rfl; exact rfl; exact rfl) | (apply R.guardF; assumption; exact rfl; exact rfl; exact rfl; exact rfl; exact rfl) | (apply R.guardU; assumption; exact rfl; exact rfl; exact rfl; exact rfl) | (apply R.guardDec; assumption; exact rfl; exact rfl; (intro h; skip; rotate_left; intro h; skip; rotate_left)) | (apply R.guardBeq; assumption; exact rfl; exact rfl; (intro h; skip; rotate_left; intro h; skip; rotate_left)) | (apply R.guardBne; assumption; exact rfl; exact rfl; (intro h; skip; rotate_left; intro h; skip; rotate_left)) | (apply R.guardNDec; assumption; exact rfl; exact rfl; (intro h; skip; rotate_left; intro h; skip; rotate_left)) | (apply R.guardNot; assumption; exact rfl; exact rfl; (intro h; skip; rotate_left; intro h; skip; rotate_left)) | (apply R.guardC; assumption; exact rfl; exact rfl; (intro h; skip; rotate_left; intro h; skip; rotate_left))) | (first | (apply C.condT; exact rfl) | (apply C.condF; exact rfl) | (apply C.condDec; exact rfl; (intro h; skip; rotate_left; intro h; skip; rotate_left)) | (apply C.condBeq; exact rfl; (intro h; skip; rotate_left; intro h; skip; rotate_left)) | (apply C.condBne; exact rfl; (intro h; skip; rotate_left; intro h; skip; rotate_left)) | (apply C.condNDec; exact rfl; (intro h; skip; rotate_left; intro h; skip; rotate_left)) | (apply C.condNot; exact rfl; (intro h; skip; rotate_left; intro h; skip; rotate_left)) | (apply C.cond; exact rfl; (intro h; skip; rotate_left; intro h; skip; rotate_left)))))
      · have hlt : at_ < b.length := by
          have h : (at_ : Int) < (b.length : Int) := by assumption
          omega
        apply R.arr (H2 := hp1 ++ ((l, ob) :: (bD, .deferred (some [])) :: (b8, .cells #[.int .i64 (at_ : Int)] 3 (0, 0)) :: (b7, .cells #[.int .u64 (ht : Int), .int .i64 hv] 44 (0, 0)) :: (bx, .cells #[.slice A5 b.length c5] 25 (0, 0)) :: ((b2, .cells [.int .u64 0, .int .i64 0].toArray 44 (0, 0)) :: H))) (by ((try simp only [List.append_assoc, List.cons_append, List.nil_append, List.append_nil]); exact a_arr))
        (apply R.call; (exact a_evs); exact rfl; exact truncate_K (n := hfile) (k := (at_ : Int)) ho3 (by omega); rintro _ M4 _ ⟨rfl, hM4, hp4, ho4, rfl⟩)
        rw [Int.toNat_natCast] at ho4
        by_cases hte : trcE d1 hfile (at_ : Int) ≠ 0
        · have hE : openC d1 b ((ht, hv), at_) = (trcE d1 hfile (at_ : Int), opD (trcE d1 hfile (at_ : Int)) d1 (.trc hfile at_), (0, 0)) := (if_pos hlt).trans (if_pos hte)
          rw [hE] at hQ
          (repeat' (first | (apply R.step; (apply Ok.move; exact rfl); exact rfl) | (apply R.step; (apply Ok.neIT; exact rfl; exact rfl; exact hte); exact rfl) | (apply R.step; (exact a_ok); exact rfl) | (first | (with_reducible first | apply R.nil | apply C.ret | apply C.block | apply C.skip | apply C.exit | apply Fin.thenRet | apply Fin.thenExit | apply Fin.blockNormal | apply Fin.blockRet | apply Fin.blockExit) | (with_reducible apply Fin.thenK; assumption) | (with_reducible apply C.seqK; intro _ _) | (with_reducible apply C.regionK; intro _ _) | (with_reducible apply Fin.blockOther; exact rfl)) | (first | (apply R.store; exact rfl; exact rfl; exact rfl; (exact a_at); (exact a_blit); exact rfl; (focus (simp [Value.oneCell']; done))) | (apply R.buildSlice0; exact rfl; intro bz) | (apply R.box; exact rfl; (simp only [Value.cells]; rfl); exact rfl; intro bx) | (apply R.alloc; (simp only [Value.cells]; rfl); exact rfl; intro ba) | (apply R.buildSlice; (exact a_prt); exact rfl; exact rfl; (exact a_fills); exact rfl; intro bl)) | (first | (apply R.guardT; assumption; exact rfl; exact rfl; exact rfl) | (apply R.guardF; assumption; exact rfl; exact rfl; exact rfl; exact rfl; exact rfl) | (apply R.guardU; assumption; exact rfl; exact rfl; exact rfl; exact rfl) | (apply R.guardDec; assumption; exact rfl; exact rfl; (intro h; skip; rotate_left; intro h; skip; rotate_left)) | (apply R.guardBeq; assumption; exact rfl; exact rfl; (intro h; skip; rotate_left; intro h; skip; rotate_left)) | (apply R.guardBne; assumption; exact rfl; exact rfl; (intro h; skip; rotate_left; intro h; skip; rotate_left)) | (apply R.guardNDec; assumption; exact rfl; exact rfl; (intro h; skip; rotate_left; intro h; skip; rotate_left)) | (apply R.guardNot; assumption; exact rfl; exact rfl; (intro h; skip; rotate_left; intro h; skip; rotate_left)) | (apply R.guardC; assumption; exact rfl; exact rfl; (intro h; skip; rotate_left; intro h; skip; rotate_left))) | (first | (apply C.condT; exact rfl) | (apply C.condF; exact rfl) | (apply C.condDec; exact rfl; (intro h; skip; rotate_left; intro h; skip; rotate_left)) | (apply C.condBeq; exact rfl; (intro h; skip; rotate_left; intro h; skip; rotate_left)) | (apply C.condBne; exact rfl; (intro h; skip; rotate_left; intro h; skip; rotate_left)) | (apply C.condNDec; exact rfl; (intro h; skip; rotate_left; intro h; skip; rotate_left)) | (apply C.condNot; exact rfl; (intro h; skip; rotate_left; intro h; skip; rotate_left)) | (apply C.cond; exact rfl; (intro h; skip; rotate_left; intro h; skip; rotate_left)))))
          (apply Fin.returnM (H2 := hp4 ++ H); assumption; exact .inl rfl; exact rfl; exact Marks.cons (by (exact a_at)) (Marks.nil _); (exact a_res); (simp only [retv]; rfl); (exact a_arr))
          exact ⟨rfl, hM1.trans_ (hM2.trans_ (i1.trans_ hM4)), hp4, ho4, rfl⟩
        · have hte0 : trcE d1 hfile (at_ : Int) = 0 := by omega
          have hE : openC d1 b ((ht, hv), at_) = (0, opD 0 d1 (.trc hfile at_), (ht, hv)) := (if_pos hlt).trans (if_neg hte)
          rw [hE] at hQ
          rw [hte0] at ho4 ⊢
          (repeat' (first | (apply R.step; (exact a_ok); exact rfl) | (first | (with_reducible first | apply R.nil | apply C.ret | apply C.block | apply C.skip | apply C.exit | apply Fin.thenRet | apply Fin.thenExit | apply Fin.blockNormal | apply Fin.blockRet | apply Fin.blockExit) | (with_reducible apply Fin.thenK; assumption) | (with_reducible apply C.seqK; intro _ _) | (with_reducible apply C.regionK; intro _ _) | (with_reducible apply Fin.blockOther; exact rfl)) | (first | (apply R.store; exact rfl; exact rfl; exact rfl; (exact a_at); (exact a_blit); exact rfl; (focus (simp [Value.oneCell']; done))) | (apply R.buildSlice0; exact rfl; intro bz) | (apply R.box; exact rfl; (simp only [Value.cells]; rfl); exact rfl; intro bx) | (apply R.alloc; (simp only [Value.cells]; rfl); exact rfl; intro ba) | (apply R.buildSlice; (exact a_prt); exact rfl; exact rfl; (exact a_fills); exact rfl; intro bl)) | (first | (apply R.guardT; assumption; exact rfl; exact rfl; exact rfl) | (apply R.guardF; assumption; exact rfl; exact rfl; exact rfl; exact rfl; exact rfl) | (apply R.guardU; assumption; exact rfl; exact rfl; exact rfl; exact rfl) | (apply R.guardDec; assumption; exact rfl; exact rfl; (intro h; skip; rotate_left; intro h; skip; rotate_left)) | (apply R.guardBeq; assumption; exact rfl; exact rfl; (intro h; skip; rotate_left; intro h; skip; rotate_left)) | (apply R.guardBne; assumption; exact rfl; exact rfl; (intro h; skip; rotate_left; intro h; skip; rotate_left)) | (apply R.guardNDec; assumption; exact rfl; exact rfl; (intro h; skip; rotate_left; intro h; skip; rotate_left)) | (apply R.guardNot; assumption; exact rfl; exact rfl; (intro h; skip; rotate_left; intro h; skip; rotate_left)) | (apply R.guardC; assumption; exact rfl; exact rfl; (intro h; skip; rotate_left; intro h; skip; rotate_left))) | (first | (apply C.condT; exact rfl) | (apply C.condF; exact rfl) | (apply C.condDec; exact rfl; (intro h; skip; rotate_left; intro h; skip; rotate_left)) | (apply C.condBeq; exact rfl; (intro h; skip; rotate_left; intro h; skip; rotate_left)) | (apply C.condBne; exact rfl; (intro h; skip; rotate_left; intro h; skip; rotate_left)) | (apply C.condNDec; exact rfl; (intro h; skip; rotate_left; intro h; skip; rotate_left)) | (apply C.condNot; exact rfl; (intro h; skip; rotate_left; intro h; skip; rotate_left)) | (apply C.cond; exact rfl; (intro h; skip; rotate_left; intro h; skip; rotate_left)))))
          (apply Fin.returnM (H2 := hp4 ++ H); assumption; exact .inl rfl; exact rfl; exact Marks.cons (by (exact a_at)) (Marks.nil _); (exact a_res); (simp only [retv]; rfl); (exact a_arr))
          exact ⟨rfl, hM1.trans_ (hM2.trans_ (i1.trans_ hM4)), hp4, ho4, rfl⟩
      · have hlt : ¬ at_ < b.length := by
          have h : ¬ (at_ : Int) < (b.length : Int) := by assumption
          omega
        have hE : openC d1 b ((ht, hv), at_) = (0, d1, (ht, hv)) := if_neg hlt
        rw [hE] at hQ
        (apply Fin.returnM (H2 := hp1 ++ H); assumption; exact .inl rfl; exact rfl; exact Marks.cons (by (exact a_at)) (Marks.nil _); (exact a_res); (simp only [retv]; rfl); (exact a_arr))
        exact ⟨rfl, hM1.trans_ (hM2.trans_ i1), hp1, ho3, rfl⟩)
end Go.Sx
end
section
namespace Go.Sx
open Go Go.Proofs Go.RowKit
theorem numGo_lay {bs : Txt} {at_ : Nat} : ∀ (k i m acc : Nat), i + k = 10 → 0 < k → m * 128 ^ i < 18446744073709551616 → (0 < i → 0 < m) → (∀ j, j < (numS m).length → bs[at_ + i + j]? = (numS m)[j]?) → numGo bs at_ k i acc = (acc + m * 128 ^ i, 0, at_ + i + (numS m).length)
  | 0, _, _, _, _, h, _, _, _ => absurd h (by decide)
  | k + 1, i, m, acc, hik, _, hm, hi0, hb => by
    have hpos : 0 < 128 ^ i := Nat.pow_pos (by decide)
    have h9 : i = 9 → m ≤ 1 := by
      rintro rfl
      have : (128 : Nat) ^ 9 = 9223372036854775808 := by decide
      rw [this] at hm
      omega
    unfold numGo
    by_cases hlo : m < 128
    · rw [numS_lo hlo] at hb ⊢
      have h0 := hb 0 (Nat.zero_lt_one)
      rw [Nat.add_zero] at h0
      rw [h0]
      have hx : (UInt8.ofNat m).toNat = m := by
        rw [UInt8.toNat_ofNat']
        omega
      show (if i = 9 ∧ 1 < (UInt8.ofNat m).toNat then _ else _) = _
      rw [hx, if_neg (by omega), if_neg (by omega), if_neg (by omega), Nat.mod_eq_of_lt hlo]
      rfl
    · rw [numS_hi hlo] at hb ⊢
      have h0 := hb 0 (by simp)
      rw [Nat.add_zero] at h0
      rw [h0]
      have hx : (UInt8.ofNat m ||| 128).toNat = m % 128 + 128 := by
        rw [or128_toNat, UInt8.toNat_ofNat']
        omega
      show (if i = 9 ∧ 1 < (UInt8.ofNat m ||| 128).toNat then _ else _) = _
      rw [hx, if_neg (by omega), if_pos (by omega), show (m % 128 + 128) % 128 = m % 128 by omega]
      have hdm := Nat.div_add_mod m 128
      have e1 : m / 128 * 128 ^ (i + 1) + m % 128 * 128 ^ i = m * 128 ^ i := by
        rw [Nat.pow_succ, Nat.mul_comm (128 ^ i) 128, ← Nat.mul_assoc, ← Nat.add_mul]
        congr 1
        omega
      have hk : i < 9 := by omega
      have h2 := numGo_lay (bs := bs) (at_ := at_) k (i + 1) (m / 128) (acc + m % 128 * 128 ^ i) (by omega) (by omega) (by omega) (by omega) (fun j hj => by
        have := hb (j + 1) (by rw [List.length_cons]; omega)
        rw [List.getElem?_cons_succ] at this
        rw [← this]
        congr 1
        omega)
      rw [h2, List.length_cons]
      refine Prod.ext (by show _ + _ + _ = acc + m * 128 ^ i; omega) (Prod.ext rfl (by show _ + _ = at_ + i + ((numS (m / 128)).length + 1); omega))
theorem numR_lay {n : Nat} {rest pre : Txt} (h : n ≤ 18446744073709551615) : numR (pre ++ (numS n ++ rest)) pre.length = (n, 0, pre.length + (numS n).length) := by
  have := numGo_lay (bs := pre ++ (numS n ++ rest)) (at_ := pre.length) 10 0 n 0 rfl (by decide) (by omega) (by omega) (fun j hj => by
    rw [Nat.add_zero, List.getElem?_append_right (by omega), Nat.add_sub_cancel_left, List.getElem?_append_left hj])
  unfold numR
  rw [this]
  refine Prod.ext (by show 0 + n * 1 = n; omega) (Prod.ext rfl rfl)
theorem numRd_lay {n most : Nat} {rest pre : Txt} (h : n ≤ 18446744073709551615) (hm : n ≤ most) : numRd (pre ++ (numS n ++ rest)) most pre.length 0 = (n, pre.length + (numS n).length, 0) := by
  unfold numRd
  rw [numR_lay h, if_neg (by decide), if_neg (by dsimp only; omega), if_neg (fun h => h rfl)]
theorem recP_lay {t : Nat} {v : Int} (ht : t ≤ 72057594037927935) (h0 : 0 ≤ v) (h7 : v ≤ 7) : (numRd (numS t ++ [UInt8.ofNat v.toNat]) 72057594037927935 0 0 = (t, (numS t).length, 0)) ∧ byteR (numS t ++ [UInt8.ofNat v.toNat]) 7 (numS t).length 0 = (UInt8.ofNat v.toNat, (numS t).length + 1, 0) ∧ endR (numS t ++ [UInt8.ofNat v.toNat]) ((numS t).length + 1) 0 = 0 := by
  refine ⟨?_, ?_, ?_⟩
  · have := numRd_lay (n := t) (most := 72057594037927935) (rest := [UInt8.ofNat v.toNat]) (pre := []) (by omega) ht
    rw [List.nil_append, List.length_nil, Nat.zero_add] at this
    exact this
  · unfold byteR
    rw [if_neg (fun h => h rfl), List.getElem?_append_right (Nat.le_refl _), Nat.sub_self, List.getElem?_cons_zero]
    have h : ¬ (7 : UInt8) < UInt8.ofNat v.toNat := by
      rw [UInt8.lt_iff_toNat_lt, UInt8.toNat_ofNat']
      show ¬ 7 < _
      omega
    dsimp only
    exact if_neg h
  · unfold endR
    refine if_neg ?_
    rw [List.length_append, List.length_singleton]
    omega
end Go.Sx
end
section
namespace Go.Sx
open Go Go.Proofs Go.RowKit
def onF (n : Txt) : Option Txt → Fs
  | none => []
  | some b => [(n, b)]
theorem onF_get (n : Txt) (x : Option Txt) : getS (onF n x) n = x := by
  cases x with
  | none => rfl
  | some b => simp [onF, getS]
theorem onF_put (n : Txt) (x : Option Txt) (b : Txt) : putS (onF n x) n b = onF n (some b) := by
  cases x with
  | none => simp [onF, putS, keyS]
  | some c => simp [onF, putS, keyS]
theorem onF_app (n : Txt) (x : Option Txt) (b : Txt) : doF (onF n x) (.app n b) = onF n (some (x.getD [] ++ b)) := by
  show putS (onF n x) n (fileD (onF n x) n ++ b) = _
  unfold fileD
  rw [onF_get, onF_put]
theorem onF_sum (n : Txt) (x : Option Txt) : sumF (onF n x) = (x.getD []).length := by
  cases x with
  | none => rfl
  | some b => simp [onF, sumF]
theorem onF_len (n : Txt) (x : Option Txt) : (onF n x).length ≤ 1 := by
  cases x <;> simp [onF]
end Go.Sx
end
section
namespace Go.Sx
open Go Go.Proofs Go.RowKit
abbrev Hd := Nat × Int
def recH (h : Hd) : Txt := recS h.1 h.2
def okH (h : Hd) : Prop := h.1 ≤ 72057594037927935 ∧ 0 ≤ h.2 ∧ h.2 ≤ 7
theorem okH_right {h : Hd} (ok : okH h) : rightH h.1 h.2 = true := by
  unfold rightH
  rw [decide_eq_true ok.1, decide_eq_true ok.2.1, decide_eq_true ok.2.2]
  rfl
theorem recP_rec {h : Hd} (ok : okH h) : recP (recH h) = some h := by
  obtain ⟨e1, e2, e3⟩ := recP_lay ok.1 ok.2.1 ok.2.2
  unfold recP recH recS
  rw [e1]
  dsimp only
  rw [e2]
  dsimp only
  rw [e3, if_pos rfl]
  refine congrArg some (Prod.ext rfl ?_)
  rw [UInt8.toNat_ofNat']
  have := ok.2
  show ((h.2.toNat % 256 : Nat) : Int) = h.2
  omega
theorem recH_len {h : Hd} (ok : okH h) : (recH h).length ≤ 11 := recS_len (by have := ok.1; omega)
theorem openF_recs : ∀ (l : List Hd) (h0 : Hd) (a : Nat), (∀ h ∈ l, okH h) → openF (l.map recH) h0 a = (l.getLastD h0, a + endS (l.map recH))
  | [], _, _, _ => rfl
  | h :: l, h0, a, ok => by
    have oh := ok h (List.mem_cons_self ..)
    have hl := recH_len oh
    rw [List.map_cons, openF_some (recP_rec oh), openF_recs l h _ (fun x hx => ok x (List.mem_cons_of_mem _ hx)), List.getLastD_cons, endS_cons, frameS_len (by omega)]
    refine Prod.ext rfl ?_
    show _ + _ + _ = _ + (_ + _)
    omega
def viewB (b : Txt) : Hd := (openF (framesF b.length b) (0, 0) 0).1
def fileH (l : List Hd) : Txt := cat (l.map recH)
theorem recs_len {l : List Hd} (ok : ∀ h ∈ l, okH h) : ∀ p ∈ l.map recH, p.length ≤ 65536 := by
  intro p hp
  obtain ⟨h, hh, rfl⟩ := List.mem_map.1 hp
  have := recH_len (ok h hh)
  omega
theorem fileH_snoc (l : List Hd) (h : Hd) : fileH (l ++ [h]) = fileH l ++ frameS (recH h) := by
  unfold fileH
  rw [List.map_append]
  exact cat_snoc _ _
theorem viewB_cut {l : List Hd} {k : Nat} (ok : ∀ h ∈ l, okH h) (hk : k ≤ (fileH l).length) (hb : (fileH l).length < 4294967296) : viewB ((fileH l).take k) = (l.take (wholeN (l.map recH) k)).getLastD (0, 0) := by
  unfold viewB
  have := frames_cut (l.map recH) k (recs_len ok) hk (by omega)
  unfold fileH
  rw [this, ← List.map_take, openF_recs _ _ _ (fun h hh => ok h (List.mem_of_mem_take hh))]
theorem open_all {l : List Hd} (ok : ∀ h ∈ l, okH h) (hb : (fileH l).length < 4294967296) : openF (framesF (fileH l).length (fileH l)) (0, 0) 0 = (l.getLastD (0, 0), (fileH l).length) := by
  unfold fileH at hb ⊢
  rw [frames_cat _ (recs_len ok) hb, openF_recs _ _ _ ok, Nat.zero_add, cat_len _ (recs_len ok)]
theorem viewB_all {l : List Hd} (ok : ∀ h ∈ l, okH h) (hb : (fileH l).length < 4294967296) : viewB (fileH l) = l.getLastD (0, 0) := by
  unfold viewB
  rw [open_all ok hb]
theorem fileH_end {l : List Hd} (ok : ∀ h ∈ l, okH h) : (fileH l).length = endS (l.map recH) := cat_len _ (recs_len ok)
theorem torn_whole {l : List Hd} {h : Hd} {t : Nat} (ok : ∀ h ∈ l, okH h) (oh : okH h) (ht : t < (frameS (recH h)).length) : wholeN ((l ++ [h]).map recH) ((fileH l).length + t) = l.length := by
  refine wholeN_is _ _ _ (by simp) ?_ (.inr ?_)
  · rw [List.map_append, List.take_append_of_le_length (by simp), List.take_of_length_le (by simp), fileH_end ok]
    omega
  · rw [List.take_of_length_le (by simp), ← fileH_end (l := l ++ [h]) (by
      intro x hx
      rcases List.mem_append.1 hx with hx | hx
      · exact ok x hx
      · rw [List.mem_singleton] at hx
        rw [hx]
        exact oh), fileH_snoc, List.length_append]
    omega
theorem ok_snoc {l : List Hd} {h : Hd} (ok : ∀ h ∈ l, okH h) (oh : okH h) : ∀ x ∈ l ++ [h], okH x := by
  intro x hx
  rcases List.mem_append.1 hx with hx | hx
  · exact ok x hx
  · rw [List.mem_singleton] at hx
    rw [hx]
    exact oh
theorem viewB_torn {l : List Hd} {h : Hd} {t : Nat} (ok : ∀ h ∈ l, okH h) (oh : okH h) (ht : t < (frameS (recH h)).length) (hb : (fileH l).length < 4294000000) : viewB (fileH l ++ (frameS (recH h)).take t) = l.getLastD (0, 0) := by
  have hl := recH_len oh
  have hfl := frameS_len (bs := recH h) (by omega)
  have e : fileH l ++ (frameS (recH h)).take t = (fileH (l ++ [h])).take ((fileH l).length + t) := by
    rw [fileH_snoc, List.take_length_add_append]
  rw [e, viewB_cut (ok_snoc ok oh) (by rw [fileH_snoc, List.length_append]; omega) (by rw [fileH_snoc, List.length_append]; omega), torn_whole ok oh ht, List.take_append_of_le_length (Nat.le_refl _), List.take_length]
theorem getS_del_ne {α : Type} {n k : Txt} (h : k ≠ n) : ∀ l : List (Txt × α), getS (delS l n) k = getS l k
  | [] => rfl
  | p :: l => by
    have ih := getS_del_ne h l
    unfold getS delS at ih ⊢
    rw [List.filter_cons]
    by_cases hp : p.1 = n
    · rw [if_neg (by simp [hp]), ih, List.find?_cons_of_neg (by rw [hp]; simp [Ne.symm h])]
    · rw [if_pos (by simp [hp])]
      by_cases hk : p.1 = k
      · rw [List.find?_cons_of_pos (by simp [hk]), List.find?_cons_of_pos (by simp [hk])]
      · rw [List.find?_cons_of_neg (by simp [hk]), List.find?_cons_of_neg (by simp [hk]), ih]
def goes (d : Dk) : Prop := d.fuse = -1 ∧ d.down = false
theorem goes.stop {d : Dk} (h : goes d) : ¬ stopD d := by
  rintro (h1 | h1)
  · rw [h.2] at h1
    cases h1
  · rw [h.1] at h1
    cases h1
theorem goes.cnt {d : Dk} (h : goes d) : cntD d = d := by
  unfold cntD
  rw [if_neg h.stop, h.1, if_neg (by decide), ← h.1]
theorem goes.op {d : Dk} {x : De} (h : goes d) : opD 0 d x = { d with ps := d.ps ++ [x] } := by
  unfold opD
  rw [if_pos rfl, h.cnt]
theorem goes.read {d : Dk} (h : goes d) (n : Txt) : readD d n = getS d.now n := by
  unfold readD
  rw [h.2]
  rfl
theorem goes.op' {d : Dk} {x : De} (h : goes d) : goes (opD 0 d x) := by
  rw [h.op]
  exact h
theorem goes.now {d : Dk} {x : De} (h : goes d) : (opD 0 d x).now = doF d.now x := by
  rw [h.op]
  unfold Dk.now
  rw [List.foldl_append]
  rfl
def viewF (F : Fs) : Hd := viewB (fileD F hfile)
theorem hnew_ne : hfile ≠ hnew := by decide
theorem clear_is {d : Dk} (h : goes d) : (clearD d).1 = 0 ∧ goes (clearD d).2 ∧ getS (clearD d).2.now hfile = getS d.now hfile := by
  unfold clearD
  split
  · rename_i hs
    rw [h.read] at hs
    have e : remE d hnew = 0 := (if_neg h.stop).trans (if_neg (by rw [Option.isSome_iff_ne_none] at hs; exact hs))
    rw [e]
    refine ⟨rfl, h.op', ?_⟩
    dsimp only
    rw [h.now]
    exact getS_del_ne hnew_ne _
  · exact ⟨rfl, h, rfl⟩
theorem open_view {d : Dk} (h : goes d) : (openD d).1 = 0 ∧ (openD d).2.2 = viewF d.now := by
  obtain ⟨c1, c2, c3⟩ := clear_is h
  unfold openD
  rw [if_neg (fun h => h c1), c2.read, c3]
  generalize hz : openF _ (0, 0) 0 = z
  have hv : viewF d.now = z.1 := by
    rw [← hz]
    rfl
  rw [hv]
  unfold openC
  split
  · rename_i hl
    have hne : getS (clearD d).2.now hfile ≠ none := by
      rw [c3]
      intro hn
      rw [hn] at hl
      cases hl
    have e : trcE (clearD d).2 hfile (z.2 : Int) = 0 := by
      refine (if_neg c2.stop).trans ((if_neg hne).trans (if_neg ?_))
      unfold fileD
      rw [c3]
      omega
    rw [if_neg (fun h => h e)]
    exact ⟨rfl, rfl⟩
  · exact ⟨rfl, rfl⟩
end Go.Sx
end
section
namespace Go.Sx
open Go Go.Proofs Go.RowKit
def CrI (d : Dk) (cand : List Hd) : Prop := ∀ k, k ≤ d.ps.length → viewF ((d.ps.take k).foldl doF d.S) ∈ cand ∧ ∀ n b, d.ps[k]? = some (.app n b) → ∀ t, t < b.length → viewF (doF ((d.ps.take k).foldl doF d.S) (.app n (b.take t))) ∈ cand
theorem CrI.sub {d : Dk} {c c' : List Hd} (h : CrI d c) (hs : ∀ x ∈ c, x ∈ c') : CrI d c' := fun k hk => ⟨hs _ (h k hk).1, fun n b hb t ht => hs _ ((h k hk).2 n b hb t ht)⟩
theorem CrI.op {d : Dk} {c : List Hd} {x : De} (g : goes d) (h : CrI d c) (hn : viewF (doF d.now x) ∈ c) (ht : ∀ n b, x = .app n b → ∀ t, t < b.length → viewF (doF d.now (.app n (b.take t))) ∈ c) : CrI (opD 0 d x) c := by
  rw [g.op]
  intro k hk
  change k ≤ (d.ps ++ [x]).length at hk
  rw [List.length_append, List.length_singleton] at hk
  show viewF (((d.ps ++ [x]).take k).foldl doF d.S) ∈ c ∧ ∀ n b, (d.ps ++ [x])[k]? = some (.app n b) → _
  by_cases h1 : k ≤ d.ps.length
  · rw [List.take_append_of_le_length h1]
    refine ⟨(h k h1).1, fun n b hb t htb => ?_⟩
    by_cases h2 : k < d.ps.length
    · rw [List.getElem?_append_left h2] at hb
      have := (h k h1).2 n b hb t htb
      exact this
    · have e : k = d.ps.length := by omega
      subst e
      rw [List.getElem?_append_right (Nat.le_refl _), Nat.sub_self, List.getElem?_cons_zero] at hb
      have := ht n b (Option.some.inj hb) t htb
      show viewF (doF ((d.ps.take d.ps.length).foldl doF d.S) (.app n (b.take t))) ∈ c
      rw [List.take_length]
      exact this
  · have e : k = d.ps.length + 1 := by omega
    subst e
    have e2 : (d.ps ++ [x]).take (d.ps.length + 1) = d.ps ++ [x] := List.take_of_length_le (by simp)
    rw [e2, List.foldl_append]
    refine ⟨hn, fun n b hb => ?_⟩
    rw [List.getElem?_eq_none (by simp)] at hb
    cases hb
theorem CrI.crash {d : Dk} {c : List Hd} (h : CrI d c) (keep torn : Int) : viewF (crashD d keep torn).now ∈ c := by
  have hk : keepD d keep ≤ d.ps.length := by
    unfold keepD
    have h0 : 0 ≤ keep % ((d.ps.length + 1 : Nat) : Int) := Int.emod_nonneg _ (by omega)
    have h1 : keep % ((d.ps.length + 1 : Nat) : Int) < ((d.ps.length + 1 : Nat) : Int) := Int.emod_lt_of_pos _ (by omega)
    omega
  obtain ⟨h1, h2⟩ := h _ hk
  show viewF (crashF d keep torn) ∈ c
  unfold crashF
  split
  · rename_i x hx
    unfold tornF
    split
    · rename_i n b
      split
      · rename_i hb
        refine h2 n b hx _ ?_
        have ht1 : torn % (b.length : Int) < (b.length : Int) := Int.emod_lt_of_pos _ (by omega)
        omega
      · exact h1
    · exact h1
  · exact h1
theorem crash_goes (d : Dk) (keep torn : Int) : goes (crashD d keep torn) := ⟨rfl, rfl⟩
structure HI (d : Dk) (l cand : List Hd) : Prop where
  room : d.room = 1048576
  go : goes d
  now : ∃ x, d.now = onF hfile x ∧ x.getD [] = fileH l
  ok : ∀ h ∈ l, okH h
  len : (fileH l).length < 300
  last : l.getLastD (0, 0) ∈ cand
  crash : CrI d cand
theorem HI.sub {d : Dk} {l c c' : List Hd} (h : HI d l c) (hs : ∀ x ∈ c, x ∈ c') : HI d l c' := ⟨h.1, h.2, h.3, h.4, h.5, hs _ h.6, h.7.sub hs⟩
theorem HI.new : HI (newD 1048576) [] [(0, 0)] := by
  refine ⟨rfl, ⟨rfl, rfl⟩, ⟨none, rfl, rfl⟩, ?_, by decide, by simp, ?_⟩
  · intro h hh
    cases hh
  · intro k hk
    have : k = 0 := by
      change k ≤ 0 at hk
      omega
    subst this
    refine ⟨?_, fun n b hb => by cases hb⟩
    show viewB (fileH []) ∈ _
    rw [viewB_all (l := []) (fun h hh => by cases hh) (by decide)]
    simp
theorem viewF_on {x : Option Txt} {l : List Hd} (e : x.getD [] = fileH l) : viewF (onF hfile x) = viewB (fileH l) := by
  unfold viewF fileD
  rw [onF_get, e]
theorem HI.view {d : Dk} {l c : List Hd} (h : HI d l c) : viewF d.now = l.getLastD (0, 0) := by
  obtain ⟨x, e1, e2⟩ := h.now
  rw [e1, viewF_on e2, viewB_all h.ok (by have := h.len; omega)]
theorem frame_rec {h : Hd} (oh : okH h) : (frameS (recH h)).length ≤ 19 := by
  have := recH_len oh
  rw [frameS_len (by omega)]
  omega
theorem read_hnew {d : Dk} {l c : List Hd} (h : HI d l c) : readD d hnew = none := by
  obtain ⟨x, e1, _⟩ := h.now
  rw [h.go.read, e1]
  cases x with
  | none => rfl
  | some b => rfl
theorem app_ok {d : Dk} {l c : List Hd} {h : Hd} (hi : HI d l c) (oh : okH h) {n : Txt} (hn : namedB n = true) : appE d n (frameS (recH h)) = 0 := by
  obtain ⟨x, e1, e2⟩ := hi.now
  have hl := frame_rec oh
  refine (if_neg hi.go.stop).trans ((if_neg (by rw [hn]; decide)).trans (if_neg ?_))
  rw [hi.room, e1, onF_sum, e2]
  have := onF_len hfile x
  have := hi.len
  rintro (h | ⟨_, h⟩) <;> omega
theorem HI.save {d : Dk} {l c : List Hd} {h : Hd} (hi : HI d l c) (oh : okH h) : ∃ l', (saveD d h.1 h.2).1 = 0 ∧ HI (saveD d h.1 h.2).2 l' (c ++ [h]) ∧ l'.getLastD (0, 0) = h ∧ (saveD d h.1 h.2).2.ps.length ≤ d.ps.length + 2 := by
  have hi' := hi.sub (c' := c ++ [h]) (fun x hx => List.mem_append_left _ hx)
  have hv := hi.view
  obtain ⟨x, e1, e2⟩ := hi.now
  have hl := frame_rec oh
  have hlen := hi.len
  have hrd : readD d hfile = x := by rw [hi.go.read, e1, onF_get]
  have hrg : ¬ rightH h.1 h.2 = false := by
    rw [okH_right oh]
    decide
  by_cases h256 : (fileH l).length < 256
  · have e : appE d hfile (frameS (recH h)) = 0 := app_ok hi oh rfl
    have hE : saveD d h.1 h.2 = (0, opD 0 d (.app hfile (frameS (recH h)))) := by
      unfold saveD
      rw [if_neg hrg, hrd, e2, if_pos h256]
      change (appE d hfile (frameS (recH h)), opD (appE d hfile (frameS (recH h))) d (.app hfile (frameS (recH h)))) = _
      rw [e]
    rw [hE]
    dsimp only
    have hnow : (opD 0 d (.app hfile (frameS (recH h)))).now = onF hfile (some (fileH l ++ frameS (recH h))) := by
      rw [hi.go.now, e1, onF_app, e2]
    have hview : ∀ t, viewF (doF d.now (.app hfile ((frameS (recH h)).take t))) = viewB (fileH l ++ (frameS (recH h)).take t) := by
      intro t
      rw [e1, onF_app, e2]
      unfold viewF fileD
      rw [onF_get]
      rfl
    refine ⟨l ++ [h], rfl, ⟨?_, hi.go.op', ⟨_, hnow, by rw [fileH_snoc]; rfl⟩, ok_snoc hi.ok oh, by rw [fileH_snoc, List.length_append]; omega, by simp, ?_⟩, by simp, ?_⟩
    · rw [hi.go.op]
      exact hi.room
    · refine hi'.crash.op hi.go ?_ ?_
      · have := hview (frameS (recH h)).length
        rw [List.take_length, ← fileH_snoc, viewB_all (ok_snoc hi.ok oh) (by rw [fileH_snoc, List.length_append]; omega)] at this
        rw [this]
        simp
      · rintro n b hb t ht
        cases hb
        rw [hview, viewB_torn hi.ok oh ht (by omega)]
        exact hi'.last
    · have := opD_ps d 0 (.app hfile (frameS (recH h)))
      omega
  · have hcl : clearD d = (0, d) := by
      unfold clearD
      rw [read_hnew hi]
      rfl
    have e : appE d hnew (frameS (recH h)) = 0 := app_ok hi oh rfl
    obtain ⟨b, rfl⟩ : ∃ b, x = some b := by
      cases x with
      | none =>
        rw [← e2] at h256
        exact absurd (show ([] : Txt).length < 256 by decide) h256
      | some b => exact ⟨b, rfl⟩
    change b = fileH l at e2
    have g2 := hi.go.op' (x := .app hnew (frameS (recH h)))
    have hn2 : ∀ f, doF d.now (.app hnew f) = [(hfile, b), (hnew, f)] := by
      intro f
      rw [e1]
      rfl
    have hnow2 : (opD 0 d (.app hnew (frameS (recH h)))).now = [(hfile, b), (hnew, frameS (recH h))] := by
      rw [hi.go.now, hn2]
    have hr : renE (opD 0 d (.app hnew (frameS (recH h)))) hnew hfile = 0 := by
      refine (if_neg g2.stop).trans ((if_neg (by decide)).trans (if_neg ?_))
      rw [hnow2]
      intro h
      cases h
    have hv2 : ∀ f, viewF [(hfile, b), (hnew, f)] = l.getLastD (0, 0) := by
      intro f
      have : fileD [(hfile, b), (hnew, f)] hfile = fileH l := e2
      unfold viewF
      rw [this, viewB_all hi.ok (by omega)]
    have hc2 : CrI (opD 0 d (.app hnew (frameS (recH h)))) (c ++ [h]) := by
      refine hi'.crash.op hi.go ?_ ?_
      · rw [hn2, hv2]
        exact hi'.last
      · rintro n b' hb t ht
        cases hb
        rw [hn2, hv2]
        exact hi'.last
    have hn3 : doF (opD 0 d (.app hnew (frameS (recH h)))).now (.ren hnew hfile) = onF hfile (some (frameS (recH h))) := by
      rw [hnow2]
      rfl
    have hf1 : fileH [h] = frameS (recH h) := by
      unfold fileH cat
      simp
    have hok1 : ∀ x ∈ [h], okH x := by
      intro x hx
      rw [List.mem_singleton] at hx
      rw [hx]
      exact oh
    have hE : saveD d h.1 h.2 = (0, opD 0 (opD 0 d (.app hnew (frameS (recH h)))) (.ren hnew hfile)) := by
      unfold saveD
      rw [if_neg hrg, hrd, if_neg (by rw [show (some b).getD [] = fileH l from e2]; exact h256), hcl, if_neg (fun h => h rfl)]
      change (if appE d hnew (frameS (recH h)) ≠ 0 then _ else (renE (opD 0 d (.app hnew (frameS (recH h)))) hnew hfile, opD (renE (opD 0 d (.app hnew (frameS (recH h)))) hnew hfile) (opD 0 d (.app hnew (frameS (recH h)))) (.ren hnew hfile))) = _
      rw [if_neg (fun h => h e), hr]
    rw [hE]
    refine ⟨[h], rfl, ⟨?_, g2.op', ⟨_, (g2.now).trans hn3, hf1.symm⟩, hok1, by rw [hf1]; omega, by simp, ?_⟩, rfl, ?_⟩
    · dsimp only
      rw [g2.op, hi.go.op]
      exact hi.room
    · refine hc2.op g2 ?_ ?_
      · rw [hn3, viewF_on (x := some (frameS (recH h))) (l := [h]) hf1.symm, viewB_all hok1 (by rw [hf1]; omega)]
        simp
      · rintro n b' hb
        cases hb
    · dsimp only
      have h1 := opD_ps d 0 (.app hnew (frameS (recH h)))
      have h2 := opD_ps (opD 0 d (.app hnew (frameS (recH h)))) 0 (.ren hnew hfile)
      omega
theorem HI.sync {d : Dk} {l c : List Hd} (hi : HI d l c) : synE d = 0 ∧ HI (synD d) l [l.getLastD (0, 0)] ∧ (synD d).ps = [] := by
  have hs : synD d = ⟨d.room, d.now, [], d.fuse, d.down⟩ := by
    unfold synD
    rw [if_neg hi.go.stop, hi.go.cnt]
  rw [hs]
  refine ⟨if_neg hi.go.stop, ⟨hi.room, hi.go, hi.now, hi.ok, hi.len, by simp, ?_⟩, rfl⟩
  intro k hk
  have : k = 0 := by
    change k ≤ 0 at hk
    omega
  subst this
  refine ⟨?_, fun n b hb => by cases hb⟩
  show viewF d.now ∈ _
  rw [hi.view]
  simp
theorem HI.open {d : Dk} {l c : List Hd} (hi : HI d l c) : openD d = (0, d, l.getLastD (0, 0)) := by
  have hcl : clearD d = (0, d) := by
    unfold clearD
    rw [read_hnew hi]
    rfl
  obtain ⟨x, e1, e2⟩ := hi.now
  have hrd : (readD d hfile).getD [] = fileH l := by rw [hi.go.read, e1, onF_get, e2]
  unfold openD
  rw [hcl, if_neg (fun h => h rfl)]
  dsimp only
  rw [hrd, open_all hi.ok (by have := hi.len; omega)]
  exact if_neg (Nat.lt_irrefl _)
theorem HI.crashed {d : Dk} {l c : List Hd} (hi : HI d l c) (keep torn : Int) : (openD (crashD d keep torn)).1 = 0 ∧ (openD (crashD d keep torn)).2.2 ∈ c := by
  obtain ⟨h1, h2⟩ := open_view (crash_goes d keep torn)
  refine ⟨h1, ?_⟩
  rw [h2]
  exact hi.crash.crash keep torn
end Go.Sx
end
section
namespace Go.Sx
open Go Go.Proofs Go.RowKit
attribute [local irreducible] C R Fin K Own OwnT Rd Pl Ok KOf RetOk OpsOf RP KP Res NoPanic KV KE MapS ItS EntS FsO FsR RowD PlD DkO
variable {M M' : Mem} {H H1 H2 : Hp}
theorem HI.saveE {d : Dk} {l c : List Hd} {h : Hd} (hi : HI d l c) (oh : okH h) (h256 : (fileH l).length < 256) : saveD d h.1 h.2 = (0, opD 0 d (.app hfile (frameS (recH h)))) := by
  obtain ⟨x, e1, e2⟩ := hi.now
  have hrd : readD d hfile = x := by rw [hi.go.read, e1, onF_get]
  have hrg : ¬ rightH h.1 h.2 = false := by
    rw [okH_right oh]
    decide
  have e : appE d hfile (frameS (recH h)) = 0 := app_ok hi oh rfl
  unfold saveD
  rw [if_neg hrg, hrd, e2, if_pos h256]
  change (appE d hfile (frameS (recH h)), opD (appE d hfile (frameS (recH h))) d (.app hfile (frameS (recH h)))) = _
  rw [e]
theorem crash_first {d : Dk} {l c : List Hd} {h : Hd} (hi : HI d l c) (oh : okH h) (hps : d.ps = []) : viewF (crashD (opD 0 d (.app hfile (frameS (recH h)))) 0 3).now = l.getLastD (0, 0) := by
  obtain ⟨x, e1, e2⟩ := hi.now
  have hS : d.S = onF hfile x := by
    rw [← e1]
    unfold Dk.now
    rw [hps]
    rfl
  have hfl := frameS_len (bs := recH h) (by have := recH_len oh; omega)
  have hk : keepD (opD 0 d (.app hfile (frameS (recH h)))) 0 = 0 := by
    unfold keepD
    rw [Int.zero_emod]
    rfl
  have ht : (3 % ((frameS (recH h)).length : Int)).toNat = 3 := by
    rw [Int.emod_eq_of_lt (by decide) (by omega)]
    rfl
  show viewF (crashF (opD 0 d (.app hfile (frameS (recH h)))) 0 3) = _
  unfold crashF
  rw [hk, hi.go.op]
  dsimp only
  rw [hps, List.nil_append, List.getElem?_cons_zero, List.take_zero]
  show viewF (tornF d.S (.app hfile (frameS (recH h))) 3) = _
  unfold tornF
  dsimp only
  rw [ht, if_pos (by omega), hS, onF_app, e2]
  unfold viewF fileD
  rw [onF_get]
  exact viewB_torn hi.ok oh (by omega) (by have := hi.len; omega)
theorem ok31 : okH (3, 1) := ⟨by decide, by decide, by decide⟩
theorem ok42 : okH (4, 2) := ⟨by decide, by decide, by decide⟩
theorem hknown_all : ∃ d1 d3 : Dk, saveD (newD 1048576) 3 1 = (0, d1) ∧ synE d1 = 0 ∧ saveD (synD d1) 4 2 = (0, d3) ∧ openD d3 = (0, d3, (4, 2)) ∧ (openD (crashD d3 0 3)).1 = 0 ∧ (openD (crashD d3 0 3)).2.2 = (3, 1) ∧ d1.ps.length ≤ 10 ∧ (synD d1).ps.length ≤ 10 ∧ d3.ps.length ≤ 10 := by
  have e1 := HI.new.saveE ok31 (by decide)
  obtain ⟨l1, _, h1, hl1, hp1⟩ := HI.new.save ok31
  rw [e1] at h1 hp1
  obtain ⟨s1, h2, s2⟩ := h1.sync
  have hlen1 : (fileH l1).length < 256 := by
    obtain ⟨x, n1, n2⟩ := h1.now
    have hn : (opD 0 (newD 1048576) (.app hfile (frameS (recH (3, 1))))).now = onF hfile (some (frameS (recH (3, 1)))) := by
      rw [HI.new.go.now]
      rfl
    have hx : x = some (frameS (recH (3, 1))) := by
      have := congrArg (fun F => getS F hfile) (n1.symm.trans hn)
      rw [onF_get, onF_get] at this
      exact this
    have := frame_rec ok31
    rw [hx] at n2
    rw [← n2]
    show (frameS (recH (3, 1))).length < 256
    omega
  rw [hl1] at h2
  have e2 := h2.saveE ok42 hlen1
  obtain ⟨l3, _, h3, hl3, hp3⟩ := h2.save ok42
  rw [e2] at h3 hp3
  have ho := h3.open
  rw [hl3] at ho
  obtain ⟨c1, c2⟩ := open_view (crash_goes (opD 0 (synD (opD 0 (newD 1048576) (.app hfile (frameS (recH (3, 1)))))) (.app hfile (frameS (recH (4, 2))))) 0 3)
  rw [crash_first h2 ok42 s2, hl1] at c2
  dsimp only at hp1 hp3
  rw [s2] at hp3
  exact ⟨_, _, e1, s1, e2, ho, c1, c2, Nat.le_trans hp1 (by decide), by rw [s2]; decide, Nat.le_trans hp3 (by decide)⟩
theorem hard_eq (a b a' b' : Int) (w : World) : (Op.equalIn 10000 44 (.agg #[.int .u64 a, .int .i64 b]) (.agg #[.int .u64 a', .int .i64 b'])).run Try.prog w = .ok (decide (a = a' ∧ b = b')) w := by
  have hf : Try.prog.fieldsOf 44 = #[{ name := "Term", type := 42, offset := 0, embedded := false, tag := "", pkgPath := "", byteOffset := 0 }, { name := "Vote", type := 3, offset := 1, embedded := false, tag := "", pkgPath := "", byteOffset := 8 }] := by kernel_rfl
  have hu : Try.prog.underlying 44 = some (.struct (Try.prog.fieldsOf 44)) := by kernel_rfl
  have hs : Try.prog.stoodInHeld 44 = false := by kernel_rfl
  rw [run_equalIn_struct w 9999 _ _ _ hu hs, hf]
  simp [Op.eqFields, part, run_isAgg (P := Try.prog) Try.underlying42, run_isAgg (P := Try.prog) Try.underlying3, aggD, run_equalIn_int w 9998 42 .u64 .u64 _ _ Try.underlying42, run_equalIn_int w 9998 3 .i64 .i64 _ _ Try.underlying3]
  by_cases h1 : a = a' <;> by_cases h2 : b = b' <;> simp [h1, h2]
theorem hard_guard : Try.prog.eqGuardType Try.prog.depth 44 = false := by kernel_rfl
theorem hard_same (a b : Int) (w : World) : (Op.equalIn 10000 44 (.agg #[.int .u64 a, .int .i64 b]) (.agg #[.int .u64 a, .int .i64 b])).run Try.prog w = .ok true w := by
  rw [hard_eq]
  simp
theorem hknown_K : K Try.prog 24 [] M H fun v' M' H' => v' = .bool true ∧ M.le M' ∧ H' = H := by
  refine K.enterK Try.func24 rfl rfl rfl ?_
  intro Q hNP hQ
  obtain ⟨d1, d3, e1, e2, e3, e4, e5, e6, p1, p2, p3⟩ := hknown_all
  (repeat' (first | (apply R.step; (exact a_ok); exact rfl) | (first | (with_reducible first | apply R.nil | apply C.ret | apply C.block | apply C.skip | apply C.exit | apply Fin.thenRet | apply Fin.thenExit | apply Fin.blockNormal | apply Fin.blockRet | apply Fin.blockExit) | (with_reducible apply Fin.thenK; assumption) | (with_reducible apply C.seqK; intro _ _) | (with_reducible apply C.regionK; intro _ _) | (with_reducible apply Fin.blockOther; exact rfl)) | (first | (apply R.store; exact rfl; exact rfl; exact rfl; (exact a_at); (exact a_blit); exact rfl; (focus (simp [Value.oneCell']; done))) | (apply R.buildSlice0; exact rfl; intro bz) | (apply R.box; exact rfl; (simp only [Value.cells]; rfl); exact rfl; intro bx) | (apply R.alloc; (simp only [Value.cells]; rfl); exact rfl; intro ba) | (apply R.buildSlice; (exact a_prt); exact rfl; exact rfl; (exact a_fills); exact rfl; intro bl)) | (first | (apply R.guardT; assumption; exact rfl; exact rfl; exact rfl) | (apply R.guardF; assumption; exact rfl; exact rfl; exact rfl; exact rfl; exact rfl) | (apply R.guardU; assumption; exact rfl; exact rfl; exact rfl; exact rfl) | (apply R.guardDec; assumption; exact rfl; exact rfl; (intro h; skip; rotate_left; intro h; skip; rotate_left)) | (apply R.guardBeq; assumption; exact rfl; exact rfl; (intro h; skip; rotate_left; intro h; skip; rotate_left)) | (apply R.guardBne; assumption; exact rfl; exact rfl; (intro h; skip; rotate_left; intro h; skip; rotate_left)) | (apply R.guardNDec; assumption; exact rfl; exact rfl; (intro h; skip; rotate_left; intro h; skip; rotate_left)) | (apply R.guardNot; assumption; exact rfl; exact rfl; (intro h; skip; rotate_left; intro h; skip; rotate_left)) | (apply R.guardC; assumption; exact rfl; exact rfl; (intro h; skip; rotate_left; intro h; skip; rotate_left))) | (first | (apply C.condT; exact rfl) | (apply C.condF; exact rfl) | (apply C.condDec; exact rfl; (intro h; skip; rotate_left; intro h; skip; rotate_left)) | (apply C.condBeq; exact rfl; (intro h; skip; rotate_left; intro h; skip; rotate_left)) | (apply C.condBne; exact rfl; (intro h; skip; rotate_left; intro h; skip; rotate_left)) | (apply C.condNDec; exact rfl; (intro h; skip; rotate_left; intro h; skip; rotate_left)) | (apply C.condNot; exact rfl; (intro h; skip; rotate_left; intro h; skip; rotate_left)) | (apply C.cond; exact rfl; (intro h; skip; rotate_left; intro h; skip; rotate_left)))))
  (apply R.call; (exact a_evs); exact rfl; exact new_K (room := 1048576) (by decide) (by decide); rintro _ M _ ⟨db, hp, rfl, rfl, ho, rfl⟩)
  (repeat' (first | (apply R.step; (exact a_ok); exact rfl) | (first | (with_reducible first | apply R.nil | apply C.ret | apply C.block | apply C.skip | apply C.exit | apply Fin.thenRet | apply Fin.thenExit | apply Fin.blockNormal | apply Fin.blockRet | apply Fin.blockExit) | (with_reducible apply Fin.thenK; assumption) | (with_reducible apply C.seqK; intro _ _) | (with_reducible apply C.regionK; intro _ _) | (with_reducible apply Fin.blockOther; exact rfl)) | (first | (apply R.store; exact rfl; exact rfl; exact rfl; (exact a_at); (exact a_blit); exact rfl; (focus (simp [Value.oneCell']; done))) | (apply R.buildSlice0; exact rfl; intro bz) | (apply R.box; exact rfl; (simp only [Value.cells]; rfl); exact rfl; intro bx) | (apply R.alloc; (simp only [Value.cells]; rfl); exact rfl; intro ba) | (apply R.buildSlice; (exact a_prt); exact rfl; exact rfl; (exact a_fills); exact rfl; intro bl)) | (first | (apply R.guardT; assumption; exact rfl; exact rfl; exact rfl) | (apply R.guardF; assumption; exact rfl; exact rfl; exact rfl; exact rfl; exact rfl) | (apply R.guardU; assumption; exact rfl; exact rfl; exact rfl; exact rfl) | (apply R.guardDec; assumption; exact rfl; exact rfl; (intro h; skip; rotate_left; intro h; skip; rotate_left)) | (apply R.guardBeq; assumption; exact rfl; exact rfl; (intro h; skip; rotate_left; intro h; skip; rotate_left)) | (apply R.guardBne; assumption; exact rfl; exact rfl; (intro h; skip; rotate_left; intro h; skip; rotate_left)) | (apply R.guardNDec; assumption; exact rfl; exact rfl; (intro h; skip; rotate_left; intro h; skip; rotate_left)) | (apply R.guardNot; assumption; exact rfl; exact rfl; (intro h; skip; rotate_left; intro h; skip; rotate_left)) | (apply R.guardC; assumption; exact rfl; exact rfl; (intro h; skip; rotate_left; intro h; skip; rotate_left))) | (first | (apply C.condT; exact rfl) | (apply C.condF; exact rfl) | (apply C.condDec; exact rfl; (intro h; skip; rotate_left; intro h; skip; rotate_left)) | (apply C.condBeq; exact rfl; (intro h; skip; rotate_left; intro h; skip; rotate_left)) | (apply C.condBne; exact rfl; (intro h; skip; rotate_left; intro h; skip; rotate_left)) | (apply C.condNDec; exact rfl; (intro h; skip; rotate_left; intro h; skip; rotate_left)) | (apply C.condNot; exact rfl; (intro h; skip; rotate_left; intro h; skip; rotate_left)) | (apply C.cond; exact rfl; (intro h; skip; rotate_left; intro h; skip; rotate_left)))))
  (apply R.call; (exact a_evs); exact rfl; exact save_K (t := 3) (v := 1) ho (by decide) (by decide); rintro _ M1 _ ⟨rfl, hM1, hp1, ho1, rfl⟩)
  rw [e1] at ho1 ⊢
  dsimp only at ho1 ⊢
  (repeat' (first | (apply R.step; (exact a_ok); exact rfl) | (first | (with_reducible first | apply R.nil | apply C.ret | apply C.block | apply C.skip | apply C.exit | apply Fin.thenRet | apply Fin.thenExit | apply Fin.blockNormal | apply Fin.blockRet | apply Fin.blockExit) | (with_reducible apply Fin.thenK; assumption) | (with_reducible apply C.seqK; intro _ _) | (with_reducible apply C.regionK; intro _ _) | (with_reducible apply Fin.blockOther; exact rfl)) | (first | (apply R.store; exact rfl; exact rfl; exact rfl; (exact a_at); (exact a_blit); exact rfl; (focus (simp [Value.oneCell']; done))) | (apply R.buildSlice0; exact rfl; intro bz) | (apply R.box; exact rfl; (simp only [Value.cells]; rfl); exact rfl; intro bx) | (apply R.alloc; (simp only [Value.cells]; rfl); exact rfl; intro ba) | (apply R.buildSlice; (exact a_prt); exact rfl; exact rfl; (exact a_fills); exact rfl; intro bl)) | (first | (apply R.guardT; assumption; exact rfl; exact rfl; exact rfl) | (apply R.guardF; assumption; exact rfl; exact rfl; exact rfl; exact rfl; exact rfl) | (apply R.guardU; assumption; exact rfl; exact rfl; exact rfl; exact rfl) | (apply R.guardDec; assumption; exact rfl; exact rfl; (intro h; skip; rotate_left; intro h; skip; rotate_left)) | (apply R.guardBeq; assumption; exact rfl; exact rfl; (intro h; skip; rotate_left; intro h; skip; rotate_left)) | (apply R.guardBne; assumption; exact rfl; exact rfl; (intro h; skip; rotate_left; intro h; skip; rotate_left)) | (apply R.guardNDec; assumption; exact rfl; exact rfl; (intro h; skip; rotate_left; intro h; skip; rotate_left)) | (apply R.guardNot; assumption; exact rfl; exact rfl; (intro h; skip; rotate_left; intro h; skip; rotate_left)) | (apply R.guardC; assumption; exact rfl; exact rfl; (intro h; skip; rotate_left; intro h; skip; rotate_left))) | (first | (apply C.condT; exact rfl) | (apply C.condF; exact rfl) | (apply C.condDec; exact rfl; (intro h; skip; rotate_left; intro h; skip; rotate_left)) | (apply C.condBeq; exact rfl; (intro h; skip; rotate_left; intro h; skip; rotate_left)) | (apply C.condBne; exact rfl; (intro h; skip; rotate_left; intro h; skip; rotate_left)) | (apply C.condNDec; exact rfl; (intro h; skip; rotate_left; intro h; skip; rotate_left)) | (apply C.condNot; exact rfl; (intro h; skip; rotate_left; intro h; skip; rotate_left)) | (apply C.cond; exact rfl; (intro h; skip; rotate_left; intro h; skip; rotate_left)))))
  (apply R.call; (exact a_evs); exact rfl; exact sync_K ho1; rintro _ M1 _ ⟨rfl, rfl, hp2, ho2, rfl⟩)
  rw [e2]
  (repeat' (first | (apply R.step; (exact a_ok); exact rfl) | (first | (with_reducible first | apply R.nil | apply C.ret | apply C.block | apply C.skip | apply C.exit | apply Fin.thenRet | apply Fin.thenExit | apply Fin.blockNormal | apply Fin.blockRet | apply Fin.blockExit) | (with_reducible apply Fin.thenK; assumption) | (with_reducible apply C.seqK; intro _ _) | (with_reducible apply C.regionK; intro _ _) | (with_reducible apply Fin.blockOther; exact rfl)) | (first | (apply R.store; exact rfl; exact rfl; exact rfl; (exact a_at); (exact a_blit); exact rfl; (focus (simp [Value.oneCell']; done))) | (apply R.buildSlice0; exact rfl; intro bz) | (apply R.box; exact rfl; (simp only [Value.cells]; rfl); exact rfl; intro bx) | (apply R.alloc; (simp only [Value.cells]; rfl); exact rfl; intro ba) | (apply R.buildSlice; (exact a_prt); exact rfl; exact rfl; (exact a_fills); exact rfl; intro bl)) | (first | (apply R.guardT; assumption; exact rfl; exact rfl; exact rfl) | (apply R.guardF; assumption; exact rfl; exact rfl; exact rfl; exact rfl; exact rfl) | (apply R.guardU; assumption; exact rfl; exact rfl; exact rfl; exact rfl) | (apply R.guardDec; assumption; exact rfl; exact rfl; (intro h; skip; rotate_left; intro h; skip; rotate_left)) | (apply R.guardBeq; assumption; exact rfl; exact rfl; (intro h; skip; rotate_left; intro h; skip; rotate_left)) | (apply R.guardBne; assumption; exact rfl; exact rfl; (intro h; skip; rotate_left; intro h; skip; rotate_left)) | (apply R.guardNDec; assumption; exact rfl; exact rfl; (intro h; skip; rotate_left; intro h; skip; rotate_left)) | (apply R.guardNot; assumption; exact rfl; exact rfl; (intro h; skip; rotate_left; intro h; skip; rotate_left)) | (apply R.guardC; assumption; exact rfl; exact rfl; (intro h; skip; rotate_left; intro h; skip; rotate_left))) | (first | (apply C.condT; exact rfl) | (apply C.condF; exact rfl) | (apply C.condDec; exact rfl; (intro h; skip; rotate_left; intro h; skip; rotate_left)) | (apply C.condBeq; exact rfl; (intro h; skip; rotate_left; intro h; skip; rotate_left)) | (apply C.condBne; exact rfl; (intro h; skip; rotate_left; intro h; skip; rotate_left)) | (apply C.condNDec; exact rfl; (intro h; skip; rotate_left; intro h; skip; rotate_left)) | (apply C.condNot; exact rfl; (intro h; skip; rotate_left; intro h; skip; rotate_left)) | (apply C.cond; exact rfl; (intro h; skip; rotate_left; intro h; skip; rotate_left)))))
  (apply R.call; (exact a_evs); exact rfl; exact save_K (t := 4) (v := 2) ho2 (by omega) (by decide); rintro _ M3 _ ⟨rfl, hM3, hp3, ho3, rfl⟩)
  rw [e3] at ho3 ⊢
  dsimp only at ho3 ⊢
  (repeat' (first | (apply R.step; (exact a_ok); exact rfl) | (first | (with_reducible first | apply R.nil | apply C.ret | apply C.block | apply C.skip | apply C.exit | apply Fin.thenRet | apply Fin.thenExit | apply Fin.blockNormal | apply Fin.blockRet | apply Fin.blockExit) | (with_reducible apply Fin.thenK; assumption) | (with_reducible apply C.seqK; intro _ _) | (with_reducible apply C.regionK; intro _ _) | (with_reducible apply Fin.blockOther; exact rfl)) | (first | (apply R.store; exact rfl; exact rfl; exact rfl; (exact a_at); (exact a_blit); exact rfl; (focus (simp [Value.oneCell']; done))) | (apply R.buildSlice0; exact rfl; intro bz) | (apply R.box; exact rfl; (simp only [Value.cells]; rfl); exact rfl; intro bx) | (apply R.alloc; (simp only [Value.cells]; rfl); exact rfl; intro ba) | (apply R.buildSlice; (exact a_prt); exact rfl; exact rfl; (exact a_fills); exact rfl; intro bl)) | (first | (apply R.guardT; assumption; exact rfl; exact rfl; exact rfl) | (apply R.guardF; assumption; exact rfl; exact rfl; exact rfl; exact rfl; exact rfl) | (apply R.guardU; assumption; exact rfl; exact rfl; exact rfl; exact rfl) | (apply R.guardDec; assumption; exact rfl; exact rfl; (intro h; skip; rotate_left; intro h; skip; rotate_left)) | (apply R.guardBeq; assumption; exact rfl; exact rfl; (intro h; skip; rotate_left; intro h; skip; rotate_left)) | (apply R.guardBne; assumption; exact rfl; exact rfl; (intro h; skip; rotate_left; intro h; skip; rotate_left)) | (apply R.guardNDec; assumption; exact rfl; exact rfl; (intro h; skip; rotate_left; intro h; skip; rotate_left)) | (apply R.guardNot; assumption; exact rfl; exact rfl; (intro h; skip; rotate_left; intro h; skip; rotate_left)) | (apply R.guardC; assumption; exact rfl; exact rfl; (intro h; skip; rotate_left; intro h; skip; rotate_left))) | (first | (apply C.condT; exact rfl) | (apply C.condF; exact rfl) | (apply C.condDec; exact rfl; (intro h; skip; rotate_left; intro h; skip; rotate_left)) | (apply C.condBeq; exact rfl; (intro h; skip; rotate_left; intro h; skip; rotate_left)) | (apply C.condBne; exact rfl; (intro h; skip; rotate_left; intro h; skip; rotate_left)) | (apply C.condNDec; exact rfl; (intro h; skip; rotate_left; intro h; skip; rotate_left)) | (apply C.condNot; exact rfl; (intro h; skip; rotate_left; intro h; skip; rotate_left)) | (apply C.cond; exact rfl; (intro h; skip; rotate_left; intro h; skip; rotate_left)))))
  (apply R.call; (exact a_evs); exact rfl; exact open_K ho3 (by omega); rintro _ M4 _ ⟨rfl, hM4, hp4, ho4, rfl⟩)
  rw [e4] at ho4 ⊢
  dsimp only at ho4 ⊢
  unfold hrdV hrdC
  (repeat' (first | (apply R.step; (exact a_ok); exact rfl) | (first | (with_reducible first | apply R.nil | apply C.ret | apply C.block | apply C.skip | apply C.exit | apply Fin.thenRet | apply Fin.thenExit | apply Fin.blockNormal | apply Fin.blockRet | apply Fin.blockExit) | (with_reducible apply Fin.thenK; assumption) | (with_reducible apply C.seqK; intro _ _) | (with_reducible apply C.regionK; intro _ _) | (with_reducible apply Fin.blockOther; exact rfl)) | (first | (apply R.store; exact rfl; exact rfl; exact rfl; (exact a_at); (exact a_blit); exact rfl; (focus (simp [Value.oneCell']; done))) | (apply R.buildSlice0; exact rfl; intro bz) | (apply R.box; exact rfl; (simp only [Value.cells]; rfl); exact rfl; intro bx) | (apply R.alloc; (simp only [Value.cells]; rfl); exact rfl; intro ba) | (apply R.buildSlice; (exact a_prt); exact rfl; exact rfl; (exact a_fills); exact rfl; intro bl)) | (first | (apply R.guardT; assumption; exact rfl; exact rfl; exact rfl) | (apply R.guardF; assumption; exact rfl; exact rfl; exact rfl; exact rfl; exact rfl) | (apply R.guardU; assumption; exact rfl; exact rfl; exact rfl; exact rfl) | (apply R.guardDec; assumption; exact rfl; exact rfl; (intro h; skip; rotate_left; intro h; skip; rotate_left)) | (apply R.guardBeq; assumption; exact rfl; exact rfl; (intro h; skip; rotate_left; intro h; skip; rotate_left)) | (apply R.guardBne; assumption; exact rfl; exact rfl; (intro h; skip; rotate_left; intro h; skip; rotate_left)) | (apply R.guardNDec; assumption; exact rfl; exact rfl; (intro h; skip; rotate_left; intro h; skip; rotate_left)) | (apply R.guardNot; assumption; exact rfl; exact rfl; (intro h; skip; rotate_left; intro h; skip; rotate_left)) | (apply R.guardC; assumption; exact rfl; exact rfl; (intro h; skip; rotate_left; intro h; skip; rotate_left))) | (first | (apply C.condT; exact rfl) | (apply C.condF; exact rfl) | (apply C.condDec; exact rfl; (intro h; skip; rotate_left; intro h; skip; rotate_left)) | (apply C.condBeq; exact rfl; (intro h; skip; rotate_left; intro h; skip; rotate_left)) | (apply C.condBne; exact rfl; (intro h; skip; rotate_left; intro h; skip; rotate_left)) | (apply C.condNDec; exact rfl; (intro h; skip; rotate_left; intro h; skip; rotate_left)) | (apply C.condNot; exact rfl; (intro h; skip; rotate_left; intro h; skip; rotate_left)) | (apply C.cond; exact rfl; (intro h; skip; rotate_left; intro h; skip; rotate_left)))))
  apply R.arr (H2 := hp4 ++ ((ba, .cells #[.int .u64 4, .int .i64 2] 44 (0, 0)) :: H)) (by ((try simp only [List.append_assoc, List.cons_append, List.nil_append, List.append_nil]); exact a_arr))
  (apply R.call; (exact a_evs); exact rfl; exact crash_K (keep := 0) (torn := 3) ho4 (by omega); rintro _ M5 _ ⟨rfl, hM5, hp5, ho5, rfl⟩)
  (repeat' (first | (apply R.step; (exact a_ok); exact rfl) | (first | (with_reducible first | apply R.nil | apply C.ret | apply C.block | apply C.skip | apply C.exit | apply Fin.thenRet | apply Fin.thenExit | apply Fin.blockNormal | apply Fin.blockRet | apply Fin.blockExit) | (with_reducible apply Fin.thenK; assumption) | (with_reducible apply C.seqK; intro _ _) | (with_reducible apply C.regionK; intro _ _) | (with_reducible apply Fin.blockOther; exact rfl)) | (first | (apply R.store; exact rfl; exact rfl; exact rfl; (exact a_at); (exact a_blit); exact rfl; (focus (simp [Value.oneCell']; done))) | (apply R.buildSlice0; exact rfl; intro bz) | (apply R.box; exact rfl; (simp only [Value.cells]; rfl); exact rfl; intro bx) | (apply R.alloc; (simp only [Value.cells]; rfl); exact rfl; intro ba) | (apply R.buildSlice; (exact a_prt); exact rfl; exact rfl; (exact a_fills); exact rfl; intro bl)) | (first | (apply R.guardT; assumption; exact rfl; exact rfl; exact rfl) | (apply R.guardF; assumption; exact rfl; exact rfl; exact rfl; exact rfl; exact rfl) | (apply R.guardU; assumption; exact rfl; exact rfl; exact rfl; exact rfl) | (apply R.guardDec; assumption; exact rfl; exact rfl; (intro h; skip; rotate_left; intro h; skip; rotate_left)) | (apply R.guardBeq; assumption; exact rfl; exact rfl; (intro h; skip; rotate_left; intro h; skip; rotate_left)) | (apply R.guardBne; assumption; exact rfl; exact rfl; (intro h; skip; rotate_left; intro h; skip; rotate_left)) | (apply R.guardNDec; assumption; exact rfl; exact rfl; (intro h; skip; rotate_left; intro h; skip; rotate_left)) | (apply R.guardNot; assumption; exact rfl; exact rfl; (intro h; skip; rotate_left; intro h; skip; rotate_left)) | (apply R.guardC; assumption; exact rfl; exact rfl; (intro h; skip; rotate_left; intro h; skip; rotate_left))) | (first | (apply C.condT; exact rfl) | (apply C.condF; exact rfl) | (apply C.condDec; exact rfl; (intro h; skip; rotate_left; intro h; skip; rotate_left)) | (apply C.condBeq; exact rfl; (intro h; skip; rotate_left; intro h; skip; rotate_left)) | (apply C.condBne; exact rfl; (intro h; skip; rotate_left; intro h; skip; rotate_left)) | (apply C.condNDec; exact rfl; (intro h; skip; rotate_left; intro h; skip; rotate_left)) | (apply C.condNot; exact rfl; (intro h; skip; rotate_left; intro h; skip; rotate_left)) | (apply C.cond; exact rfl; (intro h; skip; rotate_left; intro h; skip; rotate_left)))))
  (apply R.call; (exact a_evs); exact rfl; exact open_K ho5 (Nat.zero_le _); rintro _ M6 _ ⟨rfl, hM6, hp6, ho6, rfl⟩)
  rw [e5, e6]
  unfold hrdV hrdC
  (repeat' (first | (apply R.step; (apply Ok.move; exact rfl); exact rfl) | (apply R.step; (apply Ok.eqS; exact rfl; exact rfl; exact hard_guard; exact hard_same _ _); exact rfl) | (apply R.step; (exact a_ok); exact rfl) | (first | (with_reducible first | apply R.nil | apply C.ret | apply C.block | apply C.skip | apply C.exit | apply Fin.thenRet | apply Fin.thenExit | apply Fin.blockNormal | apply Fin.blockRet | apply Fin.blockExit) | (with_reducible apply Fin.thenK; assumption) | (with_reducible apply C.seqK; intro _ _) | (with_reducible apply C.regionK; intro _ _) | (with_reducible apply Fin.blockOther; exact rfl)) | (first | (apply R.store; exact rfl; exact rfl; exact rfl; (exact a_at); (exact a_blit); exact rfl; (focus (simp [Value.oneCell']; done))) | (apply R.buildSlice0; exact rfl; intro bz) | (apply R.box; exact rfl; (simp only [Value.cells]; rfl); exact rfl; intro bx) | (apply R.alloc; (simp only [Value.cells]; rfl); exact rfl; intro ba) | (apply R.buildSlice; (exact a_prt); exact rfl; exact rfl; (exact a_fills); exact rfl; intro bl)) | (first | (apply R.guardT; assumption; exact rfl; exact rfl; exact rfl) | (apply R.guardF; assumption; exact rfl; exact rfl; exact rfl; exact rfl; exact rfl) | (apply R.guardU; assumption; exact rfl; exact rfl; exact rfl; exact rfl) | (apply R.guardDec; assumption; exact rfl; exact rfl; (intro h; skip; rotate_left; intro h; skip; rotate_left)) | (apply R.guardBeq; assumption; exact rfl; exact rfl; (intro h; skip; rotate_left; intro h; skip; rotate_left)) | (apply R.guardBne; assumption; exact rfl; exact rfl; (intro h; skip; rotate_left; intro h; skip; rotate_left)) | (apply R.guardNDec; assumption; exact rfl; exact rfl; (intro h; skip; rotate_left; intro h; skip; rotate_left)) | (apply R.guardNot; assumption; exact rfl; exact rfl; (intro h; skip; rotate_left; intro h; skip; rotate_left)) | (apply R.guardC; assumption; exact rfl; exact rfl; (intro h; skip; rotate_left; intro h; skip; rotate_left))) | (first | (apply C.condT; exact rfl) | (apply C.condF; exact rfl) | (apply C.condDec; exact rfl; (intro h; skip; rotate_left; intro h; skip; rotate_left)) | (apply C.condBeq; exact rfl; (intro h; skip; rotate_left; intro h; skip; rotate_left)) | (apply C.condBne; exact rfl; (intro h; skip; rotate_left; intro h; skip; rotate_left)) | (apply C.condNDec; exact rfl; (intro h; skip; rotate_left; intro h; skip; rotate_left)) | (apply C.condNot; exact rfl; (intro h; skip; rotate_left; intro h; skip; rotate_left)) | (apply C.cond; exact rfl; (intro h; skip; rotate_left; intro h; skip; rotate_left)))))
  (apply Fin.returnA (H2 := H); assumption; (first | exact .inl rfl | exact .inr rfl); exact rfl; (exact a_res); (simp only [retv]; rfl); (exact a_arr))
  exact ⟨rfl, hM1.trans_ (hM3.trans_ (hM4.trans_ (hM5.trans_ hM6))), rfl⟩
end Go.Sx
end
section
namespace Go.Sx
open Go.RowKit
variable {P : Program} {r : Option Nat} {n : Nat} {D : List Deferred} {L L' : Sl} {M : Mem} {H : Hp} {Q : Post}
inductive PT where
  | nil
  | free (i : Nat) (t : PT)
  | one (i : Nat) (t : PT)
  | alt (i j : Nat) (t u : PT)
  | alt3 (i j k : Nat) (t u v : PT)
def PT.fuel : PT → Nat
  | .nil => 0
  | .free _ t => t.fuel + 1
  | .one _ t => t.fuel + 1
  | .alt _ _ t _ => t.fuel + 1
  | .alt3 _ _ _ t _ _ => t.fuel + 1
def planS (ops : Array Oper) (A : List Nat) (lA : Array Bool) : PT → Array Bool → Bool
  | .nil, listed => decide (listed = lA)
  | .free i t, listed => (Region.ready .any ops listed).contains i && Region.free .any ops listed i && A.contains i && Nat.ble ((A.filter fun j => !(listed.getD j true) && !(Nat.beq j i)).length) t.fuel && planS ops A lA t (listed.setIfInBounds i true)
  | .one i t, listed => decide (Region.ready .any ops listed = [i]) && planS ops A lA t (listed.setIfInBounds i true)
  | .alt i j t u, listed => decide (Region.ready .any ops listed = [i, j]) && Nat.beq t.fuel u.fuel && planS ops A lA t (listed.setIfInBounds i true) && planS ops A lA u (listed.setIfInBounds j true)
  | .alt3 i j k t u v, listed => decide (Region.ready .any ops listed = [i, j, k]) && Nat.beq t.fuel u.fuel && Nat.beq t.fuel v.fuel && planS ops A lA t (listed.setIfInBounds i true) && planS ops A lA u (listed.setIfInBounds j true) && planS ops A lA v (listed.setIfInBounds k true)
def planT (ops : Array Oper) : PT → Array Bool → Bool
  | .nil, listed => (Region.ready .any ops listed).isEmpty
  | .free i t, listed => (Region.ready .any ops listed).contains i && Region.free .any ops listed i && planT ops t (listed.setIfInBounds i true)
  | .one i t, listed => decide (Region.ready .any ops listed = [i]) && planT ops t (listed.setIfInBounds i true)
  | .alt i j t u, listed => decide (Region.ready .any ops listed = [i, j]) && Nat.beq t.fuel u.fuel && planT ops t (listed.setIfInBounds i true) && planT ops u (listed.setIfInBounds j true)
  | .alt3 i j k t u v, listed => decide (Region.ready .any ops listed = [i, j, k]) && Nat.beq t.fuel u.fuel && Nat.beq t.fuel v.fuel && planT ops t (listed.setIfInBounds i true) && planT ops u (listed.setIfInBounds j true) && planT ops v (listed.setIfInBounds k true)
def RT (P : Program) (r : Option Nat) (n : Nat) (l : List Oper) (t : PT) (Q : Post) (D : List Deferred) (L : Sl) (M0 M : Mem) (Hs Hx : Hp) : Prop :=
  ∀ (listed : Array Bool), Region.noSelect l.toArray = true → NoDefer l.toArray → NoPanic Q → planT l.toArray t listed = true → M0.le M → ∀ a, Fr n D L a → AnyH r P l.toArray M0 Hs Q t.fuel listed a M Hx
theorem C.regionT {id : Nat} {l : List Oper} (t : PT) (Hs Hx : Hp) (hm : P.follows .mixedOrders = true) (hH : Arr H (Hs ++ Hx)) (hQ : NoPanic Q) (hB : (Region.noSelect l.toArray && noDeferB l && planT l.toArray t (Array.replicate l.length false) && Nat.beq t.fuel l.length) = true)
    (h : RT P r n l t Q D L M M Hs Hx) : C P r n (.region id l.toArray true) Q D L M H := by
  intro a w hf hh
  simp only [Bool.and_eq_true] at hB
  obtain ⟨⟨⟨h1, h2⟩, h3⟩, h4⟩ := hB
  refine wpIn_region_any hm (AnyH.any (M0 := M) (Hs := Hs) _ _ _ M Hx _ ((hH.heap hh).drawn _) ?_)
  have := h (Array.replicate l.length false) h1 (NoDefer.of h2) hQ h3 (Mem.le_refl M) a hf
  rw [Nat.eq_of_beq_eq_true h4] at this
  simpa using this
section
variable {d : Option Tmp} {op : Op} {ty : TypeId} {pos : String} {af : Array Edge} {g : Option (Nat × Bool)} {v : Value} {l : List Oper} {t u : PT} {i j k : Nat} {M0 : Mem} {Hs Hx : Hp}
theorem RT.nil (h : Fin n .normal Q D L M (Hs ++ Hx)) : RT P r n l .nil Q D L M0 M Hs Hx :=
  fun _ _ _ _ hp hM a hf => ⟨hM, by simpa [planT] using hp, fun w hh => h a w hf hh⟩
theorem RT.weak (hs : sub L' L) (h : RT P r n l t Q D L' M0 M Hs Hx) : RT P r n l t Q D L M0 M Hs Hx :=
  fun listed h1 h2 h3 h4 h5 a hf => h listed h1 h2 h3 h4 h5 a (hf.weak hs)
theorem RT.step_ (hi : l[i]? = some ⟨d, op, ty, pos, af, g⟩) (hY : ∀ (a : Act), Fr n D L a → Yc P l.toArray M0 Hs ⟨d, op, ty, pos, af, g⟩ v a) (hd : dok n d = true)
    (k : RT P r n l t Q D (bnd d v L) M0 M Hs Hx) : RT P r n l (.free i t) Q D L M0 M Hs Hx := by
  intro listed hS hN hQ hp hM a hf
  have h0 : l.toArray[i]? = some ⟨d, op, ty, pos, af, g⟩ := by simpa using hi
  simp only [planT, Bool.and_eq_true] at hp
  obtain ⟨⟨p1, p2⟩, p3⟩ := hp
  exact AnyH.first h0 (Region.noSelect_spec hS) hN hQ t.fuel listed a M Hx (Region.free_spec h0 p2) (by simpa using p1) (hY a hf) (k _ hS hN hQ p3 hM _ (hf.put d hd v))
theorem RT.step (hi : l[i]? = some ⟨d, op, ty, pos, af, none⟩) (hok : ∀ M' Hx', M0.le M' → Ok P ⟨d, op, ty, pos, af, none⟩ L M' (Hs ++ Hx') v) (hd : dok n d = true)
    (k : RT P r n l t Q D (bnd d v L) M0 M Hs Hx) : RT P r n l (.free i t) Q D L M0 M Hs Hx :=
  RT.step_ hi (fun _ hf => .inl ⟨by simp [Region.wanted], fun M' Hx' w hM' hh' => (hok M' Hx' hM').qr hf hh'⟩) hd k
theorem RT.stepT {want : Bool} {dj : Tmp} (hi : l[i]? = some ⟨d, op, ty, pos, af, some (j, want)⟩) (hdj : (l.map (·.dst))[j]? = some (some dj)) (hb : lk L dj = some (.bool want)) (hlt : Nat.ble (dj + 1) n = true) (hok : ∀ M' Hx', M0.le M' → Ok P ⟨d, op, ty, pos, af, some (j, want)⟩ L M' (Hs ++ Hx') v) (hd : dok n d = true)
    (k : RT P r n l t Q D (bnd d v L) M0 M Hs Hx) : RT P r n l (.free i t) Q D L M0 M Hs Hx :=
  RT.step_ hi (fun _ hf => .inl ⟨by rw [wanted_guard hf (OpsOf.self l) hdj hb hlt]; simp, fun M' Hx' w hM' hh' => (hok M' Hx' hM').qr hf hh'⟩) hd k
theorem RT.stepF {want b : Bool} {dj : Tmp} (hi : l[i]? = some ⟨d, op, ty, pos, af, some (j, want)⟩) (hdj : (l.map (·.dst))[j]? = some (some dj)) (hb : lk L dj = some (.bool b)) (hlt : Nat.ble (dj + 1) n = true) (hne : (b == want) = false) (hd : dok n d = true)
    (k : RT P r n l t Q D (bnd d undef L) M0 M Hs Hx) : RT P r n l (.free i t) Q D L M0 M Hs Hx :=
  RT.step_ hi (fun _ hf => .inr ⟨by rw [wanted_guard hf (OpsOf.self l) hdj hb hlt]; exact hne, rfl⟩) hd k
theorem RT.stepU {want : Bool} {dj : Tmp} (hi : l[i]? = some ⟨d, op, ty, pos, af, some (j, want)⟩) (hdj : (l.map (·.dst))[j]? = some (some dj)) (hb : lk L dj = some undef) (hlt : Nat.ble (dj + 1) n = true) (hd : dok n d = true)
    (k : RT P r n l t Q D (bnd d undef L) M0 M Hs Hx) : RT P r n l (.free i t) Q D L M0 M Hs Hx :=
  RT.step_ hi (fun _ hf => .inr ⟨wanted_undef hf (OpsOf.self l) hdj hb hlt, rfl⟩) hd k
theorem RT.callQ {f : Nat} {xs : List Operand} {vs : List Value} {ts : Array TypeId} (hi : l[i]? = some ⟨d, .call ⟨.value (.func f), xs.toArray, ts⟩, ty, pos, af, none⟩) (he : Ent P f) (hx : Evs L xs vs) (hd : dok n d = true) (hK : ∀ M' Hx', M0.le M' → K P f vs M' (Hs ++ Hx') (fun u M2 H2 => u = v ∧ M2 = M' ∧ H2 = Hs ++ Hx'))
    (k : RT P r n l t Q D (bnd d v L) M0 M Hs Hx) : RT P r n l (.free i t) Q D L M0 M Hs Hx :=
  RT.step_ hi (fun a hf => .inl ⟨by simp [Region.wanted], fun M' Hx' w hM' hh' => by
    rw [callArgs_run hf hx]
    refine ⟨rfl, (hK M' Hx' hM' w hh').mono ?_⟩
    rintro e w' ⟨u, M2, H2, rfl, ⟨rfl, rfl, rfl⟩, hh2⟩
    exact ⟨rfl, hh2⟩⟩) hd k
def KT (P : Program) (r : Option Nat) (n : Nat) (l : List Oper) (t : PT) (Q : Post) (M0 : Mem) (Hs : Hp) (Kc : Act → World → Prop) : Prop :=
  ∀ D L' M1 M' E Hx', M0.le M1 → M1.le M' → RT P r n l t Q D L' M1 M' (Hs ++ E) Hx' → ∀ a w, Fr n D L' a → Heap w M' (Hs ++ (E ++ Hx')) → Kc a w
theorem Fin.kt {Kc : Act → World → Prop} (hk : KT P r n l t Q M0 Hs Kc) (hM : M0.le M) (ha : Arr H (Hs ++ Hx)) (h : RT P r n l t Q D L M0 M Hs Hx) : Fin n .normal (Exit.then Kc Q) D L M H :=
  fun a w hf hh => hk D L M0 M [] Hx (Mem.le_refl _) hM (by rw [List.append_nil]; exact h) a w hf (ha.heap hh)
def OneT (P : Program) (r : Option Nat) (n : Nat) (l : List Oper) (i : Nat) (t : PT) (Q : Post) (D : List Deferred) (L : Sl) (M0 M : Mem) (Hs Hx : Hp) : Prop :=
  ∀ (listed : Array Bool), Region.noSelect l.toArray = true → NoDefer l.toArray → NoPanic Q → planT l.toArray t (listed.setIfInBounds i true) = true → M0.le M → ∀ a, Fr n D L a → ∀ w, Heap w M (Hs ++ Hx) →
    wpOpIn (F0 r) 0 P l.toArray Q i (fun a' w' => ∃ M' Hx', Heap w' M' (Hs ++ Hx') ∧ AnyH r P l.toArray M0 Hs Q t.fuel (listed.setIfInBounds i true) a' M' Hx') a w
theorem OneT.eff_ (hi : l[i]? = some ⟨d, op, ty, pos, af, g⟩) (hw : ∀ (a : Act), Fr n D L a → Region.wanted ⟨d, op, ty, pos, af, g⟩ (yielded l.toArray a.tmps) = true)
    (h : ∀ Kc, KT P r n l t Q M0 Hs Kc → ∀ ops, R false P r n ops [⟨d, op, ty, pos, af, none⟩] (Exit.then Kc Q) D L M (Hs ++ Hx)) : OneT P r n l i t Q D L M0 M Hs Hx := by
  intro listed hS hN hQ hp hM a hf w hh
  have h0 : l.toArray[i]? = some ⟨d, op, ty, pos, af, g⟩ := by simpa using hi
  have hk : KT P r n l t Q M0 Hs (fun a' w' => ∃ M' Hx', Heap w' M' (Hs ++ Hx') ∧ AnyH r P l.toArray M0 Hs Q t.fuel (listed.setIfInBounds i true) a' M' Hx') := by
    intro D' L' M1 M' E Hx' h1 hM' hRT a' w' hf' hh'
    exact ⟨M', E ++ Hx', hh', AnyH.base h1 _ _ _ _ _ (hRT _ hS hN hQ hp hM' a' hf')⟩
  have h1 := h _ hk #[] a w hf hh
  unfold wpListIn at h1
  rw [if_pos (by simp [Region.wanted])] at h1
  unfold wpOpIn
  simp only [h0]
  rw [hw a hf, if_pos rfl]
  exact (wpIn_post (fun _ _ _ h => h) (fun _ _ h => h) h1 : (⟨d, op, ty, pos, af, none⟩ : Oper).wpIn (F0 r) 0 P a w _ Q)
theorem OneT.eff (hi : l[i]? = some ⟨d, op, ty, pos, af, none⟩) (h : ∀ Kc, KT P r n l t Q M0 Hs Kc → ∀ ops, R false P r n ops [⟨d, op, ty, pos, af, none⟩] (Exit.then Kc Q) D L M (Hs ++ Hx)) : OneT P r n l i t Q D L M0 M Hs Hx :=
  OneT.eff_ hi (fun _ _ => by simp [Region.wanted]) h
theorem OneT.effF {want b : Bool} {dj : Tmp} (hi : l[i]? = some ⟨d, op, ty, pos, af, some (j, want)⟩) (hdj : (l.map (·.dst))[j]? = some (some dj)) (hb : lk L dj = some (.bool b)) (hlt : Nat.ble (dj + 1) n = true) (hne : (b == want) = false) (hd : dok n d = true)
    (k : RT P r n l t Q D (bnd d undef L) M0 M Hs Hx) : OneT P r n l i t Q D L M0 M Hs Hx := by
  intro listed hS hN hQ hp hM a hf w hh
  have h0 : l.toArray[i]? = some ⟨d, op, ty, pos, af, some (j, want)⟩ := by simpa using hi
  unfold wpOpIn
  simp only [h0]
  rw [wanted_guard hf (OpsOf.self l) hdj hb hlt, hne]
  simp only [Bool.false_eq_true, if_false]
  exact ⟨fun f _ => F0_fn _ f, M, Hx, hh, k _ hS hN hQ hp hM _ (hf.put d hd undef)⟩
theorem OneT.effU {want : Bool} {dj : Tmp} (hi : l[i]? = some ⟨d, op, ty, pos, af, some (j, want)⟩) (hdj : (l.map (·.dst))[j]? = some (some dj)) (hb : lk L dj = some undef) (hlt : Nat.ble (dj + 1) n = true) (hd : dok n d = true)
    (k : RT P r n l t Q D (bnd d undef L) M0 M Hs Hx) : OneT P r n l i t Q D L M0 M Hs Hx := by
  intro listed hS hN hQ hp hM a hf w hh
  have h0 : l.toArray[i]? = some ⟨d, op, ty, pos, af, some (j, want)⟩ := by simpa using hi
  unfold wpOpIn
  simp only [h0]
  rw [wanted_undef hf (OpsOf.self l) hdj hb hlt]
  simp only [Bool.false_eq_true, if_false]
  exact ⟨fun f _ => F0_fn _ f, M, Hx, hh, k _ hS hN hQ hp hM _ (hf.put d hd undef)⟩
theorem RT.one (h : OneT P r n l i t Q D L M0 M Hs Hx) : RT P r n l (.one i t) Q D L M0 M Hs Hx := by
  intro listed hS hN hQ hp hM a hf
  simp only [planT, Bool.and_eq_true, decide_eq_true_eq] at hp
  obtain ⟨p2, p3⟩ := hp
  refine ⟨hM, fun e => (by rw [p2] at e; cases e), fun q hq w hh => ?_⟩
  rw [p2, List.mem_singleton] at hq
  subst hq
  exact h listed hS hN hQ p3 hM a hf w hh
theorem RT.alt (h1 : OneT P r n l i t Q D L M0 M Hs Hx) (h2 : OneT P r n l j u Q D L M0 M Hs Hx) : RT P r n l (.alt i j t u) Q D L M0 M Hs Hx := by
  intro listed hS hN hQ hp hM a hf
  simp only [planT, Bool.and_eq_true, decide_eq_true_eq] at hp
  obtain ⟨⟨⟨p1, p2⟩, p3⟩, p4⟩ := hp
  have p2 := Nat.eq_of_beq_eq_true p2
  refine ⟨hM, fun e => (by rw [p1] at e; cases e), fun q hq w hh => ?_⟩
  rw [p1, List.mem_cons, List.mem_singleton] at hq
  rcases hq with rfl | rfl
  · exact h1 listed hS hN hQ p3 hM a hf w hh
  · rw [p2]
    exact h2 listed hS hN hQ p4 hM a hf w hh
theorem RT.alt3 {v : PT} (h1 : OneT P r n l i t Q D L M0 M Hs Hx) (h2 : OneT P r n l j u Q D L M0 M Hs Hx) (h3 : OneT P r n l k v Q D L M0 M Hs Hx) : RT P r n l (.alt3 i j k t u v) Q D L M0 M Hs Hx := by
  intro listed hS hN hQ hp hM a hf
  simp only [planT, Bool.and_eq_true, decide_eq_true_eq] at hp
  obtain ⟨⟨⟨⟨⟨p1, p2⟩, p2'⟩, p3⟩, p4⟩, p5⟩ := hp
  have p2 := Nat.eq_of_beq_eq_true p2
  have p2' := Nat.eq_of_beq_eq_true p2'
  refine ⟨hM, fun e => (by rw [p1] at e; cases e), fun q hq w hh => ?_⟩
  rw [p1, List.mem_cons, List.mem_cons, List.mem_singleton] at hq
  rcases hq with rfl | rfl | rfl
  · exact h1 listed hS hN hQ p3 hM a hf w hh
  · rw [p2]
    exact h2 listed hS hN hQ p4 hM a hf w hh
  · rw [p2']
    exact h3 listed hS hN hQ p5 hM a hf w hh
end
def EndS (n : Nat) (D : List Deferred) (k : Sl → Mem → Hp → Prop) (M0 : Mem) (lA : Array Bool) (l : Array Bool) (a : Act) (w : World) : Prop := l = lA ∧ ∃ L' M' H', k L' M' H' ∧ M0.le M' ∧ Fr n D L' a ∧ Heap w M' H'
def RS (P : Program) (r : Option Nat) (n : Nat) (l : List Oper) (t : PT) (Q : Post) (D : List Deferred) (k : Sl → Mem → Hp → Prop) (L : Sl) (M0 M : Mem) (Hs Hx : Hp) : Prop :=
  ∀ (listed : Array Bool) (A : List Nat) (lF lA : Array Bool), Region.noSelect l.toArray = true → NoDefer l.toArray → NoPanic Q → Barrier l.toArray A lF → (∀ j, listed.getD j true = false → lF.getD j true = false) → planS l.toArray A lA t listed = true → M0.le M →
    ∀ a, Fr n D L a → AnyZ r P l.toArray M0 Hs Q (EndS n D k M0 lA) t.fuel listed a M Hx
section
variable {d : Option Tmp} {op : Op} {ty : TypeId} {pos : String} {af : Array Edge} {g : Option (Nat × Bool)} {v : Value} {l : List Oper} {t u : PT} {i j q : Nat} {M0 : Mem} {Hs Hx : Hp} {k : Sl → Mem → Hp → Prop}
theorem RS.nil (h : k L M (Hs ++ Hx)) : RS P r n l .nil Q D k L M0 M Hs Hx := by
  intro listed A lF lA _ _ _ _ _ hp hM a hf
  exact ⟨hM, fun w hh => ⟨by simpa [planS] using hp, _, _, _, h, hM, hf, hh⟩⟩
def OneS (P : Program) (r : Option Nat) (n : Nat) (l : List Oper) (i : Nat) (t : PT) (Q : Post) (D : List Deferred) (k : Sl → Mem → Hp → Prop) (L : Sl) (M0 M : Mem) (Hs Hx : Hp) : Prop :=
  ∀ (listed : Array Bool) (A : List Nat) (lF lA : Array Bool), Region.noSelect l.toArray = true → NoDefer l.toArray → NoPanic Q → Barrier l.toArray A lF → (∀ j, listed.getD j true = false → lF.getD j true = false) → planS l.toArray A lA t (listed.setIfInBounds i true) = true → M0.le M → ∀ a, Fr n D L a → ∀ w, Heap w M (Hs ++ Hx) →
    wpOpIn (F0 r) 0 P l.toArray Q i (fun a' w' => ∃ M' Hx', Heap w' M' (Hs ++ Hx') ∧ AnyZ r P l.toArray M0 Hs Q (EndS n D k M0 lA) t.fuel (listed.setIfInBounds i true) a' M' Hx') a w
theorem RS.one (h : OneS P r n l i t Q D k L M0 M Hs Hx) : RS P r n l (.one i t) Q D k L M0 M Hs Hx := by
  intro listed A lF lA hS hN hQ hb hsub hp hM a hf
  simp only [planS, Bool.and_eq_true, decide_eq_true_eq] at hp
  obtain ⟨p2, p3⟩ := hp
  refine ⟨hM, fun e => (by rw [p2] at e; cases e), fun q hq w hh => ?_⟩
  rw [p2, List.mem_singleton] at hq
  subst hq
  exact h listed A lF lA hS hN hQ hb hsub p3 hM a hf w hh
theorem RS.alt (h1 : OneS P r n l i t Q D k L M0 M Hs Hx) (h2 : OneS P r n l j u Q D k L M0 M Hs Hx) : RS P r n l (.alt i j t u) Q D k L M0 M Hs Hx := by
  intro listed A lF lA hS hN hQ hb hsub hp hM a hf
  simp only [planS, Bool.and_eq_true, decide_eq_true_eq] at hp
  obtain ⟨⟨⟨p1, p2⟩, p3⟩, p4⟩ := hp
  have p2 := Nat.eq_of_beq_eq_true p2
  refine ⟨hM, fun e => (by rw [p1] at e; cases e), fun q hq w hh => ?_⟩
  rw [p1, List.mem_cons, List.mem_singleton] at hq
  rcases hq with rfl | rfl
  · exact h1 listed A lF lA hS hN hQ hb hsub p3 hM a hf w hh
  · rw [p2]
    exact h2 listed A lF lA hS hN hQ hb hsub p4 hM a hf w hh
theorem RS.alt3 {v : PT} (h1 : OneS P r n l i t Q D k L M0 M Hs Hx) (h2 : OneS P r n l j u Q D k L M0 M Hs Hx) (h3 : OneS P r n l q v Q D k L M0 M Hs Hx) : RS P r n l (.alt3 i j q t u v) Q D k L M0 M Hs Hx := by
  intro listed A lF lA hS hN hQ hb hsub hp hM a hf
  simp only [planS, Bool.and_eq_true, decide_eq_true_eq] at hp
  obtain ⟨⟨⟨⟨⟨p1, p2⟩, p2'⟩, p3⟩, p4⟩, p5⟩ := hp
  have p2 := Nat.eq_of_beq_eq_true p2
  have p2' := Nat.eq_of_beq_eq_true p2'
  refine ⟨hM, fun e => (by rw [p1] at e; cases e), fun q hq w hh => ?_⟩
  rw [p1, List.mem_cons, List.mem_cons, List.mem_singleton] at hq
  rcases hq with rfl | rfl | rfl
  · exact h1 listed A lF lA hS hN hQ hb hsub p3 hM a hf w hh
  · rw [p2]
    exact h2 listed A lF lA hS hN hQ hb hsub p4 hM a hf w hh
  · rw [p2']
    exact h3 listed A lF lA hS hN hQ hb hsub p5 hM a hf w hh
end
end Go.Sx
end
section
namespace Go.Sx
open Go Go.Proofs Go.RowKit
attribute [local irreducible] C R Fin K Own OwnT Rd Pl Ok KOf RetOk OpsOf RP KP Res NoPanic KV KE MapS ItS EntS FsO FsR RowD PlD DkO
def hdC (h : Hd) : List Value := hrdC h.1 h.2
def rngH (h : Hd) : Prop := h.1 ≤ 18446744073709551615 ∧ -9223372036854775808 ≤ h.2 ∧ h.2 ≤ 9223372036854775807
section
variable {H : Type} {enc : TypeId × Value → H} {W : World} {m : Nat} {cs : List Value} {z : DataW H × List MemPlace}
theorem rd_hd (h : Trd enc Try.prog W m 44 cs z) (hw : Wgt Try.prog 44 z.1) : ∃ x : Hd, cs = hdC x ∧ rngH x := by
  obtain ⟨hl, k, hf⟩ := rd_fields Try.underlying44 h hw
  rw [show Try.prog.cellsOf 44 = 2 by kernel_rfl] at hl
  obtain ⟨y0, h0, _⟩ := hf 0 42 0 1 rfl (by kernel_rfl)
  obtain ⟨y1, h1, _⟩ := hf 1 3 1 1 rfl (by kernel_rfl)
  obtain ⟨a0, e0, w0⟩ := rd_int h0
  obtain ⟨a1, e1, w1⟩ := rd_int h1
  match cs, hl with
  | [x0, x1], _ =>
    cases e0; cases e1
    obtain ⟨b0, b1⟩ := u64_bd w0
    refine ⟨(a0.toNat, a1), ?_, by show a0.toNat ≤ _; omega, i64_bd w1⟩
    show [Value.int .u64 a0, .int .i64 a1] = [.int .u64 ((a0.toNat : Nat) : Int), .int .i64 a1]
    rw [Int.toNat_of_nonneg b0]
theorem rd_hds : ∀ (css : List (List Value)), (∀ c ∈ css, c.length = 2 ∧ ∃ m y, Trd enc Try.prog W m 44 c y ∧ Wgt Try.prog 44 y.1) → ∃ xs : List Hd, css = xs.map hdC ∧ ∀ x ∈ xs, rngH x
  | [], _ => ⟨[], rfl, fun _ h => absurd h List.not_mem_nil⟩
  | c :: css, h => by
    obtain ⟨xs, h1, h2⟩ := rd_hds css (fun c hc => h c (List.mem_cons_of_mem _ hc))
    obtain ⟨_, m, y, h5, h6⟩ := h c (List.mem_cons_self ..)
    obtain ⟨x, rfl, h7⟩ := rd_hd h5 h6
    refine ⟨x :: xs, by rw [h1]; rfl, fun a ha => ?_⟩
    rcases List.mem_cons.1 ha with rfl | ha
    · exact h7
    · exact h2 a ha
end
variable {M M' : Mem} {H H1 H2 : Hp}
theorem hd_at {A : Option Addr} {xs : List Hd} {k : Nat} (hp : Pl M A (xs.map hdC).flatten) (hk : k < xs.length) :
    ∃ b o c e fr, A = some ⟨b, o, none⟩ ∧ M.at_ b = some (.cells c e fr) ∧ c[o + k * 2 + 0]? = some (.int .u64 (xs[k].1 : Int)) ∧ c[o + k * 2 + 1]? = some (.int .i64 xs[k].2) := by
  have hc : ∀ c ∈ xs.map hdC, c.length = 2 := by intro c hc; obtain ⟨x, _, rfl⟩ := List.mem_map.1 hc; rfl
  have hkm : k < (xs.map hdC).length := by rw [List.length_map]; exact hk
  have hfl : ∀ (q : Nat) u, (hdC xs[k])[q]? = some u → (xs.map hdC).flatten[k * 2 + q]? = some u := fun q u hq => rows_get hc hkm (by rw [List.getElem_map]; exact hq)
  obtain ⟨b, o, c, e, fr, g1, g2, g3⟩ := hp.get (hfl 0 _ rfl)
  obtain ⟨b', o', c', e', fr', g1', g2', g3'⟩ := hp.get (hfl 1 _ rfl)
  rw [g1] at g1'
  cases g1'
  rw [g2] at g2'
  cases g2'
  exact ⟨b, o, c, e, fr, g1, g2, by rw [show o + k * 2 + 0 = o + (k * 2 + 0) by omega]; exact g3, by rw [show o + k * 2 + 1 = o + (k * 2 + 1) by omega]; exact g3'⟩
def shapeH (near : Bool) (h : Hd) : Hd := if near then (h.1 % 400, h.2 % 8) else h
theorem shaped_K {w a b c : Int} {h : Hd} {near : Bool} : K Try.prog 27 [.agg [.int .i64 w, .int .u64 (h.1 : Int), .int .i64 h.2, .bool near, .int .i64 a, .int .i64 b, .int .i64 c].toArray] M H fun v' M' H' => v' = .agg (hrdC (shapeH near h).1 (shapeH near h).2).toArray ∧ M' = M ∧ H' = H := by
  refine K.enterM Try.func27 rfl rfl rfl ?_
  intro Q hNP hQ
  obtain ⟨t, v⟩ := h
  dsimp only
  cases near with
  | false =>
    (repeat' (first | (apply R.step; (exact a_ok); exact rfl) | (first | (with_reducible first | apply R.nil | apply C.ret | apply C.block | apply C.skip | apply C.exit | apply Fin.thenRet | apply Fin.thenExit | apply Fin.blockNormal | apply Fin.blockRet | apply Fin.blockExit) | (with_reducible apply Fin.thenK; assumption) | (with_reducible apply C.seqK; intro _ _) | (with_reducible apply C.regionK; intro _ _) | (with_reducible apply Fin.blockOther; exact rfl)) | (first | (apply R.store; exact rfl; exact rfl; exact rfl; (exact a_at); (exact a_blit); exact rfl; (focus (simp [Value.oneCell']; done))) | (apply R.buildSlice0; exact rfl; intro bz) | (apply R.box; exact rfl; (simp only [Value.cells]; rfl); exact rfl; intro bx) | (apply R.alloc; (simp only [Value.cells]; rfl); exact rfl; intro ba) | (apply R.buildSlice; (exact a_prt); exact rfl; exact rfl; (exact a_fills); exact rfl; intro bl)) | (first | (apply R.guardT; assumption; exact rfl; exact rfl; exact rfl) | (apply R.guardF; assumption; exact rfl; exact rfl; exact rfl; exact rfl; exact rfl) | (apply R.guardU; assumption; exact rfl; exact rfl; exact rfl; exact rfl) | (apply R.guardDec; assumption; exact rfl; exact rfl; (intro h; skip; rotate_left; intro h; skip; rotate_left)) | (apply R.guardBeq; assumption; exact rfl; exact rfl; (intro h; skip; rotate_left; intro h; skip; rotate_left)) | (apply R.guardBne; assumption; exact rfl; exact rfl; (intro h; skip; rotate_left; intro h; skip; rotate_left)) | (apply R.guardNDec; assumption; exact rfl; exact rfl; (intro h; skip; rotate_left; intro h; skip; rotate_left)) | (apply R.guardNot; assumption; exact rfl; exact rfl; (intro h; skip; rotate_left; intro h; skip; rotate_left)) | (apply R.guardC; assumption; exact rfl; exact rfl; (intro h; skip; rotate_left; intro h; skip; rotate_left))) | (first | (apply C.condT; exact rfl) | (apply C.condF; exact rfl) | (apply C.condDec; exact rfl; (intro h; skip; rotate_left; intro h; skip; rotate_left)) | (apply C.condBeq; exact rfl; (intro h; skip; rotate_left; intro h; skip; rotate_left)) | (apply C.condBne; exact rfl; (intro h; skip; rotate_left; intro h; skip; rotate_left)) | (apply C.condNDec; exact rfl; (intro h; skip; rotate_left; intro h; skip; rotate_left)) | (apply C.condNot; exact rfl; (intro h; skip; rotate_left; intro h; skip; rotate_left)) | (apply C.cond; exact rfl; (intro h; skip; rotate_left; intro h; skip; rotate_left)))))
    (apply Fin.returnM (H2 := H); assumption; exact .inl rfl; exact rfl; exact Marks.nil _; (exact a_res); (simp only [retv]; rfl); (exact a_arr))
    exact ⟨rfl, rfl, rfl⟩
  | true =>
    have ht : (t : Int) % 400 = ((t % 400 : Nat) : Int) := by omega
    (repeat' (first | (apply R.step; (exact a_ok); exact rfl) | (first | (with_reducible first | apply R.nil | apply C.ret | apply C.block | apply C.skip | apply C.exit | apply Fin.thenRet | apply Fin.thenExit | apply Fin.blockNormal | apply Fin.blockRet | apply Fin.blockExit) | (with_reducible apply Fin.thenK; assumption) | (with_reducible apply C.seqK; intro _ _) | (with_reducible apply C.regionK; intro _ _) | (with_reducible apply Fin.blockOther; exact rfl)) | (first | (apply R.store; exact rfl; exact rfl; exact rfl; (exact a_at); (exact a_blit); exact rfl; (focus (simp [Value.oneCell']; done))) | (apply R.buildSlice0; exact rfl; intro bz) | (apply R.box; exact rfl; (simp only [Value.cells]; rfl); exact rfl; intro bx) | (apply R.alloc; (simp only [Value.cells]; rfl); exact rfl; intro ba) | (apply R.buildSlice; (exact a_prt); exact rfl; exact rfl; (exact a_fills); exact rfl; intro bl)) | (first | (apply R.guardT; assumption; exact rfl; exact rfl; exact rfl) | (apply R.guardF; assumption; exact rfl; exact rfl; exact rfl; exact rfl; exact rfl) | (apply R.guardU; assumption; exact rfl; exact rfl; exact rfl; exact rfl) | (apply R.guardDec; assumption; exact rfl; exact rfl; (intro h; skip; rotate_left; intro h; skip; rotate_left)) | (apply R.guardBeq; assumption; exact rfl; exact rfl; (intro h; skip; rotate_left; intro h; skip; rotate_left)) | (apply R.guardBne; assumption; exact rfl; exact rfl; (intro h; skip; rotate_left; intro h; skip; rotate_left)) | (apply R.guardNDec; assumption; exact rfl; exact rfl; (intro h; skip; rotate_left; intro h; skip; rotate_left)) | (apply R.guardNot; assumption; exact rfl; exact rfl; (intro h; skip; rotate_left; intro h; skip; rotate_left)) | (apply R.guardC; assumption; exact rfl; exact rfl; (intro h; skip; rotate_left; intro h; skip; rotate_left))) | (first | (apply C.condT; exact rfl) | (apply C.condF; exact rfl) | (apply C.condDec; exact rfl; (intro h; skip; rotate_left; intro h; skip; rotate_left)) | (apply C.condBeq; exact rfl; (intro h; skip; rotate_left; intro h; skip; rotate_left)) | (apply C.condBne; exact rfl; (intro h; skip; rotate_left; intro h; skip; rotate_left)) | (apply C.condNDec; exact rfl; (intro h; skip; rotate_left; intro h; skip; rotate_left)) | (apply C.condNot; exact rfl; (intro h; skip; rotate_left; intro h; skip; rotate_left)) | (apply C.cond; exact rfl; (intro h; skip; rotate_left; intro h; skip; rotate_left)))))
    (apply C.regionT (t := .free 0 (.free 1 (.free 2 (.free 3 (.free 4 (.free 5 (.free 6 (.free 7 (.free 8 (.one 9 .nil)))))))))) (Hs := [(bx, .cells #[.int .i64 w, .int .u64 ↑t, .int .i64 v, .bool true, .int .i64 a, .int .i64 b, .int .i64 c] 54 (0, 0))]); exact Mix.h; (first | exact Arr.all _ | (exact a_arr)); (exact a_np); kernel_rfl)
    (repeat' (first | (apply RT.step; exact rfl; intro _ _ _; (apply Ok.move; exact rfl); exact rfl) | (apply RT.callQ; exact rfl; exact inferInstance; (exact a_evs); exact rfl; (intro M' Hx' _; exact pick_K v 8 (by decide) (by decide))) | (first | (apply RT.step; exact rfl; intro _ _ _; (exact a_ok); exact rfl) | (apply RT.stepT; exact rfl; exact rfl; exact rfl; exact rfl; intro _ _ _; (exact a_ok); exact rfl) | (apply RT.stepF; exact rfl; exact rfl; exact rfl; exact rfl; exact rfl; exact rfl) | (apply RT.stepU; exact rfl; exact rfl; exact rfl; exact rfl; exact rfl) | (apply RT.one; apply OneT.effF; exact rfl; exact rfl; exact rfl; exact rfl; exact rfl; exact rfl) | (apply RT.one; apply OneT.effU; exact rfl; exact rfl; exact rfl; exact rfl; exact rfl))))
    (apply RT.one; apply OneT.eff; exact rfl; intro Kc hKc ops0)
    (repeat' (first | (apply R.step; (exact a_ok); exact rfl) | (first | (with_reducible first | apply R.nil | apply C.ret | apply C.block | apply C.skip | apply C.exit | apply Fin.thenRet | apply Fin.thenExit | apply Fin.blockNormal | apply Fin.blockRet | apply Fin.blockExit) | (with_reducible apply Fin.thenK; assumption) | (with_reducible apply C.seqK; intro _ _) | (with_reducible apply C.regionK; intro _ _) | (with_reducible apply Fin.blockOther; exact rfl)) | (first | (apply R.store; exact rfl; exact rfl; exact rfl; (exact a_at); (exact a_blit); exact rfl; (focus (simp [Value.oneCell']; done))) | (apply R.buildSlice0; exact rfl; intro bz) | (apply R.box; exact rfl; (simp only [Value.cells]; rfl); exact rfl; intro bx) | (apply R.alloc; (simp only [Value.cells]; rfl); exact rfl; intro ba) | (apply R.buildSlice; (exact a_prt); exact rfl; exact rfl; (exact a_fills); exact rfl; intro bl)) | (first | (apply R.guardT; assumption; exact rfl; exact rfl; exact rfl) | (apply R.guardF; assumption; exact rfl; exact rfl; exact rfl; exact rfl; exact rfl) | (apply R.guardU; assumption; exact rfl; exact rfl; exact rfl; exact rfl) | (apply R.guardDec; assumption; exact rfl; exact rfl; (intro h; skip; rotate_left; intro h; skip; rotate_left)) | (apply R.guardBeq; assumption; exact rfl; exact rfl; (intro h; skip; rotate_left; intro h; skip; rotate_left)) | (apply R.guardBne; assumption; exact rfl; exact rfl; (intro h; skip; rotate_left; intro h; skip; rotate_left)) | (apply R.guardNDec; assumption; exact rfl; exact rfl; (intro h; skip; rotate_left; intro h; skip; rotate_left)) | (apply R.guardNot; assumption; exact rfl; exact rfl; (intro h; skip; rotate_left; intro h; skip; rotate_left)) | (apply R.guardC; assumption; exact rfl; exact rfl; (intro h; skip; rotate_left; intro h; skip; rotate_left))) | (first | (apply C.condT; exact rfl) | (apply C.condF; exact rfl) | (apply C.condDec; exact rfl; (intro h; skip; rotate_left; intro h; skip; rotate_left)) | (apply C.condBeq; exact rfl; (intro h; skip; rotate_left; intro h; skip; rotate_left)) | (apply C.condBne; exact rfl; (intro h; skip; rotate_left; intro h; skip; rotate_left)) | (apply C.condNDec; exact rfl; (intro h; skip; rotate_left; intro h; skip; rotate_left)) | (apply C.condNot; exact rfl; (intro h; skip; rotate_left; intro h; skip; rotate_left)) | (apply C.cond; exact rfl; (intro h; skip; rotate_left; intro h; skip; rotate_left)))))
    ((first | apply R.nil | skip); apply Fin.kt hKc; exact Mem.le_refl _; ((try simp only [List.append_assoc, List.cons_append, List.nil_append, List.append_nil]); exact a_arr))
    apply RT.nil
    (repeat' (first | (apply R.step; (exact a_ok); exact rfl) | (first | (with_reducible first | apply R.nil | apply C.ret | apply C.block | apply C.skip | apply C.exit | apply Fin.thenRet | apply Fin.thenExit | apply Fin.blockNormal | apply Fin.blockRet | apply Fin.blockExit) | (with_reducible apply Fin.thenK; assumption) | (with_reducible apply C.seqK; intro _ _) | (with_reducible apply C.regionK; intro _ _) | (with_reducible apply Fin.blockOther; exact rfl)) | (first | (apply R.store; exact rfl; exact rfl; exact rfl; (exact a_at); (exact a_blit); exact rfl; (focus (simp [Value.oneCell']; done))) | (apply R.buildSlice0; exact rfl; intro bz) | (apply R.box; exact rfl; (simp only [Value.cells]; rfl); exact rfl; intro bx) | (apply R.alloc; (simp only [Value.cells]; rfl); exact rfl; intro ba) | (apply R.buildSlice; (exact a_prt); exact rfl; exact rfl; (exact a_fills); exact rfl; intro bl)) | (first | (apply R.guardT; assumption; exact rfl; exact rfl; exact rfl) | (apply R.guardF; assumption; exact rfl; exact rfl; exact rfl; exact rfl; exact rfl) | (apply R.guardU; assumption; exact rfl; exact rfl; exact rfl; exact rfl) | (apply R.guardDec; assumption; exact rfl; exact rfl; (intro h; skip; rotate_left; intro h; skip; rotate_left)) | (apply R.guardBeq; assumption; exact rfl; exact rfl; (intro h; skip; rotate_left; intro h; skip; rotate_left)) | (apply R.guardBne; assumption; exact rfl; exact rfl; (intro h; skip; rotate_left; intro h; skip; rotate_left)) | (apply R.guardNDec; assumption; exact rfl; exact rfl; (intro h; skip; rotate_left; intro h; skip; rotate_left)) | (apply R.guardNot; assumption; exact rfl; exact rfl; (intro h; skip; rotate_left; intro h; skip; rotate_left)) | (apply R.guardC; assumption; exact rfl; exact rfl; (intro h; skip; rotate_left; intro h; skip; rotate_left))) | (first | (apply C.condT; exact rfl) | (apply C.condF; exact rfl) | (apply C.condDec; exact rfl; (intro h; skip; rotate_left; intro h; skip; rotate_left)) | (apply C.condBeq; exact rfl; (intro h; skip; rotate_left; intro h; skip; rotate_left)) | (apply C.condBne; exact rfl; (intro h; skip; rotate_left; intro h; skip; rotate_left)) | (apply C.condNDec; exact rfl; (intro h; skip; rotate_left; intro h; skip; rotate_left)) | (apply C.condNot; exact rfl; (intro h; skip; rotate_left; intro h; skip; rotate_left)) | (apply C.cond; exact rfl; (intro h; skip; rotate_left; intro h; skip; rotate_left)))))
    (apply Fin.returnM (H2 := H); assumption; exact .inl rfl; exact rfl; exact Marks.nil _; (exact a_res); (simp only [retv]; rfl); (exact a_arr))
    refine ⟨?_, rfl, rfl⟩
    rw [ht]
    rfl
end Go.Sx
end
