/- The reference's tables: Drop. -/
import Derived.Test.YtihcoebiglmbmaaT11d
namespace Go.Sx
open Go.Proofs Go.RowKit
attribute [local irreducible] C R Fin K Own OwnT Rd Pl Ok KOf RetOk OpsOf RP KP Res NoPanic KV KE
variable {M M' : Mem} {H H1 : Hp}
theorem rdrop_w {rb : Nat} {most : Int} {l : List (Int × (Int × Int))} {hp : Hp} {k : Int} (ht : RTab 91 39 140 2 uV wiC rb most l hp) : K Try.prog 84 [.pointer (some ⟨rb, 0, none⟩), uV k] M (hp ++ H) fun v' M' H' => v' = .bool (decide (k ∈ keysT l)) ∧ ∃ hp', RTab 91 39 140 2 uV wiC rb most (dropT l k) hp' ∧ M' = M ∧ H' = hp' ++ H := by
  have ht0 := ht
  obtain ⟨hs, hl, hm, v1, v2, h1, h2, o1, o2, rfl⟩ := ht
  have hkl := keysT_length l
  have o1' := o1
  rw [← hkl] at o1'
  have hpl := posS_le (keysT l) k
  have hsort := drop_sort (k := k) hs
  rw [List.cons_append, List.append_assoc]
  refine K.enterK Try.func84 rfl rfl rfl ?_
  intro Q hNP hQ
  (repeat' (first | (apply R.step; (exact a_ok); exact rfl) | (first | (with_reducible first | apply R.nil | apply C.ret | apply C.block | apply C.skip | apply C.exit | apply Fin.thenRet | apply Fin.thenExit | apply Fin.blockNormal | apply Fin.blockRet | apply Fin.blockExit) | (with_reducible apply Fin.thenK; assumption) | (with_reducible apply C.seqK; intro _ _) | (with_reducible apply C.regionK; intro _ _) | (with_reducible apply Fin.blockOther; exact rfl)) | (first | (apply R.store; exact rfl; exact rfl; exact rfl; (exact a_at); (exact a_blit); exact rfl; (focus (simp [Value.oneCell']; done))) | (apply R.buildSlice0; exact rfl; intro bz) | (apply R.box; exact rfl; (simp only [Value.cells]; rfl); exact rfl; intro bx) | (apply R.alloc; (simp only [Value.cells]; rfl); exact rfl; intro ba) | (apply R.buildSlice; (exact a_prt); exact rfl; exact rfl; (exact a_fills); exact rfl; intro bl)) | (first | (apply R.guardT; assumption; exact rfl; exact rfl; exact rfl) | (apply R.guardF; assumption; exact rfl; exact rfl; exact rfl; exact rfl; exact rfl) | (apply R.guardU; assumption; exact rfl; exact rfl; exact rfl; exact rfl) | (apply R.guardDec; assumption; exact rfl; exact rfl; (intro h; skip; rotate_left; intro h; skip; rotate_left)) | (apply R.guardBeq; assumption; exact rfl; exact rfl; (intro h; skip; rotate_left; intro h; skip; rotate_left)) | (apply R.guardBne; assumption; exact rfl; exact rfl; (intro h; skip; rotate_left; intro h; skip; rotate_left)) | (apply R.guardNDec; assumption; exact rfl; exact rfl; (intro h; skip; rotate_left; intro h; skip; rotate_left)) | (apply R.guardNot; assumption; exact rfl; exact rfl; (intro h; skip; rotate_left; intro h; skip; rotate_left)) | (apply R.guardC; assumption; exact rfl; exact rfl; (intro h; skip; rotate_left; intro h; skip; rotate_left))) | (first | (apply C.condT; exact rfl) | (apply C.condF; exact rfl) | (apply C.condDec; exact rfl; (intro h; skip; rotate_left; intro h; skip; rotate_left)) | (apply C.condBeq; exact rfl; (intro h; skip; rotate_left; intro h; skip; rotate_left)) | (apply C.condBne; exact rfl; (intro h; skip; rotate_left; intro h; skip; rotate_left)) | (apply C.condNDec; exact rfl; (intro h; skip; rotate_left; intro h; skip; rotate_left)) | (apply C.condNot; exact rfl; (intro h; skip; rotate_left; intro h; skip; rotate_left)) | (apply C.cond; exact rfl; (intro h; skip; rotate_left; intro h; skip; rotate_left))) | (apply R.call; (exact a_evs); exact rfl; (first | exact rplaceL_w o1' hs (by omega) a_ln); rintro _ _ _ ⟨rfl, e1_, e2_⟩; replace e1_ := e1_.symm; subst e1_; replace e2_ := e2_.symm; subst e2_)))
  · have hk : k ∈ keysT l := by assumption
    obtain ⟨hi, hik⟩ := posS_in hs hk
    obtain ⟨A1, c1, rfl, _, _⟩ := o1.form
    obtain ⟨A2, c2, rfl, _, _⟩ := o2.form
    unfold dropT at hsort
    rw [if_pos hk] at hsort
    generalize hij : posS (keysT l) k = i at *
    have hil : i < l.length := by omega
    have l1 : (((keysT l).map uV).take (i * 1)).length = i * 1 := by rw [List.length_take, List.length_map]; omega
    have l2 : (((keysT l).map uV).drop ((i + 1) * 1)).length = (l.length - (i + 1)) * 1 := by rw [List.length_drop, List.length_map]; omega
    have l3 : ((flat wiC l).take (i * 2)).length = i * 2 := by rw [List.length_take, flat_length (cs := wiC) (W := 2) (fun _ => rfl)]; omega
    have l4 : ((flat wiC l).drop ((i + 1) * 2)).length = (l.length - (i + 1)) * 2 := by rw [List.length_drop, flat_length (cs := wiC) (W := 2) (fun _ => rfl), Nat.sub_mul]
    have w1 : ∀ u ∈ (keysT l).map uV, u.oneCell' = true := by intro u hu; obtain ⟨_, _, rfl⟩ := List.mem_map.1 hu; rfl
    have w2 := flat_one wiC_one l
    (apply C.regionE (isA := [0, 2, 3, 4, 5, 6, 7, 9, 10, 11, 12, 13, 14, 15, 1, 8, 16]) (ksA := [true, true, true, true, true, true, true, true, true, true, true, true, true, true, false, false, false]) (isB := [17, 18, 19]) (ksB := [1, 1, 0]) (Hs := [_]); exact Mix.h; (first | exact Arr.all _ | (exact a_arr)); (exact a_np); (exact a_picked); (exact a_picked); kernel_rfl; intro _ e; subst e)
    (repeat' (first | (apply RQ.step; intro _ _ _; (first | (apply Ok.sliceHi; exact rfl; exact rfl; omega; omega) | (apply Ok.sliceLo; exact rfl; exact rfl; omega; omega)); exact rfl) | (apply RQ.step; intro _ _ _; (exact a_ok); exact rfl) | (apply RQ.stepT; exact rfl; exact rfl; exact rfl; intro _ _ _; (exact a_ok); exact rfl) | (apply RQ.stepF; exact rfl; exact rfl; exact rfl; exact rfl; exact rfl)))
    rw [show ((i : Int) + 1).toNat = i + 1 by omega]
    (apply RQ.eff; intro Kc hKc ops0)
    (apply R.buildSlice0; exact rfl; intro bz)
    (apply R.nil; apply Fin.kq hKc; exact Mem.le_refl _; (exact a_arr))
    (apply RQ.eff; intro Kc hKc ops0)
    (apply R.append (news := ((keysT l).map uV).take (i * 1)) (k := i); exact rfl; exact rfl; exact Own.empty; (exact a_tk); exact Own.take_rd o1 (fun p hp => by simp [hp]); exact l1; (intro u hu; exact w1 u (List.mem_of_mem_take hu)); omega; exact rfl; decide; decide; exact rfl; rintro v3 hp3 ho3)
    rw [Nat.zero_add, List.nil_append] at ho3
    obtain ⟨A3, c3, rfl, _, _⟩ := ho3.form
    (apply R.nil; apply Fin.kq hKc; exact Mem.le_refl _; (exact a_arr))
    (apply RQ.eff; intro Kc hKc ops0)
    (apply R.append (news := ((keysT l).map uV).drop ((i + 1) * 1)) (k := l.length - (i + 1)); exact rfl; exact rfl; exact ho3; (exact a_tk); exact Own.drop_rd o1 (fun p hp => by simp [hp]) hil; exact l2; (intro u hu; exact w1 u (List.mem_of_mem_drop hu)); omega; exact rfl; decide; decide; exact rfl; rintro v4 hp4 ho4)
    obtain ⟨A4, c4, rfl, _, _⟩ := ho4.form
    rw [show i + (l.length - (i + 1)) = l.length - 1 by omega] at ho4 ⊢
    (apply R.nil; apply Fin.kq hKc; exact Mem.le_refl _; (exact a_arr))
    apply RQ.nil
    (repeat' (first | (first | (apply RP.step; intro _ _ _; (exact a_ok); exact rfl) | (apply RP.stepT; exact rfl; exact rfl; exact rfl; intro _ _ _; (exact a_ok); exact rfl) | (apply RP.stepF; exact rfl; exact rfl; exact rfl; exact rfl; exact rfl) | (apply RP.effF; exact rfl; exact rfl; exact rfl; exact rfl; exact rfl)) | (apply RP.callQ; (exact a_evs); exact rfl)))
    (apply RP.eff; intro Kc hKc ops0)
    (first | (apply R.store; exact rfl; exact rfl; exact rfl; (exact a_at); (exact a_blit); exact rfl; (focus (simp [Value.oneCell']; done))) | (apply R.buildSlice0; exact rfl; intro bz) | (apply R.box; exact rfl; (simp only [Value.cells]; rfl); exact rfl; intro bx) | (apply R.alloc; (simp only [Value.cells]; rfl); exact rfl; intro ba) | (apply R.buildSlice; (exact a_prt); exact rfl; exact rfl; (exact a_fills); exact rfl; intro bl))
    (apply R.nil; apply Fin.kp hKc; exact Mem.le_refl _; exact Arr.all _)
    (repeat' (first | (first | (apply RP.step; intro _ _ _; (exact a_ok); exact rfl) | (apply RP.stepT; exact rfl; exact rfl; exact rfl; intro _ _ _; (exact a_ok); exact rfl) | (apply RP.stepF; exact rfl; exact rfl; exact rfl; exact rfl; exact rfl) | (apply RP.effF; exact rfl; exact rfl; exact rfl; exact rfl; exact rfl)) | (apply RP.callQ; (exact a_evs); exact rfl)))
    (first | apply RP.nil0 | apply RP.nil)
    apply Fin.arr (H2 := (rb, .cells [.int .i64 most, .slice A4 (l.length - 1) c4, .slice A2 l.length c2].toArray 91 (0, 0)) :: (h1 ++ (h2 ++ (hp4 ++ H)))) (by ((try simp only [List.append_assoc, List.cons_append, List.nil_append, List.append_nil]); exact a_arr))
    (repeat' (first | (apply R.step; (exact a_ok); exact rfl) | (first | (with_reducible first | apply R.nil | apply C.ret | apply C.block | apply C.skip | apply C.exit | apply Fin.thenRet | apply Fin.thenExit | apply Fin.blockNormal | apply Fin.blockRet | apply Fin.blockExit) | (with_reducible apply Fin.thenK; assumption) | (with_reducible apply C.seqK; intro _ _) | (with_reducible apply C.regionK; intro _ _) | (with_reducible apply Fin.blockOther; exact rfl)) | (first | (apply R.store; exact rfl; exact rfl; exact rfl; (exact a_at); (exact a_blit); exact rfl; (focus (simp [Value.oneCell']; done))) | (apply R.buildSlice0; exact rfl; intro bz) | (apply R.box; exact rfl; (simp only [Value.cells]; rfl); exact rfl; intro bx) | (apply R.alloc; (simp only [Value.cells]; rfl); exact rfl; intro ba) | (apply R.buildSlice; (exact a_prt); exact rfl; exact rfl; (exact a_fills); exact rfl; intro bl)) | (first | (apply R.guardT; assumption; exact rfl; exact rfl; exact rfl) | (apply R.guardF; assumption; exact rfl; exact rfl; exact rfl; exact rfl; exact rfl) | (apply R.guardU; assumption; exact rfl; exact rfl; exact rfl; exact rfl) | (apply R.guardDec; assumption; exact rfl; exact rfl; (intro h; skip; rotate_left; intro h; skip; rotate_left)) | (apply R.guardBeq; assumption; exact rfl; exact rfl; (intro h; skip; rotate_left; intro h; skip; rotate_left)) | (apply R.guardBne; assumption; exact rfl; exact rfl; (intro h; skip; rotate_left; intro h; skip; rotate_left)) | (apply R.guardNDec; assumption; exact rfl; exact rfl; (intro h; skip; rotate_left; intro h; skip; rotate_left)) | (apply R.guardNot; assumption; exact rfl; exact rfl; (intro h; skip; rotate_left; intro h; skip; rotate_left)) | (apply R.guardC; assumption; exact rfl; exact rfl; (intro h; skip; rotate_left; intro h; skip; rotate_left))) | (first | (apply C.condT; exact rfl) | (apply C.condF; exact rfl) | (apply C.condDec; exact rfl; (intro h; skip; rotate_left; intro h; skip; rotate_left)) | (apply C.condBeq; exact rfl; (intro h; skip; rotate_left; intro h; skip; rotate_left)) | (apply C.condBne; exact rfl; (intro h; skip; rotate_left; intro h; skip; rotate_left)) | (apply C.condNDec; exact rfl; (intro h; skip; rotate_left; intro h; skip; rotate_left)) | (apply C.condNot; exact rfl; (intro h; skip; rotate_left; intro h; skip; rotate_left)) | (apply C.cond; exact rfl; (intro h; skip; rotate_left; intro h; skip; rotate_left)))))
    (apply C.regionE (isA := [0, 2, 3, 4, 5, 6, 7, 9, 10, 11, 12, 13, 14, 15, 1, 8, 16]) (ksA := [true, true, true, true, true, true, true, true, true, true, true, true, true, true, false, false, false]) (isB := [17, 18, 19]) (ksB := [1, 1, 0]) (Hs := [_]); exact Mix.h; (first | exact Arr.all _ | (exact a_arr)); (exact a_np); (exact a_picked); (exact a_picked); kernel_rfl; intro _ e; subst e)
    (repeat' (first | (apply RQ.step; intro _ _ _; (first | (apply Ok.sliceHi; exact rfl; exact rfl; omega; omega) | (apply Ok.sliceLo; exact rfl; exact rfl; omega; omega)); exact rfl) | (apply RQ.step; intro _ _ _; (exact a_ok); exact rfl) | (apply RQ.stepT; exact rfl; exact rfl; exact rfl; intro _ _ _; (exact a_ok); exact rfl) | (apply RQ.stepF; exact rfl; exact rfl; exact rfl; exact rfl; exact rfl)))
    rw [show ((i : Int) + 1).toNat = i + 1 by omega]
    (apply RQ.eff; intro Kc hKc ops0)
    (apply R.buildSlice0; exact rfl; intro by_)
    (apply R.nil; apply Fin.kq hKc; exact Mem.le_refl _; (exact a_arr))
    (apply RQ.eff; intro Kc hKc ops0)
    (apply R.append (news := (flat wiC l).take (i * 2)) (k := i); exact rfl; exact rfl; exact Own.empty; (exact a_tk); exact Own.take_rd o2 (fun p hp => by simp [hp]); exact l3; (intro u hu; exact w2 u (List.mem_of_mem_take hu)); omega; exact rfl; decide; decide; exact rfl; rintro v5 hp5 ho5)
    rw [Nat.zero_add, List.nil_append] at ho5
    obtain ⟨A5, c5, rfl, _, _⟩ := ho5.form
    (apply R.nil; apply Fin.kq hKc; exact Mem.le_refl _; (exact a_arr))
    (apply RQ.eff; intro Kc hKc ops0)
    (apply R.append (news := (flat wiC l).drop ((i + 1) * 2)) (k := l.length - (i + 1)); exact rfl; exact rfl; exact ho5; (exact a_tk); exact Own.drop_rd o2 (fun p hp => by simp [hp]) hil; exact l4; (intro u hu; exact w2 u (List.mem_of_mem_drop hu)); omega; exact rfl; decide; decide; exact rfl; rintro v6 hp6 ho6)
    obtain ⟨A6, c6, rfl, _, _⟩ := ho6.form
    rw [show i + (l.length - (i + 1)) = l.length - 1 by omega] at ho6 ⊢
    (apply R.nil; apply Fin.kq hKc; exact Mem.le_refl _; (exact a_arr))
    apply RQ.nil
    (repeat' (first | (first | (apply RP.step; intro _ _ _; (exact a_ok); exact rfl) | (apply RP.stepT; exact rfl; exact rfl; exact rfl; intro _ _ _; (exact a_ok); exact rfl) | (apply RP.stepF; exact rfl; exact rfl; exact rfl; exact rfl; exact rfl) | (apply RP.effF; exact rfl; exact rfl; exact rfl; exact rfl; exact rfl)) | (apply RP.callQ; (exact a_evs); exact rfl)))
    (apply RP.eff; intro Kc hKc ops0)
    (first | (apply R.store; exact rfl; exact rfl; exact rfl; (exact a_at); (exact a_blit); exact rfl; (focus (simp [Value.oneCell']; done))) | (apply R.buildSlice0; exact rfl; intro bz) | (apply R.box; exact rfl; (simp only [Value.cells]; rfl); exact rfl; intro bx) | (apply R.alloc; (simp only [Value.cells]; rfl); exact rfl; intro ba) | (apply R.buildSlice; (exact a_prt); exact rfl; exact rfl; (exact a_fills); exact rfl; intro bl))
    (apply R.nil; apply Fin.kp hKc; exact Mem.le_refl _; exact Arr.all _)
    (repeat' (first | (first | (apply RP.step; intro _ _ _; (exact a_ok); exact rfl) | (apply RP.stepT; exact rfl; exact rfl; exact rfl; intro _ _ _; (exact a_ok); exact rfl) | (apply RP.stepF; exact rfl; exact rfl; exact rfl; exact rfl; exact rfl) | (apply RP.effF; exact rfl; exact rfl; exact rfl; exact rfl; exact rfl)) | (apply RP.callQ; (exact a_evs); exact rfl)))
    (first | apply RP.nil0 | apply RP.nil)
    apply Fin.arr (H2 := (rb, .cells [.int .i64 most, .slice A4 (l.length - 1) c4, .slice A6 (l.length - 1) c6].toArray 91 (0, 0)) :: (hp4 ++ (hp6 ++ H))) (by ((try simp only [List.append_assoc, List.cons_append, List.nil_append, List.append_nil]); exact a_arr))
    (repeat' (first | (apply R.step; (exact a_ok); exact rfl) | (first | (with_reducible first | apply R.nil | apply C.ret | apply C.block | apply C.skip | apply C.exit | apply Fin.thenRet | apply Fin.thenExit | apply Fin.blockNormal | apply Fin.blockRet | apply Fin.blockExit) | (with_reducible apply Fin.thenK; assumption) | (with_reducible apply C.seqK; intro _ _) | (with_reducible apply C.regionK; intro _ _) | (with_reducible apply Fin.blockOther; exact rfl)) | (first | (apply R.store; exact rfl; exact rfl; exact rfl; (exact a_at); (exact a_blit); exact rfl; (focus (simp [Value.oneCell']; done))) | (apply R.buildSlice0; exact rfl; intro bz) | (apply R.box; exact rfl; (simp only [Value.cells]; rfl); exact rfl; intro bx) | (apply R.alloc; (simp only [Value.cells]; rfl); exact rfl; intro ba) | (apply R.buildSlice; (exact a_prt); exact rfl; exact rfl; (exact a_fills); exact rfl; intro bl)) | (first | (apply R.guardT; assumption; exact rfl; exact rfl; exact rfl) | (apply R.guardF; assumption; exact rfl; exact rfl; exact rfl; exact rfl; exact rfl) | (apply R.guardU; assumption; exact rfl; exact rfl; exact rfl; exact rfl) | (apply R.guardDec; assumption; exact rfl; exact rfl; (intro h; skip; rotate_left; intro h; skip; rotate_left)) | (apply R.guardBeq; assumption; exact rfl; exact rfl; (intro h; skip; rotate_left; intro h; skip; rotate_left)) | (apply R.guardBne; assumption; exact rfl; exact rfl; (intro h; skip; rotate_left; intro h; skip; rotate_left)) | (apply R.guardNDec; assumption; exact rfl; exact rfl; (intro h; skip; rotate_left; intro h; skip; rotate_left)) | (apply R.guardNot; assumption; exact rfl; exact rfl; (intro h; skip; rotate_left; intro h; skip; rotate_left)) | (apply R.guardC; assumption; exact rfl; exact rfl; (intro h; skip; rotate_left; intro h; skip; rotate_left))) | (first | (apply C.condT; exact rfl) | (apply C.condF; exact rfl) | (apply C.condDec; exact rfl; (intro h; skip; rotate_left; intro h; skip; rotate_left)) | (apply C.condBeq; exact rfl; (intro h; skip; rotate_left; intro h; skip; rotate_left)) | (apply C.condBne; exact rfl; (intro h; skip; rotate_left; intro h; skip; rotate_left)) | (apply C.condNDec; exact rfl; (intro h; skip; rotate_left; intro h; skip; rotate_left)) | (apply C.condNot; exact rfl; (intro h; skip; rotate_left; intro h; skip; rotate_left)) | (apply C.cond; exact rfl; (intro h; skip; rotate_left; intro h; skip; rotate_left)))))
    (apply Fin.returnA (H2 := (rb, .cells [.int .i64 most, .slice A4 (l.length - 1) c4, .slice A6 (l.length - 1) c6].toArray 91 (0, 0)) :: (hp4 ++ (hp6 ++ H))); assumption; exact .inl rfl; exact rfl; (exact a_res); (simp only [retv]; rfl); (exact a_arr))
    rw [flat_take (W := 2) (fun _ => rfl), flat_drop (W := 2) (fun _ => rfl), ← flat_append] at ho6
    rw [Nat.mul_one, Nat.mul_one, ← List.map_take, ← List.map_drop, ← List.map_append, ← keysT_take, ← keysT_drop, ← keysT_append] at ho4
    have hlen : (l.take i ++ l.drop (i + 1)).length = l.length - 1 := by rw [List.length_append, List.length_take, List.length_drop]; omega
    refine ⟨by rw [decide_eq_true hk], (rb, .cells [.int .i64 most, .slice A4 (l.length - 1) c4, .slice A6 (l.length - 1) c6].toArray 91 (0, 0)) :: (hp4 ++ hp6), ?_, rfl, by rw [List.cons_append, List.append_assoc]⟩
    unfold dropT
    rw [if_pos hk, hij]
    exact ⟨hsort, by rw [hlen]; omega, hm, _, _, _, _, by rw [hlen]; exact ho4, by rw [hlen]; exact ho6, rfl⟩
  · have hk : ¬ k ∈ keysT l := by assumption
    (apply Fin.returnA (H2 := (rb, .cells [.int .i64 most, v1, v2].toArray 91 (0, 0)) :: (h1 ++ (h2 ++ H))); assumption; exact .inl rfl; exact rfl; (exact a_res); (simp only [retv]; rfl); (exact a_arr))
    exact ⟨by rw [decide_eq_false hk], _, by unfold dropT; rw [if_neg hk]; exact ht0, rfl, by rw [List.cons_append, List.append_assoc]⟩
end Go.Sx
