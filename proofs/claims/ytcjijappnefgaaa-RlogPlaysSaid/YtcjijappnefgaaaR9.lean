/- A log is written: cut, drop. -/
import Derived.Test.YtcjijappnefgaaaR8
namespace Go.Sx
open Go.Proofs Go.RowKit
attribute [local irreducible] C R Fin K Own OwnT Rd Pl Ok KOf RetOk OpsOf RP KP Res NoPanic KV
variable {M M' : Mem} {H H1 hrow : Hp}
theorem PlV.len {vs : List Value} {es : List En} (h : PlV M vs (es.map En.data)) : vs.length = es.length := by rw [h.1, List.length_map]
theorem rowE_drop (es : List En) (vs : List Value) (k : Nat) : (rowE es vs).flatten.drop (k * 5) = (rowE (es.drop k) (vs.drop k)).flatten := by
  rw [rows_drop (rowE_len es vs)]
  congr 1
  unfold rowE
  rw [List.drop_zipWith]
theorem rowE_take (es : List En) (vs : List Value) (k : Nat) : (rowE es vs).flatten.take (k * 5) = (rowE (es.take k) (vs.take k)).flatten := by
  rw [rows_take (rowE_len es vs)]
  congr 1
  unfold rowE
  rw [List.take_zipWith]
theorem OwnP.cut {A : Option Addr} {cap k : Nat} {es : List En} (h : OwnP M (.slice A es.length cap) es hrow) (hk : k ≤ es.length) : OwnP M (.slice (adv A k 5 cap) (es.length - k) (cap - k)) (es.drop k) hrow := by
  obtain ⟨vs, h1, h2⟩ := h
  refine ⟨vs.drop k, ?_, by rw [List.map_drop]; exact h2.drop k⟩
  have := h1.cut hk
  rw [rowE_drop] at this
  rw [List.length_drop]
  exact this
theorem OwnP.hiMax {A : Option Addr} {cap k : Nat} {es : List En} (h : OwnP M (.slice A es.length cap) es hrow) (hk : k ≤ es.length) : OwnP M (.slice A k k) (es.take k) hrow := by
  obtain ⟨vs, h1, h2⟩ := h
  refine ⟨vs.take k, ?_, by rw [List.map_take]; exact h2.take k⟩
  have := h1.hiMax hk
  rw [rowE_take] at this
  rw [List.length_take, Nat.min_eq_left hk]
  exact this
theorem OwnP.form {v : Value} {es : List En} (h : OwnP M v es hrow) : ∃ A cap, v = .slice A es.length cap ∧ es.length ≤ cap ∧ cap ≤ maxLen := by
  obtain ⟨vs, h1, h2⟩ := h
  exact h1.form
theorem cut_K {g : Nat} {b : Ba} {A : Option Addr} {m cap : Nat} {k : Int} (h0 : b.idx < k) (h1 : k ≤ b.idx + m) (hb : 0 ≤ b.idx) (hs : b.idx + m ≤ 144115188075855871) (hmc : m ≤ cap) (hcm : cap ≤ maxLen) : K Try.prog 35 [.pointer (some ⟨g, 3, none⟩), .int .u64 k] M ((g, lgB b (.slice A m cap)) :: H) fun v' M' H' => v' = .tuple #[] ∧ M' = M ∧ H' = (g, lgB b (.slice A (k - b.idx - 1).toNat (k - b.idx - 1).toNat)) :: H := by
  unfold maxLen at hcm
  refine K.enterK Try.func35 rfl rfl rfl ?_
  intro Q hNP hQ
  (repeat' (first | (apply R.step; (exact a_ok); exact rfl) | (first | (with_reducible first | apply R.nil | apply C.ret | apply C.block | apply C.skip | apply C.exit | apply Fin.thenRet | apply Fin.thenExit | apply Fin.blockNormal | apply Fin.blockRet | apply Fin.blockExit) | (with_reducible apply Fin.thenK; assumption) | (with_reducible apply C.seqK; intro _ _) | (with_reducible apply C.regionK; intro _ _) | (with_reducible apply Fin.blockOther; exact rfl)) | (first | (apply R.store; exact rfl; exact rfl; exact rfl; (exact a_at); (exact a_blit); exact rfl; (focus (simp [Value.oneCell']; done))) | (apply R.buildSlice0; exact rfl; intro bz) | (apply R.box; exact rfl; (simp only [Value.cells]; rfl); exact rfl; intro bx) | (apply R.alloc; (simp only [Value.cells]; rfl); exact rfl; intro ba) | (apply R.buildSlice; (exact a_prt); exact rfl; exact rfl; (exact a_fills); exact rfl; intro bl)) | (first | (apply R.guardT; assumption; exact rfl; exact rfl; exact rfl) | (apply R.guardF; assumption; exact rfl; exact rfl; exact rfl; exact rfl; exact rfl) | (apply R.guardU; assumption; exact rfl; exact rfl; exact rfl; exact rfl) | (apply R.guardDec; assumption; exact rfl; exact rfl; (intro h; skip; rotate_left; intro h; skip; rotate_left)) | (apply R.guardBeq; assumption; exact rfl; exact rfl; (intro h; skip; rotate_left; intro h; skip; rotate_left)) | (apply R.guardBne; assumption; exact rfl; exact rfl; (intro h; skip; rotate_left; intro h; skip; rotate_left)) | (apply R.guardNDec; assumption; exact rfl; exact rfl; (intro h; skip; rotate_left; intro h; skip; rotate_left)) | (apply R.guardNot; assumption; exact rfl; exact rfl; (intro h; skip; rotate_left; intro h; skip; rotate_left)) | (apply R.guardC; assumption; exact rfl; exact rfl; (intro h; skip; rotate_left; intro h; skip; rotate_left))) | (first | (apply C.condT; exact rfl) | (apply C.condF; exact rfl) | (apply C.condDec; exact rfl; (intro h; skip; rotate_left; intro h; skip; rotate_left)) | (apply C.condBeq; exact rfl; (intro h; skip; rotate_left; intro h; skip; rotate_left)) | (apply C.condBne; exact rfl; (intro h; skip; rotate_left; intro h; skip; rotate_left)) | (apply C.condNDec; exact rfl; (intro h; skip; rotate_left; intro h; skip; rotate_left)) | (apply C.condNot; exact rfl; (intro h; skip; rotate_left; intro h; skip; rotate_left)) | (apply C.cond; exact rfl; (intro h; skip; rotate_left; intro h; skip; rotate_left)))))
  (apply C.regionE (isA := [0, 1, 2, 3, 4, 5, 6, 7, 8, 9, 10, 11, 12, 13, 14, 15, 16, 17, 18, 19]) (ksA := [true, true, true, true, true, true, true, true, true, true, true, true, true, true, true, true, true, true, true, true]) (isB := [20, 21, 22]) (ksB := [true, true, false]) (Hs := [(g, lgB b (.slice A m cap))]); exact Mix.h; (first | exact Arr.all _ | (exact a_arr)); (exact a_np); (exact a_picked); (exact a_picked); kernel_rfl; intro _ e; subst e)
  (repeat' (first | (apply RQ.step; intro _ _ _; (apply Ok.sliceHiMax; exact rfl; exact rfl; exact rfl; omega; omega; omega); exact rfl) | (apply RQ.step; intro _ _ _; (exact a_ok); exact rfl) | (apply RQ.stepT; exact rfl; exact rfl; exact rfl; intro _ _ _; (exact a_ok); exact rfl) | (apply RQ.stepF; exact rfl; exact rfl; exact rfl; exact rfl; exact rfl)))
  apply RQ.nil
  (repeat' (first | (first | (apply RP.step; intro _ _ _; (exact a_ok); exact rfl) | (apply RP.stepT; exact rfl; exact rfl; exact rfl; intro _ _ _; (exact a_ok); exact rfl) | (apply RP.stepF; exact rfl; exact rfl; exact rfl; exact rfl; exact rfl) | (apply RP.effF; exact rfl; exact rfl; exact rfl; exact rfl; exact rfl)) | (apply RP.callQ; (exact a_evs); exact rfl)))
  (apply RP.eff; intro Kc hKc ops0)
  (first | (apply R.store; exact rfl; exact rfl; exact rfl; (exact a_at); (exact a_blit); exact rfl; (focus (simp [Value.oneCell']; done))) | (apply R.buildSlice0; exact rfl; intro bz) | (apply R.box; exact rfl; (simp only [Value.cells]; rfl); exact rfl; intro bx) | (apply R.alloc; (simp only [Value.cells]; rfl); exact rfl; intro ba) | (apply R.buildSlice; (exact a_prt); exact rfl; exact rfl; (exact a_fills); exact rfl; intro bl))
  (apply R.nil; apply Fin.kp hKc; exact Mem.le_refl _; exact Arr.all _)
  (first | apply RP.nil0 | apply RP.nil)
  (refine Fin.rt ?_)
  exact ⟨rfl, rfl, rfl⟩
theorem drop_K {g : Nat} {b : Ba} {b0 : Int} {A : Option Addr} {m cap : Nat} {k : Int} (h0 : b.idx ≤ k) (h1 : k ≤ b.idx + m) (hb : 0 ≤ b.idx) (hs : b.idx + m ≤ 144115188075855871) (hmc : m ≤ cap) (hcm : cap ≤ maxLen) {t1 t2 : Value} : K Try.prog 48 [.pointer (some ⟨g, 3, none⟩), .int .u64 k] M ((g, .cells #[.int .u64 b0, t1, t2, .int .u64 b.idx, .slice A m cap] 67 (0, 0)) :: H) fun v' M' H' => v' = .tuple #[] ∧ M' = M ∧ H' = (g, .cells #[.int .u64 b0, t1, t2, .int .u64 k, .slice (adv A (k - b.idx).toNat 5 cap) (m - (k - b.idx).toNat) (cap - (k - b.idx).toNat)] 67 (0, 0)) :: H := by
  unfold maxLen at hcm
  refine K.enterK Try.func48 rfl rfl rfl ?_
  intro Q hNP hQ
  (repeat' (first | (apply R.step; (exact a_ok); exact rfl) | (first | (with_reducible first | apply R.nil | apply C.ret | apply C.block | apply C.skip | apply C.exit | apply Fin.thenRet | apply Fin.thenExit | apply Fin.blockNormal | apply Fin.blockRet | apply Fin.blockExit) | (with_reducible apply Fin.thenK; assumption) | (with_reducible apply C.seqK; intro _ _) | (with_reducible apply C.regionK; intro _ _) | (with_reducible apply Fin.blockOther; exact rfl)) | (first | (apply R.store; exact rfl; exact rfl; exact rfl; (exact a_at); (exact a_blit); exact rfl; (focus (simp [Value.oneCell']; done))) | (apply R.buildSlice0; exact rfl; intro bz) | (apply R.box; exact rfl; (simp only [Value.cells]; rfl); exact rfl; intro bx) | (apply R.alloc; (simp only [Value.cells]; rfl); exact rfl; intro ba) | (apply R.buildSlice; (exact a_prt); exact rfl; exact rfl; (exact a_fills); exact rfl; intro bl)) | (first | (apply R.guardT; assumption; exact rfl; exact rfl; exact rfl) | (apply R.guardF; assumption; exact rfl; exact rfl; exact rfl; exact rfl; exact rfl) | (apply R.guardU; assumption; exact rfl; exact rfl; exact rfl; exact rfl) | (apply R.guardDec; assumption; exact rfl; exact rfl; (intro h; skip; rotate_left; intro h; skip; rotate_left)) | (apply R.guardBeq; assumption; exact rfl; exact rfl; (intro h; skip; rotate_left; intro h; skip; rotate_left)) | (apply R.guardBne; assumption; exact rfl; exact rfl; (intro h; skip; rotate_left; intro h; skip; rotate_left)) | (apply R.guardNDec; assumption; exact rfl; exact rfl; (intro h; skip; rotate_left; intro h; skip; rotate_left)) | (apply R.guardNot; assumption; exact rfl; exact rfl; (intro h; skip; rotate_left; intro h; skip; rotate_left)) | (apply R.guardC; assumption; exact rfl; exact rfl; (intro h; skip; rotate_left; intro h; skip; rotate_left))) | (first | (apply C.condT; exact rfl) | (apply C.condF; exact rfl) | (apply C.condDec; exact rfl; (intro h; skip; rotate_left; intro h; skip; rotate_left)) | (apply C.condBeq; exact rfl; (intro h; skip; rotate_left; intro h; skip; rotate_left)) | (apply C.condBne; exact rfl; (intro h; skip; rotate_left; intro h; skip; rotate_left)) | (apply C.condNDec; exact rfl; (intro h; skip; rotate_left; intro h; skip; rotate_left)) | (apply C.condNot; exact rfl; (intro h; skip; rotate_left; intro h; skip; rotate_left)) | (apply C.cond; exact rfl; (intro h; skip; rotate_left; intro h; skip; rotate_left)))))
  (apply C.regionB (isF := [1, 13]) (isA := [0, 2, 3, 4, 5, 6, 7, 8, 9, 10, 11, 12]) (isB := [14, 15, 16, 17, 18, 19]) (ksB := [true, true, false, true, true, false]); exact Mix.h; (exact a_np); (exact a_picked); (exact a_picked); (exact a_picked); kernel_rfl; intro _ e; subst e)
  (repeat' (first | (apply FZ.step; intro _ _; (apply Ok.move; exact rfl); exact rfl) | fail | (apply FZ.step; intro _ _; (exact a_ok); exact rfl)))
  apply FZ.nil
  (repeat' (first | (apply RZ.step; (apply Ok.move; exact rfl); exact rfl) | (apply RZ.step; (apply Ok.sliceLo; exact rfl; exact rfl; omega; omega); exact rfl) | (apply RZ.step; (exact a_ok); exact rfl) | (apply RZ.stepT; exact rfl; exact rfl; exact rfl; (exact a_ok); exact rfl) | (apply RZ.stepF; exact rfl; exact rfl; exact rfl; exact rfl; exact rfl)))
  apply RZ.nil
  (repeat' (first | (first | (apply RP.step; intro _ _ _; (exact a_ok); exact rfl) | (apply RP.stepT; exact rfl; exact rfl; exact rfl; intro _ _ _; (exact a_ok); exact rfl) | (apply RP.stepF; exact rfl; exact rfl; exact rfl; exact rfl; exact rfl) | (apply RP.effF; exact rfl; exact rfl; exact rfl; exact rfl; exact rfl)) | (apply RP.callQ; (exact a_evs); exact rfl)))
  (apply RP.eff; intro Kc hKc ops0)
  (first | (apply R.store; exact rfl; exact rfl; exact rfl; (exact a_at); (exact a_blit); exact rfl; (focus (simp [Value.oneCell']; done))) | (apply R.buildSlice0; exact rfl; intro bz) | (apply R.box; exact rfl; (simp only [Value.cells]; rfl); exact rfl; intro bx) | (apply R.alloc; (simp only [Value.cells]; rfl); exact rfl; intro ba) | (apply R.buildSlice; (exact a_prt); exact rfl; exact rfl; (exact a_fills); exact rfl; intro bl))
  (apply R.nil; apply Fin.kp hKc; exact Mem.le_refl _; exact Arr.all _)
  (repeat' (first | (first | (apply RP.step; intro _ _ _; (exact a_ok); exact rfl) | (apply RP.stepT; exact rfl; exact rfl; exact rfl; intro _ _ _; (exact a_ok); exact rfl) | (apply RP.stepF; exact rfl; exact rfl; exact rfl; exact rfl; exact rfl) | (apply RP.effF; exact rfl; exact rfl; exact rfl; exact rfl; exact rfl)) | (apply RP.callQ; (exact a_evs); exact rfl)))
  (apply RP.eff; intro Kc hKc ops0)
  (first | (apply R.store; exact rfl; exact rfl; exact rfl; (exact a_at); (exact a_blit); exact rfl; (focus (simp [Value.oneCell']; done))) | (apply R.buildSlice0; exact rfl; intro bz) | (apply R.box; exact rfl; (simp only [Value.cells]; rfl); exact rfl; intro bx) | (apply R.alloc; (simp only [Value.cells]; rfl); exact rfl; intro ba) | (apply R.buildSlice; (exact a_prt); exact rfl; exact rfl; (exact a_fills); exact rfl; intro bl))
  (apply R.nil; apply Fin.kp hKc; exact Mem.le_refl _; exact Arr.all _)
  (first | apply RP.nil0 | apply RP.nil)
  (refine Fin.rt ?_)
  exact ⟨rfl, rfl, rfl⟩
end Go.Sx
