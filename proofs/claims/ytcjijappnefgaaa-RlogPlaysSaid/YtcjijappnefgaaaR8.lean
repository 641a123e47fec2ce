/- A log is written: Append. -/
import Derived.Test.YtcjijappnefgaaaR7
namespace Go.Sx
open Go.Proofs Go.RowKit
attribute [local irreducible] C R Fin K Own OwnT Rd Pl Ok KOf RetOk OpsOf RP KP Res NoPanic KV
variable {M M' : Mem} {H H1 hrow : Hp}
theorem K.lendsR {f : Nat} {args : List Value} {P : Value → Prop} (ha : Arr H (hrow ++ H1)) (h : ∀ M2, M.le M2 → In M2 hrow → K Try.prog f args M2 H1 fun v M' H' => P v ∧ M' = M2 ∧ H' = H1) : K Try.prog f args M H fun v M' H' => P v ∧ M' = M ∧ H' = hrow ++ H1 :=
  K.lends ha fun M2 hM2 hin => (h M2 hM2 hin).mono fun _ _ _ h => ⟨h.2.1, h.1, rfl, by rw [h.2.2]⟩
theorem OwnP.lent {v : Value} {es : List En} (h : OwnP M v es hrow) {M2 : Mem} (hM : M.le M2) (hi : In M2 hrow) : ∃ A cap vs, v = .slice A es.length cap ∧ Pl M2 A (rowE es vs).flatten ∧ PlV M2 vs (es.map En.data) ∧ EnL M2 v es := by
  have h2 := (h.mono hM).enL hi
  obtain ⟨A, cap, vs, h1, _, _, h4, h5⟩ := id h2
  exact ⟨A, cap, vs, h1, h4, h5, h2⟩
theorem Last_KP {g : Nat} {b : Ba} {v : Value} {es : List En} (ho : OwnP M v es hrow) (hs : small b es) : K Try.prog 26 [.pointer (some ⟨g, 0, none⟩)] M (hrow ++ ((g, lgB b v) :: H)) fun v' M' H' => v' = .int .u64 (lastS b es) ∧ M' = M ∧ H' = hrow ++ ((g, lgB b v) :: H) :=
  K.lendsR (Arr.all _) fun M2 hM2 hin => by
    obtain ⟨A, cap, vs, rfl, _, _, _⟩ := ho.lent hM2 hin
    exact Last_K List.mem_cons_self hs
theorem Term_KP {g : Nat} {b : Ba} {v : Value} {es : List En} {k : Int} (ho : OwnP M v es hrow) (hs : small b es) (hk : 0 ≤ k) : K Try.prog 33 [.pointer (some ⟨g, 0, none⟩), .int .u64 k] M (hrow ++ ((g, lgB b v) :: H)) fun v' M' H' => v' = tbV (termS b es k) ∧ M' = M ∧ H' = hrow ++ ((g, lgB b v) :: H) :=
  K.lendsR (Arr.all _) fun M2 hM2 hin => by
    obtain ⟨A, cap, vs, rfl, h4, h5, _⟩ := ho.lent hM2 hin
    exact Term_K List.mem_cons_self h4 h5 hs hk
theorem rowE_app {es fs : List En} {vs ws : List Value} (h : vs.length = es.length) : rowE (es ++ fs) (vs ++ ws) = rowE es vs ++ rowE fs ws := by
  unfold rowE
  rw [List.zipWith_append h.symm]
theorem PlV.app {vs ws : List Value} {ls ms : List (List UInt8)} (h : PlV M vs ls) (g : PlV M ws ms) : PlV M (vs ++ ws) (ls ++ ms) := by
  refine ⟨by rw [List.length_append, List.length_append, h.1, g.1], fun i v l h1 h2 => ?_⟩
  by_cases hi : i < vs.length
  · rw [List.getElem?_append_left hi] at h1
    rw [List.getElem?_append_left (by rw [← h.1]; exact hi)] at h2
    exact h.2 i v l h1 h2
  · rw [List.getElem?_append_right (by omega)] at h1
    rw [List.getElem?_append_right (by rw [← h.1]; omega), ← h.1] at h2
    exact g.2 _ v l h1 h2
theorem rowE_cells {es : List En} {vs : List Value} (hv : PlV M vs (es.map En.data)) : (rowE es vs).length = es.length ∧ (rowE es vs).flatten.length = es.length * 5 ∧ ∀ u ∈ (rowE es vs).flatten, u.oneCell' = true := by
  have hvl : vs.length = es.length := by rw [hv.1, List.length_map]
  have hl : (rowE es vs).length = es.length := by unfold rowE; rw [List.length_zipWith]; omega
  refine ⟨hl, by rw [rows_len (rowE_len es vs), hl], fun u hu => ?_⟩
  obtain ⟨c, hc, hu⟩ := List.mem_flatten.1 hu
  obtain ⟨i, hi, rfl⟩ := List.mem_iff_getElem.1 hc
  have hie : i < es.length := by omega
  have h := rowE_i (es := es) (vs := vs) hie (by omega)
  rw [List.getElem?_eq_getElem hi] at h
  injection h with h
  rw [h] at hu
  have h1 : vs[i]? = some (vs[i]'(by omega)) := List.getElem?_eq_getElem _
  have h2 : (es.map En.data)[i]? = some es[i].data := by rw [List.getElem?_map, List.getElem?_eq_getElem hie]; rfl
  obtain ⟨Ai, ci, k1, _, _, _⟩ := hv.2 i _ _ h1 h2
  rw [k1] at hu
  simp only [ecells, List.mem_cons, List.not_mem_nil, or_false] at hu
  rcases hu with rfl | rfl | rfl | rfl | rfl <;> rfl
theorem OwnT.joined {v' : Value} {es fs : List En} {vs ws : List Value} {hp' : Hp} (h : OwnT 27 5 v' (es.length + fs.length) ((rowE es vs).flatten ++ (rowE fs ws).flatten) hp') (hv : PlV M vs (es.map En.data)) (hw : PlV M ws (fs.map En.data)) : OwnP M v' (es ++ fs) hp' := by
  refine ⟨vs ++ ws, ?_, by rw [List.map_append]; exact hv.app hw⟩
  rw [List.length_append, rowE_app (by rw [hv.1, List.length_map]), List.flatten_append]
  exact h
theorem owCells {xs : List Ow} (h : owD xs) : (rowE (owE xs) (owV xs)).flatten.length = xs.length * 5 ∧ ∀ u ∈ (rowE (owE xs) (owV xs)).flatten, u.oneCell' = true := by
  rw [rowE_ow]
  refine ⟨by rw [rows_len (n := 5) (fun c hc => by obtain ⟨x, _, rfl⟩ := List.mem_map.1 hc; rfl), List.length_map], fun u hu => ?_⟩
  obtain ⟨c, hc, hu⟩ := List.mem_flatten.1 hu
  obtain ⟨x, hx, rfl⟩ := List.mem_map.1 hc
  obtain ⟨A, cap, hv, _, _⟩ := (h x hx).form
  rw [hv] at hu
  simp only [ecells, List.mem_cons, List.not_mem_nil, or_false] at hu
  rcases hu with rfl | rfl | rfl | rfl | rfl <;> rfl
/-- a row of one's own, of which some entries' bytes lie in the pool, and others in memory of their own -/
def OwnQ (M : Mem) (v : Value) (es : List En) (hrow hb : Hp) : Prop := ∃ (es1 : List En) (vs1 : List Value) (xs : List Ow), es = es1 ++ owE xs ∧ OwnT 27 5 v es.length ((rowE es1 vs1).flatten ++ (rowE (owE xs) (owV xs)).flatten) hrow ∧ PlV M vs1 (es1.map En.data) ∧ owD xs ∧ hb = owH xs
theorem OwnQ.ownP {M2 : Mem} {v : Value} {es : List En} {hb : Hp} (h : OwnQ M v es hrow hb) (hM : M.le M2) (hi : In M2 hb) : OwnP M2 v es hrow := by
  obtain ⟨es1, vs1, xs, rfl, h2, h3, h4, rfl⟩ := h
  rw [List.length_append] at h2
  exact OwnT.joined h2 (h3.mono hM) (PlV.ofOw h4 hi)
theorem OwnP.ownQ {v : Value} {es : List En} (h : OwnP M v es hrow) : OwnQ M v es hrow [] := by
  obtain ⟨vs, h1, h2⟩ := h
  refine ⟨es, vs, [], by simp [owE], ?_, h2, fun _ h => absurd h (List.not_mem_nil), rfl⟩
  have e : (rowE (owE []) (owV [])).flatten = [] := rfl
  rw [e, List.append_nil]
  exact h1
theorem Append_KQ {M0 : Mem} {g : Nat} {b : Ba} {v w : Value} {es fs : List En} (ho0 : OwnP M0 v es hrow) (hM0 : M0.le M) (hs : small b es) (hw : EnL M w fs) (hf : fits fs) (hsum : (es.length + fs.length) * 56 ≤ 140737488351232) : K Try.prog 53 [.pointer (some ⟨g, 0, none⟩), w] M (hrow ++ ((g, lgB b v) :: H)) fun v' M' H' =>
    (¬ followS (lastS b es) (termS b es (lastS b es)).1 fs ∧ v' = .int .i64 1 ∧ M' = M ∧ H' = hrow ++ ((g, lgB b v) :: H)) ∨
    (followS (lastS b es) (termS b es (lastS b es)).1 fs ∧ v' = .int .i64 0 ∧ ∃ lv hrow' hb, OwnQ M0 lv (es ++ fs) hrow' hb ∧ M' = M ∧ H' = hrow' ++ (hb ++ ((g, lgB b lv) :: H))) := by
  have ho := ho0.mono hM0
  have hl0 : 0 ≤ lastS b es := by unfold lastS; have := hs.1; omega
  obtain ⟨B, capB, ws, rfl, w1, w2, w3, w4⟩ := id hw
  refine K.enterK Try.func53 rfl rfl rfl ?_
  intro Q hNP hQ
  (repeat' (first | (apply R.step; (exact a_ok); exact rfl) | (first | (with_reducible first | apply R.nil | apply C.ret | apply C.block | apply C.skip | apply C.exit | apply Fin.thenRet | apply Fin.thenExit | apply Fin.blockNormal | apply Fin.blockRet | apply Fin.blockExit) | (with_reducible apply Fin.thenK; assumption) | (with_reducible apply C.seqK; intro _ _) | (with_reducible apply C.regionK; intro _ _) | (with_reducible apply Fin.blockOther; exact rfl)) | (first | (apply R.store; exact rfl; exact rfl; exact rfl; (exact a_at); (exact a_blit); exact rfl; (focus (simp [Value.oneCell']; done))) | (apply R.buildSlice0; exact rfl; intro bz) | (apply R.box; exact rfl; (simp only [Value.cells]; rfl); exact rfl; intro bx) | (apply R.alloc; (simp only [Value.cells]; rfl); exact rfl; intro ba) | (apply R.buildSlice; (exact a_prt); exact rfl; exact rfl; (exact a_fills); exact rfl; intro bl)) | (first | (apply R.guardT; assumption; exact rfl; exact rfl; exact rfl) | (apply R.guardF; assumption; exact rfl; exact rfl; exact rfl; exact rfl; exact rfl) | (apply R.guardU; assumption; exact rfl; exact rfl; exact rfl; exact rfl) | (apply R.guardDec; assumption; exact rfl; exact rfl; (intro h; skip; rotate_left; intro h; skip; rotate_left)) | (apply R.guardBeq; assumption; exact rfl; exact rfl; (intro h; skip; rotate_left; intro h; skip; rotate_left)) | (apply R.guardBne; assumption; exact rfl; exact rfl; (intro h; skip; rotate_left; intro h; skip; rotate_left)) | (apply R.guardNDec; assumption; exact rfl; exact rfl; (intro h; skip; rotate_left; intro h; skip; rotate_left)) | (apply R.guardNot; assumption; exact rfl; exact rfl; (intro h; skip; rotate_left; intro h; skip; rotate_left)) | (apply R.guardC; assumption; exact rfl; exact rfl; (intro h; skip; rotate_left; intro h; skip; rotate_left))) | (first | (apply C.condT; exact rfl) | (apply C.condF; exact rfl) | (apply C.condDec; exact rfl; (intro h; skip; rotate_left; intro h; skip; rotate_left)) | (apply C.condBeq; exact rfl; (intro h; skip; rotate_left; intro h; skip; rotate_left)) | (apply C.condBne; exact rfl; (intro h; skip; rotate_left; intro h; skip; rotate_left)) | (apply C.condNDec; exact rfl; (intro h; skip; rotate_left; intro h; skip; rotate_left)) | (apply C.condNot; exact rfl; (intro h; skip; rotate_left; intro h; skip; rotate_left)) | (apply C.cond; exact rfl; (intro h; skip; rotate_left; intro h; skip; rotate_left)))))
  (apply R.call; (exact a_evs); exact rfl); exact Last_KP ho hs; rintro _ M _ ⟨rfl, rfl, rfl⟩
  (repeat' (first | (apply R.step; (exact a_ok); exact rfl) | (first | (with_reducible first | apply R.nil | apply C.ret | apply C.block | apply C.skip | apply C.exit | apply Fin.thenRet | apply Fin.thenExit | apply Fin.blockNormal | apply Fin.blockRet | apply Fin.blockExit) | (with_reducible apply Fin.thenK; assumption) | (with_reducible apply C.seqK; intro _ _) | (with_reducible apply C.regionK; intro _ _) | (with_reducible apply Fin.blockOther; exact rfl)) | (first | (apply R.store; exact rfl; exact rfl; exact rfl; (exact a_at); (exact a_blit); exact rfl; (focus (simp [Value.oneCell']; done))) | (apply R.buildSlice0; exact rfl; intro bz) | (apply R.box; exact rfl; (simp only [Value.cells]; rfl); exact rfl; intro bx) | (apply R.alloc; (simp only [Value.cells]; rfl); exact rfl; intro ba) | (apply R.buildSlice; (exact a_prt); exact rfl; exact rfl; (exact a_fills); exact rfl; intro bl)) | (first | (apply R.guardT; assumption; exact rfl; exact rfl; exact rfl) | (apply R.guardF; assumption; exact rfl; exact rfl; exact rfl; exact rfl; exact rfl) | (apply R.guardU; assumption; exact rfl; exact rfl; exact rfl; exact rfl) | (apply R.guardDec; assumption; exact rfl; exact rfl; (intro h; skip; rotate_left; intro h; skip; rotate_left)) | (apply R.guardBeq; assumption; exact rfl; exact rfl; (intro h; skip; rotate_left; intro h; skip; rotate_left)) | (apply R.guardBne; assumption; exact rfl; exact rfl; (intro h; skip; rotate_left; intro h; skip; rotate_left)) | (apply R.guardNDec; assumption; exact rfl; exact rfl; (intro h; skip; rotate_left; intro h; skip; rotate_left)) | (apply R.guardNot; assumption; exact rfl; exact rfl; (intro h; skip; rotate_left; intro h; skip; rotate_left)) | (apply R.guardC; assumption; exact rfl; exact rfl; (intro h; skip; rotate_left; intro h; skip; rotate_left))) | (first | (apply C.condT; exact rfl) | (apply C.condF; exact rfl) | (apply C.condDec; exact rfl; (intro h; skip; rotate_left; intro h; skip; rotate_left)) | (apply C.condBeq; exact rfl; (intro h; skip; rotate_left; intro h; skip; rotate_left)) | (apply C.condBne; exact rfl; (intro h; skip; rotate_left; intro h; skip; rotate_left)) | (apply C.condNDec; exact rfl; (intro h; skip; rotate_left; intro h; skip; rotate_left)) | (apply C.condNot; exact rfl; (intro h; skip; rotate_left; intro h; skip; rotate_left)) | (apply C.cond; exact rfl; (intro h; skip; rotate_left; intro h; skip; rotate_left)))))
  (apply R.call; (exact a_evs); exact rfl); exact Term_KP ho hs hl0; rintro _ M _ ⟨rfl, rfl, rfl⟩
  obtain ⟨t0, ok, hte⟩ : ∃ t0 ok, termS b es (lastS b es) = (t0, ok) := ⟨_, _, rfl⟩
  rw [hte]
  unfold tbV
  dsimp only
  (repeat' (first | (apply R.step; (exact a_ok); exact rfl) | (first | (with_reducible first | apply R.nil | apply C.ret | apply C.block | apply C.skip | apply C.exit | apply Fin.thenRet | apply Fin.thenExit | apply Fin.blockNormal | apply Fin.blockRet | apply Fin.blockExit) | (with_reducible apply Fin.thenK; assumption) | (with_reducible apply C.seqK; intro _ _) | (with_reducible apply C.regionK; intro _ _) | (with_reducible apply Fin.blockOther; exact rfl)) | (first | (apply R.store; exact rfl; exact rfl; exact rfl; (exact a_at); (exact a_blit); exact rfl; (focus (simp [Value.oneCell']; done))) | (apply R.buildSlice0; exact rfl; intro bz) | (apply R.box; exact rfl; (simp only [Value.cells]; rfl); exact rfl; intro bx) | (apply R.alloc; (simp only [Value.cells]; rfl); exact rfl; intro ba) | (apply R.buildSlice; (exact a_prt); exact rfl; exact rfl; (exact a_fills); exact rfl; intro bl)) | (first | (apply R.guardT; assumption; exact rfl; exact rfl; exact rfl) | (apply R.guardF; assumption; exact rfl; exact rfl; exact rfl; exact rfl; exact rfl) | (apply R.guardU; assumption; exact rfl; exact rfl; exact rfl; exact rfl) | (apply R.guardDec; assumption; exact rfl; exact rfl; (intro h; skip; rotate_left; intro h; skip; rotate_left)) | (apply R.guardBeq; assumption; exact rfl; exact rfl; (intro h; skip; rotate_left; intro h; skip; rotate_left)) | (apply R.guardBne; assumption; exact rfl; exact rfl; (intro h; skip; rotate_left; intro h; skip; rotate_left)) | (apply R.guardNDec; assumption; exact rfl; exact rfl; (intro h; skip; rotate_left; intro h; skip; rotate_left)) | (apply R.guardNot; assumption; exact rfl; exact rfl; (intro h; skip; rotate_left; intro h; skip; rotate_left)) | (apply R.guardC; assumption; exact rfl; exact rfl; (intro h; skip; rotate_left; intro h; skip; rotate_left))) | (first | (apply C.condT; exact rfl) | (apply C.condF; exact rfl) | (apply C.condDec; exact rfl; (intro h; skip; rotate_left; intro h; skip; rotate_left)) | (apply C.condBeq; exact rfl; (intro h; skip; rotate_left; intro h; skip; rotate_left)) | (apply C.condBne; exact rfl; (intro h; skip; rotate_left; intro h; skip; rotate_left)) | (apply C.condNDec; exact rfl; (intro h; skip; rotate_left; intro h; skip; rotate_left)) | (apply C.condNot; exact rfl; (intro h; skip; rotate_left; intro h; skip; rotate_left)) | (apply C.cond; exact rfl; (intro h; skip; rotate_left; intro h; skip; rotate_left)))))
  (apply R.call; (exact a_evs); exact rfl); exact Last_KP ho hs; rintro _ M _ ⟨rfl, rfl, rfl⟩
  (repeat' (first | (apply R.step; (exact a_ok); exact rfl) | (first | (with_reducible first | apply R.nil | apply C.ret | apply C.block | apply C.skip | apply C.exit | apply Fin.thenRet | apply Fin.thenExit | apply Fin.blockNormal | apply Fin.blockRet | apply Fin.blockExit) | (with_reducible apply Fin.thenK; assumption) | (with_reducible apply C.seqK; intro _ _) | (with_reducible apply C.regionK; intro _ _) | (with_reducible apply Fin.blockOther; exact rfl)) | (first | (apply R.store; exact rfl; exact rfl; exact rfl; (exact a_at); (exact a_blit); exact rfl; (focus (simp [Value.oneCell']; done))) | (apply R.buildSlice0; exact rfl; intro bz) | (apply R.box; exact rfl; (simp only [Value.cells]; rfl); exact rfl; intro bx) | (apply R.alloc; (simp only [Value.cells]; rfl); exact rfl; intro ba) | (apply R.buildSlice; (exact a_prt); exact rfl; exact rfl; (exact a_fills); exact rfl; intro bl)) | (first | (apply R.guardT; assumption; exact rfl; exact rfl; exact rfl) | (apply R.guardF; assumption; exact rfl; exact rfl; exact rfl; exact rfl; exact rfl) | (apply R.guardU; assumption; exact rfl; exact rfl; exact rfl; exact rfl) | (apply R.guardDec; assumption; exact rfl; exact rfl; (intro h; skip; rotate_left; intro h; skip; rotate_left)) | (apply R.guardBeq; assumption; exact rfl; exact rfl; (intro h; skip; rotate_left; intro h; skip; rotate_left)) | (apply R.guardBne; assumption; exact rfl; exact rfl; (intro h; skip; rotate_left; intro h; skip; rotate_left)) | (apply R.guardNDec; assumption; exact rfl; exact rfl; (intro h; skip; rotate_left; intro h; skip; rotate_left)) | (apply R.guardNot; assumption; exact rfl; exact rfl; (intro h; skip; rotate_left; intro h; skip; rotate_left)) | (apply R.guardC; assumption; exact rfl; exact rfl; (intro h; skip; rotate_left; intro h; skip; rotate_left))) | (first | (apply C.condT; exact rfl) | (apply C.condF; exact rfl) | (apply C.condDec; exact rfl; (intro h; skip; rotate_left; intro h; skip; rotate_left)) | (apply C.condBeq; exact rfl; (intro h; skip; rotate_left; intro h; skip; rotate_left)) | (apply C.condBne; exact rfl; (intro h; skip; rotate_left; intro h; skip; rotate_left)) | (apply C.condNDec; exact rfl; (intro h; skip; rotate_left; intro h; skip; rotate_left)) | (apply C.condNot; exact rfl; (intro h; skip; rotate_left; intro h; skip; rotate_left)) | (apply C.cond; exact rfl; (intro h; skip; rotate_left; intro h; skip; rotate_left)))))
  (apply R.call; (exact a_evs); exact rfl); exact follow_K w3 w4 (by omega); rintro _ M _ ⟨rfl, rfl, rfl⟩
  (repeat' (first | (apply R.step; (exact a_ok); exact rfl) | (first | (with_reducible first | apply R.nil | apply C.ret | apply C.block | apply C.skip | apply C.exit | apply Fin.thenRet | apply Fin.thenExit | apply Fin.blockNormal | apply Fin.blockRet | apply Fin.blockExit) | (with_reducible apply Fin.thenK; assumption) | (with_reducible apply C.seqK; intro _ _) | (with_reducible apply C.regionK; intro _ _) | (with_reducible apply Fin.blockOther; exact rfl)) | (first | (apply R.store; exact rfl; exact rfl; exact rfl; (exact a_at); (exact a_blit); exact rfl; (focus (simp [Value.oneCell']; done))) | (apply R.buildSlice0; exact rfl; intro bz) | (apply R.box; exact rfl; (simp only [Value.cells]; rfl); exact rfl; intro bx) | (apply R.alloc; (simp only [Value.cells]; rfl); exact rfl; intro ba) | (apply R.buildSlice; (exact a_prt); exact rfl; exact rfl; (exact a_fills); exact rfl; intro bl)) | (first | (apply R.guardT; assumption; exact rfl; exact rfl; exact rfl) | (apply R.guardF; assumption; exact rfl; exact rfl; exact rfl; exact rfl; exact rfl) | (apply R.guardU; assumption; exact rfl; exact rfl; exact rfl; exact rfl) | (apply R.guardDec; assumption; exact rfl; exact rfl; (intro h; skip; rotate_left; intro h; skip; rotate_left)) | (apply R.guardBeq; assumption; exact rfl; exact rfl; (intro h; skip; rotate_left; intro h; skip; rotate_left)) | (apply R.guardBne; assumption; exact rfl; exact rfl; (intro h; skip; rotate_left; intro h; skip; rotate_left)) | (apply R.guardNDec; assumption; exact rfl; exact rfl; (intro h; skip; rotate_left; intro h; skip; rotate_left)) | (apply R.guardNot; assumption; exact rfl; exact rfl; (intro h; skip; rotate_left; intro h; skip; rotate_left)) | (apply R.guardC; assumption; exact rfl; exact rfl; (intro h; skip; rotate_left; intro h; skip; rotate_left))) | (first | (apply C.condT; exact rfl) | (apply C.condF; exact rfl) | (apply C.condDec; exact rfl; (intro h; skip; rotate_left; intro h; skip; rotate_left)) | (apply C.condBeq; exact rfl; (intro h; skip; rotate_left; intro h; skip; rotate_left)) | (apply C.condBne; exact rfl; (intro h; skip; rotate_left; intro h; skip; rotate_left)) | (apply C.condNDec; exact rfl; (intro h; skip; rotate_left; intro h; skip; rotate_left)) | (apply C.condNot; exact rfl; (intro h; skip; rotate_left; intro h; skip; rotate_left)) | (apply C.cond; exact rfl; (intro h; skip; rotate_left; intro h; skip; rotate_left)))))
  · have g1 : ¬ followS (lastS b es) t0 fs := by assumption
    (refine Fin.rt ?_)
    exact .inl ⟨by rw [hte]; exact g1, rfl, rfl, rfl⟩
  have g1 : followS (lastS b es) t0 fs := by assumption
  obtain ⟨vs, hot, hpv⟩ := id ho0
  obtain ⟨A9, c9, rfl, _, _⟩ := hot.form
  (apply C.regionE (isA := [0, 1, 2, 3, 4, 5, 6, 7, 8]) (ksA := [true, true, true, true, true, true, true, false, false]) (isB := [9, 10, 11, 12]) (ksB := [true, true, true, false]) (Hs := [(g, lgB b (.slice A9 es.length c9))]); exact Mix.h; (first | exact Arr.all _ | (exact a_arr)); (exact a_np); (exact a_picked); (exact a_picked); kernel_rfl; intro _ e; subst e)
  (repeat' (first | fail | (apply RQ.step; intro _ _ _; (exact a_ok); exact rfl) | (apply RQ.stepT; exact rfl; exact rfl; exact rfl; intro _ _ _; (exact a_ok); exact rfl) | (apply RQ.stepF; exact rfl; exact rfl; exact rfl; exact rfl; exact rfl)))
  (apply RQ.eff; intro Kc hKc ops0)
  (apply R.call; (exact a_evs); exact rfl); exact twins_K hw hf; rintro tv _ _ ⟨xs, hrow2, how2, hxs, e1_, rfl⟩; replace e1_ := e1_.symm; subst e1_
  have hxl : xs.length = fs.length := by rw [← hxs]; simp [owE]
  obtain ⟨A7, c7, rfl, _, _⟩ := how2.1.form
  obtain ⟨len7, one7⟩ := owCells how2.2
  (apply R.nil; apply Fin.kq hKc; exact Mem.le_refl _; (exact a_arr))
  (apply RQ.eff; intro Kc hKc ops0)
  (apply R.appendT; exact rfl; exact rfl; exact hot; (exact a_tk); exact how2.1.rd (by (exact a_tk)); exact len7; exact one7; omega; exact rfl; decide; decide; exact rfl; rintro lv' hrow' hot')
  have ho' : OwnQ M0 lv' (es ++ fs) hrow' (owH xs) := by
    rw [← hxs]
    exact ⟨es, vs, xs, rfl, by rw [List.length_append, show (owE xs).length = xs.length by simp [owE]]; exact hot', hpv, how2.2, rfl⟩
  obtain ⟨A8, c8, rfl, _, _⟩ := hot'.form
  (apply R.nil; apply Fin.kq hKc; exact Mem.le_refl _; (exact a_arr))
  apply RQ.nil
  (repeat' (first | (first | (apply RP.step; intro _ _ _; (exact a_ok); exact rfl) | (apply RP.stepT; exact rfl; exact rfl; exact rfl; intro _ _ _; (exact a_ok); exact rfl) | (apply RP.stepF; exact rfl; exact rfl; exact rfl; exact rfl; exact rfl) | (apply RP.effF; exact rfl; exact rfl; exact rfl; exact rfl; exact rfl)) | (apply RP.callQ; (exact a_evs); exact rfl)))
  (apply RP.eff; intro Kc hKc ops0)
  (first | (apply R.store; exact rfl; exact rfl; exact rfl; (exact a_at); (exact a_blit); exact rfl; (focus (simp [Value.oneCell']; done))) | (apply R.buildSlice0; exact rfl; intro bz) | (apply R.box; exact rfl; (simp only [Value.cells]; rfl); exact rfl; intro bx) | (apply R.alloc; (simp only [Value.cells]; rfl); exact rfl; intro ba) | (apply R.buildSlice; (exact a_prt); exact rfl; exact rfl; (exact a_fills); exact rfl; intro bl))
  (apply R.nil; apply Fin.kp hKc; exact Mem.le_refl _; (exact a_arr))
  (first | apply RP.nil0 | apply RP.nil)
  (repeat' (first | (apply R.step; (exact a_ok); exact rfl) | (first | (with_reducible first | apply R.nil | apply C.ret | apply C.block | apply C.skip | apply C.exit | apply Fin.thenRet | apply Fin.thenExit | apply Fin.blockNormal | apply Fin.blockRet | apply Fin.blockExit) | (with_reducible apply Fin.thenK; assumption) | (with_reducible apply C.seqK; intro _ _) | (with_reducible apply C.regionK; intro _ _) | (with_reducible apply Fin.blockOther; exact rfl)) | (first | (apply R.store; exact rfl; exact rfl; exact rfl; (exact a_at); (exact a_blit); exact rfl; (focus (simp [Value.oneCell']; done))) | (apply R.buildSlice0; exact rfl; intro bz) | (apply R.box; exact rfl; (simp only [Value.cells]; rfl); exact rfl; intro bx) | (apply R.alloc; (simp only [Value.cells]; rfl); exact rfl; intro ba) | (apply R.buildSlice; (exact a_prt); exact rfl; exact rfl; (exact a_fills); exact rfl; intro bl)) | (first | (apply R.guardT; assumption; exact rfl; exact rfl; exact rfl) | (apply R.guardF; assumption; exact rfl; exact rfl; exact rfl; exact rfl; exact rfl) | (apply R.guardU; assumption; exact rfl; exact rfl; exact rfl; exact rfl) | (apply R.guardDec; assumption; exact rfl; exact rfl; (intro h; skip; rotate_left; intro h; skip; rotate_left)) | (apply R.guardBeq; assumption; exact rfl; exact rfl; (intro h; skip; rotate_left; intro h; skip; rotate_left)) | (apply R.guardBne; assumption; exact rfl; exact rfl; (intro h; skip; rotate_left; intro h; skip; rotate_left)) | (apply R.guardNDec; assumption; exact rfl; exact rfl; (intro h; skip; rotate_left; intro h; skip; rotate_left)) | (apply R.guardNot; assumption; exact rfl; exact rfl; (intro h; skip; rotate_left; intro h; skip; rotate_left)) | (apply R.guardC; assumption; exact rfl; exact rfl; (intro h; skip; rotate_left; intro h; skip; rotate_left))) | (first | (apply C.condT; exact rfl) | (apply C.condF; exact rfl) | (apply C.condDec; exact rfl; (intro h; skip; rotate_left; intro h; skip; rotate_left)) | (apply C.condBeq; exact rfl; (intro h; skip; rotate_left; intro h; skip; rotate_left)) | (apply C.condBne; exact rfl; (intro h; skip; rotate_left; intro h; skip; rotate_left)) | (apply C.condNDec; exact rfl; (intro h; skip; rotate_left; intro h; skip; rotate_left)) | (apply C.condNot; exact rfl; (intro h; skip; rotate_left; intro h; skip; rotate_left)) | (apply C.cond; exact rfl; (intro h; skip; rotate_left; intro h; skip; rotate_left)))))
  (apply Fin.returnA (H2 := hrow' ++ (owH xs ++ ((g, lgB b (.slice A8 (es.length + xs.length) c8)) :: H))); assumption; exact .inl rfl; exact rfl; (exact a_res); (simp only [retv]; rfl); (exact a_arr))
  exact .inr ⟨by rw [hte]; exact g1, rfl, _, hrow', owH xs, ho', rfl, rfl⟩
end Go.Sx
