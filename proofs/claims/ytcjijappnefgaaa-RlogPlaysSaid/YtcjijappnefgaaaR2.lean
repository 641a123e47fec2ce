/- Rows of entries; follow; SameEntry, SameEntries. -/
import Derived.Test.YtcjijappnefgaaaR1
namespace Go.Sx
open Go.Proofs Go.RowKit
attribute [local irreducible] C R Fin K Own OwnT Rd Pl Ok KOf RetOk OpsOf RP KP Res NoPanic KV
variable {M M' : Mem} {H : Hp}
def rowE (es : List En) (vs : List Value) : List (List Value) := List.zipWith ecells es vs
theorem rowE_len (es : List En) (vs : List Value) : ∀ c ∈ rowE es vs, c.length = 5 := by
  intro c hc
  obtain ⟨i, hi, rfl⟩ := List.mem_iff_getElem.1 hc
  have h : (rowE es vs)[i] = ecells (es[i]'(by unfold rowE at hi; rw [List.length_zipWith] at hi; omega)) (vs[i]'(by unfold rowE at hi; rw [List.length_zipWith] at hi; omega)) := List.getElem_zipWith
  rw [h]
  rfl
/-- entries in the pool -/
def EnL (M : Mem) (v : Value) (es : List En) : Prop := ∃ A cap vs, v = .slice A es.length cap ∧ es.length ≤ cap ∧ cap ≤ 9223372036854775807 ∧ Pl M A (rowE es vs).flatten ∧ PlV M vs (es.map En.data)
theorem EnL.mono {v : Value} {es : List En} (h : EnL M v es) (hM : M.le M') : EnL M' v es := by
  obtain ⟨A, cap, vs, h1, h2, h3, h4, h5⟩ := h
  exact ⟨A, cap, vs, h1, h2, h3, h4.mono hM, h5.mono hM⟩
theorem rowE_i {es : List En} {vs : List Value} {i : Nat} (hi : i < es.length) (hj : i < vs.length) : (rowE es vs)[i]? = some (ecells es[i] vs[i]) := by
  unfold rowE
  rw [List.getElem?_eq_getElem (by rw [List.length_zipWith]; omega), List.getElem_zipWith]
theorem en_at {A : Option Addr} {es : List En} {vs : List Value} (hp : Pl M A (rowE es vs).flatten) (hv : PlV M vs (es.map En.data)) {i : Nat} (hi : i < es.length) :
    ∃ b o c e fr Ai ci, A = some ⟨b, o, none⟩ ∧ M.at_ b = some (.cells c e fr) ∧ (∀ (q : Nat) u, [.int .i64 es[i].kind, .int .u64 es[i].term, .int .u64 es[i].idx, .slice Ai es[i].data.length ci, .int .i64 es[i].conf][q]? = some u → c[o + i * 5 + q]? = some u) ∧ vs[i]? = some (.slice Ai es[i].data.length ci) ∧ es[i].data.length ≤ ci ∧ ci ≤ 9223372036854775807 ∧ Pl M Ai (es[i].data.map bv) := by
  have hvl : vs.length = es.length := by rw [hv.1, List.length_map]
  have h1 : vs[i]? = some (vs[i]'(by omega)) := List.getElem?_eq_getElem _
  have h2 : (es.map En.data)[i]? = some es[i].data := by rw [List.getElem?_map, List.getElem?_eq_getElem hi]; rfl
  obtain ⟨Ai, ci, k1, k2, k3, k4⟩ := hv.2 i _ _ h1 h2
  have hrow := rowE_i (vs := vs) hi (by omega)
  rw [k1] at hrow h1
  have hcell : ∀ q u, (ecells es[i] (.slice Ai es[i].data.length ci))[q]? = some u → (rowE es vs).flatten[i * 5 + q]? = some u := fun q u hq => flat_get _ (rowE_len es vs) i q _ u hrow hq
  obtain ⟨b, o, c, e, fr, g1, g2, _⟩ := hp.get (hcell 0 _ rfl)
  refine ⟨b, o, c, e, fr, Ai, ci, g1, g2, fun q u hq => ?_, h1, k2, k3, k4⟩
  obtain ⟨b', o', c', e', fr', g1', g2', g3'⟩ := hp.get (hcell q u hq)
  rw [g1] at g1'
  cases g1'
  rw [g2] at g2'
  cases g2'
  rw [Nat.add_assoc]
  exact g3'
def followS : Int → Int → List En → Prop
  | _, _, [] => True
  | i, t, e :: es => entS e ∧ e.idx = (i + 1) % 18446744073709551616 ∧ t ≤ e.term ∧ followS (i + 1) e.term es
noncomputable instance (i t : Int) (es : List En) : Decidable (followS i t es) := Classical.propDecidable _
theorem followS_drop {i t : Int} {es : List En} {k : Nat} (hk : k < es.length) : followS (i + (k : Int)) t (es.drop k) ↔ entS es[k] ∧ es[k].idx = (i + k + 1) % 18446744073709551616 ∧ t ≤ es[k].term ∧ followS (i + ((k + 1 : Nat) : Int)) es[k].term (es.drop (k + 1)) := by
  rw [List.drop_eq_getElem_cons hk]
  have e : ∀ (i t : Int) (x : En) (l : List En), followS i t (x :: l) ↔ entS x ∧ x.idx = (i + 1) % 18446744073709551616 ∧ t ≤ x.term ∧ followS (i + 1) x.term l := fun _ _ _ _ => Iff.rfl
  rw [e]
  rw [show i + ((k + 1 : Nat) : Int) = i + (k : Int) + 1 by omega]
theorem u64w (z : Int) : IntKind.u64.wrap z = z % 18446744073709551616 := rfl
structure FoX where
  k : Nat
  kk : Int
  t : Int
theorem take_same {α : Type} {a b : List α} {i : Nat} (h : a.take i = b.take i) (ha : i < a.length) (hb : i < b.length) (he : a[i] = b[i]) : a.take (i + 1) = b.take (i + 1) := by
  rw [List.take_succ_eq_append_getElem ha, List.take_succ_eq_append_getElem hb, h, he]
theorem follow_K {A : Option Addr} {cap : Nat} {es : List En} {vs : List Value} {i t : Int} (hp : Pl M A (rowE es vs).flatten) (hv : PlV M vs (es.map En.data)) (hl : es.length ≤ 9223372036854775807) : K Try.prog 31 [.int .u64 i, .int .u64 t, .slice A es.length cap] M H fun v M' H' => v = .bool (decide (followS i t es)) ∧ M' = M ∧ H' = H := by
  refine K.enterK Try.func31 rfl rfl rfl ?_
  intro Q hNP hQ
  (repeat' (first | (apply R.step; (exact a_ok); exact rfl) | (first | (with_reducible first | apply R.nil | apply C.ret | apply C.block | apply C.skip | apply C.exit | apply Fin.thenRet | apply Fin.thenExit | apply Fin.blockNormal | apply Fin.blockRet | apply Fin.blockExit) | (with_reducible apply Fin.thenK; assumption) | (with_reducible apply C.seqK; intro _ _) | (with_reducible apply C.regionK; intro _ _) | (with_reducible apply Fin.blockOther; exact rfl)) | (first | (apply R.store; exact rfl; exact rfl; exact rfl; (exact a_at); (exact a_blit); exact rfl; (focus (simp [Value.oneCell']; done))) | (apply R.buildSlice0; exact rfl; intro bz) | (apply R.box; exact rfl; (simp only [Value.cells]; rfl); exact rfl; intro bx) | (apply R.alloc; (simp only [Value.cells]; rfl); exact rfl; intro ba) | (apply R.buildSlice; (exact a_prt); exact rfl; exact rfl; (exact a_fills); exact rfl; intro bl)) | (first | (apply R.guardT; assumption; exact rfl; exact rfl; exact rfl) | (apply R.guardF; assumption; exact rfl; exact rfl; exact rfl; exact rfl; exact rfl) | (apply R.guardU; assumption; exact rfl; exact rfl; exact rfl; exact rfl) | (apply R.guardDec; assumption; exact rfl; exact rfl; (intro h; skip; rotate_left; intro h; skip; rotate_left)) | (apply R.guardBeq; assumption; exact rfl; exact rfl; (intro h; skip; rotate_left; intro h; skip; rotate_left)) | (apply R.guardBne; assumption; exact rfl; exact rfl; (intro h; skip; rotate_left; intro h; skip; rotate_left)) | (apply R.guardNDec; assumption; exact rfl; exact rfl; (intro h; skip; rotate_left; intro h; skip; rotate_left)) | (apply R.guardNot; assumption; exact rfl; exact rfl; (intro h; skip; rotate_left; intro h; skip; rotate_left)) | (apply R.guardC; assumption; exact rfl; exact rfl; (intro h; skip; rotate_left; intro h; skip; rotate_left))) | (first | (apply C.condT; exact rfl) | (apply C.condF; exact rfl) | (apply C.condDec; exact rfl; (intro h; skip; rotate_left; intro h; skip; rotate_left)) | (apply C.condBeq; exact rfl; (intro h; skip; rotate_left; intro h; skip; rotate_left)) | (apply C.condBne; exact rfl; (intro h; skip; rotate_left; intro h; skip; rotate_left)) | (apply C.condNDec; exact rfl; (intro h; skip; rotate_left; intro h; skip; rotate_left)) | (apply C.condNot; exact rfl; (intro h; skip; rotate_left; intro h; skip; rotate_left)) | (apply C.cond; exact rfl; (intro h; skip; rotate_left; intro h; skip; rotate_left)))))
  apply C.loop (fun x : FoX => (x.k : Int) = x.kk ∧ x.k ≤ es.length ∧ (followS i t es ↔ followS (i + (x.k : Int)) x.t (es.drop x.k)))
    (fun x => [(0, .int .u64 i), (1, .int .u64 x.t), (6, .bool false), (9, .slice A es.length cap), (10, .int .i64 (es.length : Int)), (11, .int .i64 x.kk)]) (fun _ => M) (fun _ => H) (fun x => es.length - x.k) ⟨0, 0, t⟩
  · exact ⟨rfl, Nat.zero_le _, by dsimp only; rw [List.drop_zero]; exact iff_of_eq (by congr 1; omega)⟩
  · (exact a_subs)
  · exact rfl
  · exact rfl
  rintro ⟨k, kk, t1⟩ ⟨hkk, hk, hiff⟩
  dsimp only at hkk hk hiff ⊢
  subst hkk
  (repeat' (first | (apply R.step; (exact a_ok); exact rfl) | (first | (with_reducible first | apply R.nil | apply C.ret | apply C.block | apply C.skip | apply C.exit | apply Fin.thenRet | apply Fin.thenExit | apply Fin.blockNormal | apply Fin.blockRet | apply Fin.blockExit) | (with_reducible apply Fin.thenK; assumption) | (with_reducible apply C.seqK; intro _ _) | (with_reducible apply C.regionK; intro _ _) | (with_reducible apply Fin.blockOther; exact rfl)) | (first | (apply R.store; exact rfl; exact rfl; exact rfl; (exact a_at); (exact a_blit); exact rfl; (focus (simp [Value.oneCell']; done))) | (apply R.buildSlice0; exact rfl; intro bz) | (apply R.box; exact rfl; (simp only [Value.cells]; rfl); exact rfl; intro bx) | (apply R.alloc; (simp only [Value.cells]; rfl); exact rfl; intro ba) | (apply R.buildSlice; (exact a_prt); exact rfl; exact rfl; (exact a_fills); exact rfl; intro bl)) | (first | (apply R.guardT; assumption; exact rfl; exact rfl; exact rfl) | (apply R.guardF; assumption; exact rfl; exact rfl; exact rfl; exact rfl; exact rfl) | (apply R.guardU; assumption; exact rfl; exact rfl; exact rfl; exact rfl) | (apply R.guardDec; assumption; exact rfl; exact rfl; (intro h; skip; rotate_left; intro h; skip; rotate_left)) | (apply R.guardBeq; assumption; exact rfl; exact rfl; (intro h; skip; rotate_left; intro h; skip; rotate_left)) | (apply R.guardBne; assumption; exact rfl; exact rfl; (intro h; skip; rotate_left; intro h; skip; rotate_left)) | (apply R.guardNDec; assumption; exact rfl; exact rfl; (intro h; skip; rotate_left; intro h; skip; rotate_left)) | (apply R.guardNot; assumption; exact rfl; exact rfl; (intro h; skip; rotate_left; intro h; skip; rotate_left)) | (apply R.guardC; assumption; exact rfl; exact rfl; (intro h; skip; rotate_left; intro h; skip; rotate_left))) | (first | (apply C.condT; exact rfl) | (apply C.condF; exact rfl) | (apply C.condDec; exact rfl; (intro h; skip; rotate_left; intro h; skip; rotate_left)) | (apply C.condBeq; exact rfl; (intro h; skip; rotate_left; intro h; skip; rotate_left)) | (apply C.condBne; exact rfl; (intro h; skip; rotate_left; intro h; skip; rotate_left)) | (apply C.condNDec; exact rfl; (intro h; skip; rotate_left; intro h; skip; rotate_left)) | (apply C.condNot; exact rfl; (intro h; skip; rotate_left; intro h; skip; rotate_left)) | (apply C.cond; exact rfl; (intro h; skip; rotate_left; intro h; skip; rotate_left)))))
  · have hlt : (k : Int) < (es.length : Int) := by assumption
    have hka : k < es.length := by omega
    obtain ⟨b, o, c, e, fr, Ai, ci, rfl, hMb, hcell, _, _, _, _⟩ := en_at hp hv hka
    rw [followS_drop hka] at hiff
    have hw : IntKind.u64.wrap (IntKind.u64.wrap (i + (k : Int)) + 1) = (i + k + 1) % 18446744073709551616 := by rw [u64w, u64w]; omega
    rw [← hw] at hiff
    generalize es[k] = x at hcell hiff
    (repeat' (first | (apply R.step; (apply Ok.move; exact rfl); exact rfl) | (apply R.step; (apply Ok.add (k := .u64); exact rfl; exact rfl); exact rfl) | (apply R.call; (exact a_evs); exact rfl; (first | exact rentry_K); rintro _ _ _ ⟨rfl, e1_, e2_⟩; replace e1_ := e1_.symm; subst e1_; replace e2_ := e2_.symm; subst e2_) | (apply R.step; (exact a_ok); exact rfl) | (first | (with_reducible first | apply R.nil | apply C.ret | apply C.block | apply C.skip | apply C.exit | apply Fin.thenRet | apply Fin.thenExit | apply Fin.blockNormal | apply Fin.blockRet | apply Fin.blockExit) | (with_reducible apply Fin.thenK; assumption) | (with_reducible apply C.seqK; intro _ _) | (with_reducible apply C.regionK; intro _ _) | (with_reducible apply Fin.blockOther; exact rfl)) | (first | (apply R.store; exact rfl; exact rfl; exact rfl; (exact a_at); (exact a_blit); exact rfl; (focus (simp [Value.oneCell']; done))) | (apply R.buildSlice0; exact rfl; intro bz) | (apply R.box; exact rfl; (simp only [Value.cells]; rfl); exact rfl; intro bx) | (apply R.alloc; (simp only [Value.cells]; rfl); exact rfl; intro ba) | (apply R.buildSlice; (exact a_prt); exact rfl; exact rfl; (exact a_fills); exact rfl; intro bl)) | (first | (apply R.guardT; assumption; exact rfl; exact rfl; exact rfl) | (apply R.guardF; assumption; exact rfl; exact rfl; exact rfl; exact rfl; exact rfl) | (apply R.guardU; assumption; exact rfl; exact rfl; exact rfl; exact rfl) | (apply R.guardDec; assumption; exact rfl; exact rfl; (intro h; skip; rotate_left; intro h; skip; rotate_left)) | (apply R.guardBeq; assumption; exact rfl; exact rfl; (intro h; skip; rotate_left; intro h; skip; rotate_left)) | (apply R.guardBne; assumption; exact rfl; exact rfl; (intro h; skip; rotate_left; intro h; skip; rotate_left)) | (apply R.guardNDec; assumption; exact rfl; exact rfl; (intro h; skip; rotate_left; intro h; skip; rotate_left)) | (apply R.guardNot; assumption; exact rfl; exact rfl; (intro h; skip; rotate_left; intro h; skip; rotate_left)) | (apply R.guardC; assumption; exact rfl; exact rfl; (intro h; skip; rotate_left; intro h; skip; rotate_left))) | (first | (apply C.condT; exact rfl) | (apply C.condF; exact rfl) | (apply C.condDec; exact rfl; (intro h; skip; rotate_left; intro h; skip; rotate_left)) | (apply C.condBeq; exact rfl; (intro h; skip; rotate_left; intro h; skip; rotate_left)) | (apply C.condBne; exact rfl; (intro h; skip; rotate_left; intro h; skip; rotate_left)) | (apply C.condNDec; exact rfl; (intro h; skip; rotate_left; intro h; skip; rotate_left)) | (apply C.condNot; exact rfl; (intro h; skip; rotate_left; intro h; skip; rotate_left)) | (apply C.cond; exact rfl; (intro h; skip; rotate_left; intro h; skip; rotate_left)))))
    all_goals first
      | ((apply Fin.returnA (H2 := H); assumption; exact .inl rfl; exact rfl; (exact a_res); (simp only [retv]; rfl); (exact a_arr)); (refine ⟨?_, rfl, rfl⟩; (first | apply bo_t | apply bo_f | apply bo_)); rw [hiff]; rintro ⟨h1, h2, h3, _⟩; first | contradiction | omega)
      | skip
    have h1 : entS x := by assumption
    have h2 : x.idx = IntKind.u64.wrap (IntKind.u64.wrap (i + (k : Int)) + 1) := by assumption
    have h3 : ¬ x.term < t1 := by assumption
    apply Fin.drop
    refine Fin.again (⟨k + 1, (k : Int) + 1, x.term⟩ : FoX) ⟨by dsimp only; omega, by dsimp only; omega, ?_⟩ (by dsimp only; omega) ?_ rfl rfl
    · dsimp only
      rw [hiff]
      exact ⟨fun h => h.2.2.2, fun h => ⟨h1, h2, by omega, h⟩⟩
    dsimp only
    (exact a_subs)
  · have hge : ¬ (k : Int) < (es.length : Int) := by assumption
    (refine Fin.rt ?_)
    rw [List.drop_of_length_le (by omega)] at hiff
    exact ⟨by rw [decide_eq_true (hiff.2 trivial)], rfl, rfl⟩
theorem rfollow_K {A : Option Addr} {cap : Nat} {es : List En} {vs : List Value} {i t : Int} (hp : Pl M A (rowE es vs).flatten) (hv : PlV M vs (es.map En.data)) (hl : es.length ≤ 9223372036854775807) : K Try.prog 39 [.int .u64 i, .int .u64 t, .slice A es.length cap] M H fun v M' H' => v = .bool (decide (followS i t es)) ∧ M' = M ∧ H' = H := by
  refine K.enterK Try.func39 rfl rfl rfl ?_
  intro Q hNP hQ
  (repeat' (first | (apply R.step; (exact a_ok); exact rfl) | (first | (with_reducible first | apply R.nil | apply C.ret | apply C.block | apply C.skip | apply C.exit | apply Fin.thenRet | apply Fin.thenExit | apply Fin.blockNormal | apply Fin.blockRet | apply Fin.blockExit) | (with_reducible apply Fin.thenK; assumption) | (with_reducible apply C.seqK; intro _ _) | (with_reducible apply C.regionK; intro _ _) | (with_reducible apply Fin.blockOther; exact rfl)) | (first | (apply R.store; exact rfl; exact rfl; exact rfl; (exact a_at); (exact a_blit); exact rfl; (focus (simp [Value.oneCell']; done))) | (apply R.buildSlice0; exact rfl; intro bz) | (apply R.box; exact rfl; (simp only [Value.cells]; rfl); exact rfl; intro bx) | (apply R.alloc; (simp only [Value.cells]; rfl); exact rfl; intro ba) | (apply R.buildSlice; (exact a_prt); exact rfl; exact rfl; (exact a_fills); exact rfl; intro bl)) | (first | (apply R.guardT; assumption; exact rfl; exact rfl; exact rfl) | (apply R.guardF; assumption; exact rfl; exact rfl; exact rfl; exact rfl; exact rfl) | (apply R.guardU; assumption; exact rfl; exact rfl; exact rfl; exact rfl) | (apply R.guardDec; assumption; exact rfl; exact rfl; (intro h; skip; rotate_left; intro h; skip; rotate_left)) | (apply R.guardBeq; assumption; exact rfl; exact rfl; (intro h; skip; rotate_left; intro h; skip; rotate_left)) | (apply R.guardBne; assumption; exact rfl; exact rfl; (intro h; skip; rotate_left; intro h; skip; rotate_left)) | (apply R.guardNDec; assumption; exact rfl; exact rfl; (intro h; skip; rotate_left; intro h; skip; rotate_left)) | (apply R.guardNot; assumption; exact rfl; exact rfl; (intro h; skip; rotate_left; intro h; skip; rotate_left)) | (apply R.guardC; assumption; exact rfl; exact rfl; (intro h; skip; rotate_left; intro h; skip; rotate_left))) | (first | (apply C.condT; exact rfl) | (apply C.condF; exact rfl) | (apply C.condDec; exact rfl; (intro h; skip; rotate_left; intro h; skip; rotate_left)) | (apply C.condBeq; exact rfl; (intro h; skip; rotate_left; intro h; skip; rotate_left)) | (apply C.condBne; exact rfl; (intro h; skip; rotate_left; intro h; skip; rotate_left)) | (apply C.condNDec; exact rfl; (intro h; skip; rotate_left; intro h; skip; rotate_left)) | (apply C.condNot; exact rfl; (intro h; skip; rotate_left; intro h; skip; rotate_left)) | (apply C.cond; exact rfl; (intro h; skip; rotate_left; intro h; skip; rotate_left)))))
  apply C.loop (fun x : FoX => (x.k : Int) = x.kk ∧ x.k ≤ es.length ∧ (followS i t es ↔ followS (i + (x.k : Int)) x.t (es.drop x.k)))
    (fun x => [(0, .int .u64 i), (1, .int .u64 x.t), (2, .slice A es.length cap), (6, .bool false), (7, .int .i64 x.kk)]) (fun _ => M) (fun _ => H) (fun x => es.length - x.k) ⟨0, 0, t⟩
  · exact ⟨rfl, Nat.zero_le _, by dsimp only; rw [List.drop_zero]; exact iff_of_eq (by congr 1; omega)⟩
  · (exact a_subs)
  · exact rfl
  · exact rfl
  rintro ⟨k, kk, t1⟩ ⟨hkk, hk, hiff⟩
  dsimp only at hkk hk hiff ⊢
  subst hkk
  (repeat' (first | (apply R.step; (exact a_ok); exact rfl) | (first | (with_reducible first | apply R.nil | apply C.ret | apply C.block | apply C.skip | apply C.exit | apply Fin.thenRet | apply Fin.thenExit | apply Fin.blockNormal | apply Fin.blockRet | apply Fin.blockExit) | (with_reducible apply Fin.thenK; assumption) | (with_reducible apply C.seqK; intro _ _) | (with_reducible apply C.regionK; intro _ _) | (with_reducible apply Fin.blockOther; exact rfl)) | (first | (apply R.store; exact rfl; exact rfl; exact rfl; (exact a_at); (exact a_blit); exact rfl; (focus (simp [Value.oneCell']; done))) | (apply R.buildSlice0; exact rfl; intro bz) | (apply R.box; exact rfl; (simp only [Value.cells]; rfl); exact rfl; intro bx) | (apply R.alloc; (simp only [Value.cells]; rfl); exact rfl; intro ba) | (apply R.buildSlice; (exact a_prt); exact rfl; exact rfl; (exact a_fills); exact rfl; intro bl)) | (first | (apply R.guardT; assumption; exact rfl; exact rfl; exact rfl) | (apply R.guardF; assumption; exact rfl; exact rfl; exact rfl; exact rfl; exact rfl) | (apply R.guardU; assumption; exact rfl; exact rfl; exact rfl; exact rfl) | (apply R.guardDec; assumption; exact rfl; exact rfl; (intro h; skip; rotate_left; intro h; skip; rotate_left)) | (apply R.guardBeq; assumption; exact rfl; exact rfl; (intro h; skip; rotate_left; intro h; skip; rotate_left)) | (apply R.guardBne; assumption; exact rfl; exact rfl; (intro h; skip; rotate_left; intro h; skip; rotate_left)) | (apply R.guardNDec; assumption; exact rfl; exact rfl; (intro h; skip; rotate_left; intro h; skip; rotate_left)) | (apply R.guardNot; assumption; exact rfl; exact rfl; (intro h; skip; rotate_left; intro h; skip; rotate_left)) | (apply R.guardC; assumption; exact rfl; exact rfl; (intro h; skip; rotate_left; intro h; skip; rotate_left))) | (first | (apply C.condT; exact rfl) | (apply C.condF; exact rfl) | (apply C.condDec; exact rfl; (intro h; skip; rotate_left; intro h; skip; rotate_left)) | (apply C.condBeq; exact rfl; (intro h; skip; rotate_left; intro h; skip; rotate_left)) | (apply C.condBne; exact rfl; (intro h; skip; rotate_left; intro h; skip; rotate_left)) | (apply C.condNDec; exact rfl; (intro h; skip; rotate_left; intro h; skip; rotate_left)) | (apply C.condNot; exact rfl; (intro h; skip; rotate_left; intro h; skip; rotate_left)) | (apply C.cond; exact rfl; (intro h; skip; rotate_left; intro h; skip; rotate_left)))))
  · have hlt : (k : Int) < (es.length : Int) := by assumption
    have hka : k < es.length := by omega
    obtain ⟨b, o, c, e, fr, Ai, ci, rfl, hMb, hcell, _, _, _, _⟩ := en_at hp hv hka
    rw [followS_drop hka] at hiff
    have hw : IntKind.u64.wrap (IntKind.u64.wrap (i + 1) + (k : Int)) = (i + k + 1) % 18446744073709551616 := by rw [u64w, u64w]; omega
    rw [← hw] at hiff
    generalize es[k] = x at hcell hiff
    have c1 := hcell 1 _ rfl
    have c2 := hcell 2 _ rfl
    (repeat' (first | (apply R.step; (apply Ok.move; exact rfl); exact rfl) | (apply R.step; (apply Ok.add (k := .u64); exact rfl; exact rfl); exact rfl) | (apply R.call; (exact a_evs); exact rfl; (first | exact r5entry_K); rintro _ _ _ ⟨rfl, e1_, e2_⟩; replace e1_ := e1_.symm; subst e1_; replace e2_ := e2_.symm; subst e2_) | (apply R.step; (exact a_ok); exact rfl) | (first | (with_reducible first | apply R.nil | apply C.ret | apply C.block | apply C.skip | apply C.exit | apply Fin.thenRet | apply Fin.thenExit | apply Fin.blockNormal | apply Fin.blockRet | apply Fin.blockExit) | (with_reducible apply Fin.thenK; assumption) | (with_reducible apply C.seqK; intro _ _) | (with_reducible apply C.regionK; intro _ _) | (with_reducible apply Fin.blockOther; exact rfl)) | (first | (apply R.store; exact rfl; exact rfl; exact rfl; (exact a_at); (exact a_blit); exact rfl; (focus (simp [Value.oneCell']; done))) | (apply R.buildSlice0; exact rfl; intro bz) | (apply R.box; exact rfl; (simp only [Value.cells]; rfl); exact rfl; intro bx) | (apply R.alloc; (simp only [Value.cells]; rfl); exact rfl; intro ba) | (apply R.buildSlice; (exact a_prt); exact rfl; exact rfl; (exact a_fills); exact rfl; intro bl)) | (first | (apply R.guardT; assumption; exact rfl; exact rfl; exact rfl) | (apply R.guardF; assumption; exact rfl; exact rfl; exact rfl; exact rfl; exact rfl) | (apply R.guardU; assumption; exact rfl; exact rfl; exact rfl; exact rfl) | (apply R.guardDec; assumption; exact rfl; exact rfl; (intro h; skip; rotate_left; intro h; skip; rotate_left)) | (apply R.guardBeq; assumption; exact rfl; exact rfl; (intro h; skip; rotate_left; intro h; skip; rotate_left)) | (apply R.guardBne; assumption; exact rfl; exact rfl; (intro h; skip; rotate_left; intro h; skip; rotate_left)) | (apply R.guardNDec; assumption; exact rfl; exact rfl; (intro h; skip; rotate_left; intro h; skip; rotate_left)) | (apply R.guardNot; assumption; exact rfl; exact rfl; (intro h; skip; rotate_left; intro h; skip; rotate_left)) | (apply R.guardC; assumption; exact rfl; exact rfl; (intro h; skip; rotate_left; intro h; skip; rotate_left))) | (first | (apply C.condT; exact rfl) | (apply C.condF; exact rfl) | (apply C.condDec; exact rfl; (intro h; skip; rotate_left; intro h; skip; rotate_left)) | (apply C.condBeq; exact rfl; (intro h; skip; rotate_left; intro h; skip; rotate_left)) | (apply C.condBne; exact rfl; (intro h; skip; rotate_left; intro h; skip; rotate_left)) | (apply C.condNDec; exact rfl; (intro h; skip; rotate_left; intro h; skip; rotate_left)) | (apply C.condNot; exact rfl; (intro h; skip; rotate_left; intro h; skip; rotate_left)) | (apply C.cond; exact rfl; (intro h; skip; rotate_left; intro h; skip; rotate_left)))))
    all_goals first
      | ((refine Fin.rt ?_); (refine ⟨?_, rfl, rfl⟩; (first | apply bo_t | apply bo_f | apply bo_)); rw [hiff]; rintro ⟨h1, h2, h3, _⟩; first | contradiction | omega)
      | skip
    have h1 : entS x := by assumption
    have h2 : x.idx = IntKind.u64.wrap (IntKind.u64.wrap (i + 1) + (k : Int)) := by assumption
    have h3 : ¬ x.term < t1 := by assumption
    refine Fin.again (⟨k + 1, (k : Int) + 1, x.term⟩ : FoX) ⟨by dsimp only; omega, by dsimp only; omega, ?_⟩ (by dsimp only; omega) ?_ rfl rfl
    · dsimp only
      rw [hiff]
      exact ⟨fun h => h.2.2.2, fun h => ⟨h1, h2, by omega, h⟩⟩
    dsimp only
    (exact a_subs)
  · have hge : ¬ (k : Int) < (es.length : Int) := by assumption
    (refine Fin.rt ?_)
    rw [List.drop_of_length_le (by omega)] at hiff
    exact ⟨by rw [decide_eq_true (hiff.2 trivial)], rfl, rfl⟩
theorem en_iff {e f : En} : e = f ↔ e.kind = f.kind ∧ e.term = f.term ∧ e.idx = f.idx ∧ e.data = f.data ∧ e.conf = f.conf := by
  cases e; cases f; simp
instance {a b : List UInt8} : BoolP (decide (a = b)) (a = b) := ⟨decide_eq_true_iff⟩
theorem sentry_K {e f : En} {A B : Option Addr} {ca cb : Nat} (ha : Pl M A (e.data.map bv)) (hb : Pl M B (f.data.map bv)) : K Try.prog 36 [eV e (.slice A e.data.length ca), eV f (.slice B f.data.length cb)] M H fun v M' H' => v = .bool (decide (e = f)) ∧ M' = M ∧ H' = H := by
  refine K.enterK Try.func36 rfl rfl rfl ?_
  intro Q hNP hQ
  (repeat' (first | (apply R.step; (apply Ok.move; exact rfl); exact rfl) | (apply R.step; (first | (apply Ok.toStr; exact rfl; exact ha.rd) | (apply Ok.toStr; exact rfl; exact hb.rd)); exact rfl) | (apply R.step; (exact a_ok); exact rfl) | (first | (with_reducible first | apply R.nil | apply C.ret | apply C.block | apply C.skip | apply C.exit | apply Fin.thenRet | apply Fin.thenExit | apply Fin.blockNormal | apply Fin.blockRet | apply Fin.blockExit) | (with_reducible apply Fin.thenK; assumption) | (with_reducible apply C.seqK; intro _ _) | (with_reducible apply C.regionK; intro _ _) | (with_reducible apply Fin.blockOther; exact rfl)) | (first | (apply R.store; exact rfl; exact rfl; exact rfl; (exact a_at); (exact a_blit); exact rfl; (focus (simp [Value.oneCell']; done))) | (apply R.buildSlice0; exact rfl; intro bz) | (apply R.box; exact rfl; (simp only [Value.cells]; rfl); exact rfl; intro bx) | (apply R.alloc; (simp only [Value.cells]; rfl); exact rfl; intro ba) | (apply R.buildSlice; (exact a_prt); exact rfl; exact rfl; (exact a_fills); exact rfl; intro bl)) | (first | (apply R.guardT; assumption; exact rfl; exact rfl; exact rfl) | (apply R.guardF; assumption; exact rfl; exact rfl; exact rfl; exact rfl; exact rfl) | (apply R.guardU; assumption; exact rfl; exact rfl; exact rfl; exact rfl) | (apply R.guardDec; assumption; exact rfl; exact rfl; (intro h; skip; rotate_left; intro h; skip; rotate_left)) | (apply R.guardBeq; assumption; exact rfl; exact rfl; (intro h; skip; rotate_left; intro h; skip; rotate_left)) | (apply R.guardBne; assumption; exact rfl; exact rfl; (intro h; skip; rotate_left; intro h; skip; rotate_left)) | (apply R.guardNDec; assumption; exact rfl; exact rfl; (intro h; skip; rotate_left; intro h; skip; rotate_left)) | (apply R.guardNot; assumption; exact rfl; exact rfl; (intro h; skip; rotate_left; intro h; skip; rotate_left)) | (apply R.guardC; assumption; exact rfl; exact rfl; (intro h; skip; rotate_left; intro h; skip; rotate_left))) | (first | (apply C.condT; exact rfl) | (apply C.condF; exact rfl) | (apply C.condDec; exact rfl; (intro h; skip; rotate_left; intro h; skip; rotate_left)) | (apply C.condBeq; exact rfl; (intro h; skip; rotate_left; intro h; skip; rotate_left)) | (apply C.condBne; exact rfl; (intro h; skip; rotate_left; intro h; skip; rotate_left)) | (apply C.condNDec; exact rfl; (intro h; skip; rotate_left; intro h; skip; rotate_left)) | (apply C.condNot; exact rfl; (intro h; skip; rotate_left; intro h; skip; rotate_left)) | (apply C.cond; exact rfl; (intro h; skip; rotate_left; intro h; skip; rotate_left)))))
  all_goals (apply Fin.returnA (H2 := H); assumption; exact .inl rfl; exact rfl; (exact a_res); (simp only [retv]; rfl); (exact a_arr))
  all_goals (refine ⟨?_, rfl, rfl⟩; (first | apply bo_t | apply bo_f | apply bo_))
  all_goals rw [en_iff]
  all_goals first
    | (intro h; obtain ⟨h1, h2, h3, h4, h5⟩ := h; contradiction)
    | (constructor <;> intro h; (exact ⟨by assumption, by assumption, by assumption, by assumption, h⟩); exact h.2.2.2.2)
theorem sents_K {va vb : Value} {la lb : List En} (ha : EnL M va la) (hb : EnL M vb lb) : K Try.prog 15 [va, vb] M H fun v M' H' => v = .bool (decide (la = lb)) ∧ M' = M ∧ H' = H := by
  obtain ⟨A, capA, vsA, rfl, a1, a2, a3, a4⟩ := ha
  obtain ⟨B, capB, vsB, rfl, b1, b2, b3, b4⟩ := hb
  refine K.enterK Try.func15 rfl rfl rfl ?_
  intro Q hNP hQ
  (repeat' (first | (apply R.step; (exact a_ok); exact rfl) | (first | (with_reducible first | apply R.nil | apply C.ret | apply C.block | apply C.skip | apply C.exit | apply Fin.thenRet | apply Fin.thenExit | apply Fin.blockNormal | apply Fin.blockRet | apply Fin.blockExit) | (with_reducible apply Fin.thenK; assumption) | (with_reducible apply C.seqK; intro _ _) | (with_reducible apply C.regionK; intro _ _) | (with_reducible apply Fin.blockOther; exact rfl)) | (first | (apply R.store; exact rfl; exact rfl; exact rfl; (exact a_at); (exact a_blit); exact rfl; (focus (simp [Value.oneCell']; done))) | (apply R.buildSlice0; exact rfl; intro bz) | (apply R.box; exact rfl; (simp only [Value.cells]; rfl); exact rfl; intro bx) | (apply R.alloc; (simp only [Value.cells]; rfl); exact rfl; intro ba) | (apply R.buildSlice; (exact a_prt); exact rfl; exact rfl; (exact a_fills); exact rfl; intro bl)) | (first | (apply R.guardT; assumption; exact rfl; exact rfl; exact rfl) | (apply R.guardF; assumption; exact rfl; exact rfl; exact rfl; exact rfl; exact rfl) | (apply R.guardU; assumption; exact rfl; exact rfl; exact rfl; exact rfl) | (apply R.guardDec; assumption; exact rfl; exact rfl; (intro h; skip; rotate_left; intro h; skip; rotate_left)) | (apply R.guardBeq; assumption; exact rfl; exact rfl; (intro h; skip; rotate_left; intro h; skip; rotate_left)) | (apply R.guardBne; assumption; exact rfl; exact rfl; (intro h; skip; rotate_left; intro h; skip; rotate_left)) | (apply R.guardNDec; assumption; exact rfl; exact rfl; (intro h; skip; rotate_left; intro h; skip; rotate_left)) | (apply R.guardNot; assumption; exact rfl; exact rfl; (intro h; skip; rotate_left; intro h; skip; rotate_left)) | (apply R.guardC; assumption; exact rfl; exact rfl; (intro h; skip; rotate_left; intro h; skip; rotate_left))) | (first | (apply C.condT; exact rfl) | (apply C.condF; exact rfl) | (apply C.condDec; exact rfl; (intro h; skip; rotate_left; intro h; skip; rotate_left)) | (apply C.condBeq; exact rfl; (intro h; skip; rotate_left; intro h; skip; rotate_left)) | (apply C.condBne; exact rfl; (intro h; skip; rotate_left; intro h; skip; rotate_left)) | (apply C.condNDec; exact rfl; (intro h; skip; rotate_left; intro h; skip; rotate_left)) | (apply C.condNot; exact rfl; (intro h; skip; rotate_left; intro h; skip; rotate_left)) | (apply C.cond; exact rfl; (intro h; skip; rotate_left; intro h; skip; rotate_left)))))
  · have h1 : (la.length : Int) ≠ lb.length := by assumption
    (refine Fin.rt ?_)
    exact ⟨by rw [decide_eq_false]; intro e; subst e; exact h1 rfl, rfl, rfl⟩
  have h1 : (la.length : Int) = lb.length := by assumption
  apply C.loop (fun x : FoX => (x.k : Int) = x.kk ∧ x.k ≤ la.length ∧ la.take x.k = lb.take x.k) (fun x => [(0, .slice A la.length capA), (1, .slice B lb.length capB), (5, .int .i64 x.kk)]) (fun _ => M) (fun _ => H) (fun x => la.length - x.k) ⟨0, 0, 0⟩
  · exact ⟨rfl, Nat.zero_le _, rfl⟩
  · (exact a_subs)
  · exact rfl
  · exact rfl
  rintro ⟨i, ii, _⟩ ⟨hii, hi, htk⟩
  dsimp only at hii hi htk ⊢
  subst hii
  (repeat' (first | (apply R.step; (exact a_ok); exact rfl) | (first | (with_reducible first | apply R.nil | apply C.ret | apply C.block | apply C.skip | apply C.exit | apply Fin.thenRet | apply Fin.thenExit | apply Fin.blockNormal | apply Fin.blockRet | apply Fin.blockExit) | (with_reducible apply Fin.thenK; assumption) | (with_reducible apply C.seqK; intro _ _) | (with_reducible apply C.regionK; intro _ _) | (with_reducible apply Fin.blockOther; exact rfl)) | (first | (apply R.store; exact rfl; exact rfl; exact rfl; (exact a_at); (exact a_blit); exact rfl; (focus (simp [Value.oneCell']; done))) | (apply R.buildSlice0; exact rfl; intro bz) | (apply R.box; exact rfl; (simp only [Value.cells]; rfl); exact rfl; intro bx) | (apply R.alloc; (simp only [Value.cells]; rfl); exact rfl; intro ba) | (apply R.buildSlice; (exact a_prt); exact rfl; exact rfl; (exact a_fills); exact rfl; intro bl)) | (first | (apply R.guardT; assumption; exact rfl; exact rfl; exact rfl) | (apply R.guardF; assumption; exact rfl; exact rfl; exact rfl; exact rfl; exact rfl) | (apply R.guardU; assumption; exact rfl; exact rfl; exact rfl; exact rfl) | (apply R.guardDec; assumption; exact rfl; exact rfl; (intro h; skip; rotate_left; intro h; skip; rotate_left)) | (apply R.guardBeq; assumption; exact rfl; exact rfl; (intro h; skip; rotate_left; intro h; skip; rotate_left)) | (apply R.guardBne; assumption; exact rfl; exact rfl; (intro h; skip; rotate_left; intro h; skip; rotate_left)) | (apply R.guardNDec; assumption; exact rfl; exact rfl; (intro h; skip; rotate_left; intro h; skip; rotate_left)) | (apply R.guardNot; assumption; exact rfl; exact rfl; (intro h; skip; rotate_left; intro h; skip; rotate_left)) | (apply R.guardC; assumption; exact rfl; exact rfl; (intro h; skip; rotate_left; intro h; skip; rotate_left))) | (first | (apply C.condT; exact rfl) | (apply C.condF; exact rfl) | (apply C.condDec; exact rfl; (intro h; skip; rotate_left; intro h; skip; rotate_left)) | (apply C.condBeq; exact rfl; (intro h; skip; rotate_left; intro h; skip; rotate_left)) | (apply C.condBne; exact rfl; (intro h; skip; rotate_left; intro h; skip; rotate_left)) | (apply C.condNDec; exact rfl; (intro h; skip; rotate_left; intro h; skip; rotate_left)) | (apply C.condNot; exact rfl; (intro h; skip; rotate_left; intro h; skip; rotate_left)) | (apply C.cond; exact rfl; (intro h; skip; rotate_left; intro h; skip; rotate_left)))))
  · have h2 : (i : Int) < (la.length : Int) := by assumption
    have hia : i < la.length := by omega
    have hib : i < lb.length := by omega
    obtain ⟨ba, oa, ca, ea, fa, Ai, ci, rfl, hMa, hca, _, _, _, hpa⟩ := en_at a3 a4 hia
    obtain ⟨bb, ob, cb, eb, fb, Bi, di, rfl, hMb, hcb, _, _, _, hpb⟩ := en_at b3 b4 hib
    (apply C.regionO (ks := [true, true, true, true, true, true, true, true, false, true]) (is := [0, 1, 2, 3, 4, 5, 6, 7, 8, 9]) (Hs := []); exact Mix.h; (first | exact Arr.all _ | (exact a_arr)); (exact a_np); (exact a_picked); kernel_rfl; intro _ e; subst e)
    (repeat' (first | (first | (apply RP.step; intro _ _ _; (exact a_ok); exact rfl) | (apply RP.stepT; exact rfl; exact rfl; exact rfl; intro _ _ _; (exact a_ok); exact rfl) | (apply RP.stepF; exact rfl; exact rfl; exact rfl; exact rfl; exact rfl) | (apply RP.effF; exact rfl; exact rfl; exact rfl; exact rfl; exact rfl)) | (apply RP.callQ; (exact a_evs); exact rfl)))
    (apply RP.eff; intro Kc hKc ops0)
    (apply R.call; (exact a_evs); exact rfl); exact sentry_K hpa hpb; rintro _ M H' ⟨rfl, rfl, rfl⟩
    (apply R.nil; apply Fin.kp hKc; exact Mem.le_refl _; exact Arr.all _)
    (repeat' (first | (first | (apply RP.step; intro _ _ _; (exact a_ok); exact rfl) | (apply RP.stepT; exact rfl; exact rfl; exact rfl; intro _ _ _; (exact a_ok); exact rfl) | (apply RP.stepF; exact rfl; exact rfl; exact rfl; exact rfl; exact rfl) | (apply RP.effF; exact rfl; exact rfl; exact rfl; exact rfl; exact rfl)) | (apply RP.callQ; (exact a_evs); exact rfl)))
    apply RP.nil
    (repeat' (first | (apply R.step; (exact a_ok); exact rfl) | (first | (with_reducible first | apply R.nil | apply C.ret | apply C.block | apply C.skip | apply C.exit | apply Fin.thenRet | apply Fin.thenExit | apply Fin.blockNormal | apply Fin.blockRet | apply Fin.blockExit) | (with_reducible apply Fin.thenK; assumption) | (with_reducible apply C.seqK; intro _ _) | (with_reducible apply C.regionK; intro _ _) | (with_reducible apply Fin.blockOther; exact rfl)) | (first | (apply R.store; exact rfl; exact rfl; exact rfl; (exact a_at); (exact a_blit); exact rfl; (focus (simp [Value.oneCell']; done))) | (apply R.buildSlice0; exact rfl; intro bz) | (apply R.box; exact rfl; (simp only [Value.cells]; rfl); exact rfl; intro bx) | (apply R.alloc; (simp only [Value.cells]; rfl); exact rfl; intro ba) | (apply R.buildSlice; (exact a_prt); exact rfl; exact rfl; (exact a_fills); exact rfl; intro bl)) | (first | (apply R.guardT; assumption; exact rfl; exact rfl; exact rfl) | (apply R.guardF; assumption; exact rfl; exact rfl; exact rfl; exact rfl; exact rfl) | (apply R.guardU; assumption; exact rfl; exact rfl; exact rfl; exact rfl) | (apply R.guardDec; assumption; exact rfl; exact rfl; (intro h; skip; rotate_left; intro h; skip; rotate_left)) | (apply R.guardBeq; assumption; exact rfl; exact rfl; (intro h; skip; rotate_left; intro h; skip; rotate_left)) | (apply R.guardBne; assumption; exact rfl; exact rfl; (intro h; skip; rotate_left; intro h; skip; rotate_left)) | (apply R.guardNDec; assumption; exact rfl; exact rfl; (intro h; skip; rotate_left; intro h; skip; rotate_left)) | (apply R.guardNot; assumption; exact rfl; exact rfl; (intro h; skip; rotate_left; intro h; skip; rotate_left)) | (apply R.guardC; assumption; exact rfl; exact rfl; (intro h; skip; rotate_left; intro h; skip; rotate_left))) | (first | (apply C.condT; exact rfl) | (apply C.condF; exact rfl) | (apply C.condDec; exact rfl; (intro h; skip; rotate_left; intro h; skip; rotate_left)) | (apply C.condBeq; exact rfl; (intro h; skip; rotate_left; intro h; skip; rotate_left)) | (apply C.condBne; exact rfl; (intro h; skip; rotate_left; intro h; skip; rotate_left)) | (apply C.condNDec; exact rfl; (intro h; skip; rotate_left; intro h; skip; rotate_left)) | (apply C.condNot; exact rfl; (intro h; skip; rotate_left; intro h; skip; rotate_left)) | (apply C.cond; exact rfl; (intro h; skip; rotate_left; intro h; skip; rotate_left)))))
    · have h3 : ¬ la[i] = lb[i] := by assumption
      (refine Fin.rt ?_)
      exact ⟨by rw [decide_eq_false]; intro e; subst e; exact h3 rfl, rfl, rfl⟩
    have h3 : la[i] = lb[i] := by assumption
    refine Fin.again (⟨i + 1, (i : Int) + 1, 0⟩ : FoX) ⟨by dsimp only; omega, by dsimp only; omega, take_same htk hia hib h3⟩ (by dsimp only; omega) ?_ rfl rfl
    dsimp only
    (exact a_subs)
  · have h2 : ¬ (i : Int) < (la.length : Int) := by assumption
    (refine Fin.rt ?_)
    refine ⟨by rw [decide_eq_true]; rw [List.take_of_length_le (by omega), List.take_of_length_le (by omega)] at htk; exact htk, rfl, rfl⟩
end Go.Sx
