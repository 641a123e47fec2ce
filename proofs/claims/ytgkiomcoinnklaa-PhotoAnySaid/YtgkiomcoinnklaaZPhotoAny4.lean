import Derived.Shelf.Sort.Plain
import Derived.Shelf.Slices.In.SortNone
import Derived.Sort.KeysCollected
import Derived.Test.YtgkiomcoinnklaaProg
import Derived.Sort.Walk0
import Derived.Test.YtgkiomcoinnklaaZPhotoAny3
section
namespace Go.Sx
open Go Go.Proofs Go.RowKit
attribute [local irreducible] C R Fin K Own OwnT Rd Pl Ok KOf RetOk OpsOf RP KP Res NoPanic KV KE MapS ItS EntS FsO FsR RowD PlD DkO PlFs
variable {M M' : Mem} {H H1 H2 : Hp}
def doneF (F : Fs) : De → Fs
  | .app n b => insF (delS F n) (n, fileD F n ++ b)
  | .trc n k => insF (delS F n) (n, (fileD F n).take k)
  | .ren n t => insF (delS (delS F n) t) (t, fileD F n)
  | .rem n => delS F n
def smallX (F : Fs) : De → Prop
  | .app _ b => b.length ≤ 1048576
  | .trc n k => k ≤ (fileD F n).length
  | _ => True
theorem Fit.small {F : Fs} {x : De} (hn : (keyS F).Nodup) (h : Fit F x) : smallX F x := by
  cases x with
  | app n b =>
    have h1 := h.1
    have h2 := sumF_put (b := fileD F n ++ b) (n := n) hn
    change sumF (putS F n (fileD F n ++ b)) ≤ _ at h1
    have h3 := fileD_len (F := F) (n := n)
    rw [List.length_append] at h2
    show b.length ≤ _
    omega
  | trc n k => exact h.2
  | ren n t => trivial
  | rem n => trivial
def nameX : De → Txt
  | .app n _ => n
  | .trc n _ => n
  | .ren n _ => n
  | .rem n => n
structure DnX where
  v : Value
  hp : Hp
theorem PlFs.get {v : Value} {F : Fs} {j : Nat} {n b : Txt} (h : PlFs M v F) (hj : F[j]? = some (n, b)) : ∃ A cap bb o c e fr Af cf, v = .slice A F.length cap ∧ A = some ⟨bb, o, none⟩ ∧ M.at_ bb = some (.cells c e fr) ∧ c[o + j * 2 + 0]? = some (str n) ∧ c[o + j * 2 + 1]? = some (.slice Af b.length cf) ∧ b.length ≤ cf ∧ cf ≤ 9223372036854775807 ∧ Pl M Af (b.map bv) := by
  unfold PlFs at h
  obtain ⟨A, cap, es, rfl, h1, h2, h3, h4, rfl⟩ := h
  obtain ⟨hjl, hje⟩ := List.getElem?_eq_some_iff.1 hj
  rw [List.length_map] at hjl
  rw [List.getElem_map] at hje
  obtain ⟨bb, o, c, e, fr, g1, g2, g3, g4⟩ := fe_at h3 hjl
  obtain ⟨Af, cf, k1, k2, k3, k4⟩ := h4 _ (List.getElem_mem hjl)
  rw [k1] at g4
  have e1 : es[j].n = n := congrArg Prod.fst hje
  have e2 : es[j].b = b := congrArg Prod.snd hje
  rw [e1] at g3
  rw [e2] at g4 k2 k4
  exact ⟨A, cap, bb, o, c, e, fr, Af, cf, by rw [List.length_map], g1, g2, g3, g4, k2, k3, k4⟩
theorem fileD_some {F : Fs} {n b : Txt} (h : getS F n = some b) : fileD F n = b := by
  unfold fileD
  rw [h]
  rfl
theorem fileD_none {F : Fs} {n : Txt} (h : getS F n = none) : fileD F n = [] := by
  unfold fileD
  rw [h]
  rfl
theorem rdone_K {v : Value} {F : Fs} {x : De} {c : List Value} (hf : PlFs M v F) (hl : F.length ≤ 1000000) (hs : sumF F ≤ 1048576) (hx : DeC M x c) (hsm : smallX F x) : K Try.prog 77 [v, .agg c.toArray] M H fun v' M' H' => PlFs M' v' (doneF F x) ∧ M.le M' ∧ H' = H := by
  refine K.enterK Try.func77 rfl rfl rfl ?_
  intro Q hNP hQ
  obtain ⟨c0, c1, c2, c3, c4, hc, hc1⟩ : ∃ c0 c1 c2 c3 c4, c = [c0, c1, c2, c3, c4] ∧ c1 = str (nameX x) := by
    cases x with
    | app n b => obtain ⟨bv, rfl, _⟩ := hx; exact ⟨_, _, _, _, _, rfl, rfl⟩
    | trc n k => cases hx; exact ⟨_, _, _, _, _, rfl, rfl⟩
    | ren n k => cases hx; exact ⟨_, _, _, _, _, rfl, rfl⟩
    | rem n => cases hx; exact ⟨_, _, _, _, _, rfl, rfl⟩
  have hfl := fileD_len (F := F) (n := nameX x)
  have hll : ∃ A cap, v = .slice A F.length cap := by
    unfold PlFs at hf
    obtain ⟨A, cap, es, rfl, h1, h2, h3, h4, rfl⟩ := hf
    exact ⟨A, cap, by rw [List.length_map]⟩
  obtain ⟨A, cap, rfl⟩ := hll
  subst hc hc1
  (repeat' (first | (apply R.step; (exact a_ok); exact rfl) | (first | (with_reducible first | apply R.nil | apply C.ret | apply C.block | apply C.skip | apply C.exit | apply Fin.thenRet | apply Fin.thenExit | apply Fin.blockNormal | apply Fin.blockRet | apply Fin.blockExit) | (with_reducible apply Fin.thenK; assumption) | (with_reducible apply C.seqR; intro _ _) | (with_reducible apply C.regionK; intro _ _) | (with_reducible apply Fin.blockOther; exact rfl)) | (first | (apply R.store; exact rfl; exact rfl; exact rfl; (exact a_at); (exact a_blit); exact rfl; (focus (simp [Value.oneCell']; done))) | (apply R.buildSlice0; exact rfl; intro bz) | (apply R.box; exact rfl; (simp only [Value.cells]; rfl); exact rfl; intro bx) | (apply R.alloc; (simp only [Value.cells]; rfl); exact rfl; intro ba) | (apply R.buildSlice; (exact a_prt); exact rfl; exact rfl; (exact a_fills); exact rfl; intro bl)) | (first | (apply R.guardT; assumption; exact rfl; exact rfl; exact rfl) | (apply R.guardF; assumption; exact rfl; exact rfl; exact rfl; exact rfl; exact rfl) | (apply R.guardU; assumption; exact rfl; exact rfl; exact rfl; exact rfl) | (apply R.guardDec; assumption; exact rfl; exact rfl; (intro h; skip; rotate_left; intro h; skip; rotate_left)) | (apply R.guardBeq; assumption; exact rfl; exact rfl; (intro h; skip; rotate_left; intro h; skip; rotate_left)) | (apply R.guardBne; assumption; exact rfl; exact rfl; (intro h; skip; rotate_left; intro h; skip; rotate_left)) | (apply R.guardNDec; assumption; exact rfl; exact rfl; (intro h; skip; rotate_left; intro h; skip; rotate_left)) | (apply R.guardNot; assumption; exact rfl; exact rfl; (intro h; skip; rotate_left; intro h; skip; rotate_left)) | (apply R.guardC; assumption; exact rfl; exact rfl; (intro h; skip; rotate_left; intro h; skip; rotate_left)))))
  apply C.seqCut (fun y : DnX => Own 5 1 y.v (fileD F (nameX x)).length ((fileD F (nameX x)).map bv) y.hp)
    (fun y => [(0, .slice A F.length cap), (3, .pointer (some ⟨bx, 0, none⟩)), (5, y.v)]) (fun _ => M) (fun y => (bx, .cells #[c0, str (nameX x), c2, c3, c4] 115 (0, 0)) :: (y.hp ++ H))
  · (repeat' (first | refine a_go ?_ | (with_reducible apply Fin.thenK; assumption) | (with_reducible (first | apply C.seqK | apply C.regionK); intro _ _) | (apply R.buildSlice0; exact rfl; intro bz) | (apply R.box; exact rfl; (simp only [Value.cells]; rfl); exact rfl; intro bx) | (apply R.alloc; (simp only [Value.cells]; rfl); exact rfl; intro ba) | (apply R.buildSlice; (exact a_prt); exact rfl; exact rfl; (exact a_fills); exact rfl; intro bl) | (refine a_sp ?_ ?_; (intro h; skip; rotate_left; intro h; skip; rotate_left)) | fail))
    (apply R.call; (exact a_evs); exact rfl; (apply K.arr (h := rfind_K (n := nameX x) (H := (bx, .cells #[c0, str (nameX x), c2, c3, c4] 115 (0, 0)) :: H) hf hl)); ((try simp only [List.append_assoc, List.cons_append, List.nil_append, List.append_nil]); exact a_arr); rintro _ M _ ⟨rfl, rfl, rfl⟩)
    rcases findI_spec F (nameX x) 0 with ⟨h1, h2⟩ | ⟨j, b, h1, h2, h3⟩
    · rw [h1]
      (repeat' (first | refine a_go ?_ | (with_reducible apply Fin.thenK; assumption) | (with_reducible (first | apply C.seqK | apply C.regionK); intro _ _) | (apply R.buildSlice0; exact rfl; intro bz) | (apply R.box; exact rfl; (simp only [Value.cells]; rfl); exact rfl; intro bx) | (apply R.alloc; (simp only [Value.cells]; rfl); exact rfl; intro ba) | (apply R.buildSlice; (exact a_prt); exact rfl; exact rfl; (exact a_fills); exact rfl; intro bl) | (refine a_sp ?_ ?_; (intro h; skip; rotate_left; intro h; skip; rotate_left)) | fail))
      refine Fin.join (⟨.slice none 0 0, []⟩ : DnX) (by dsimp only; rw [fileD_none h2]; exact Own.nil _ _) ?_ rfl rfl
      (exact a_subs)
    · rw [h1]
      rw [fileD_some h3] at hfl
      obtain ⟨A', cap', bb, o, cc, e, fr, Af, cf, hv, rfl, hM, g1, g2, g3, g4, g5⟩ := hf.get h2
      cases hv
      rw [show o + j * 2 = o + (0 + (j : Int)).toNat * 2 by omega] at g2
      have hjl : j < F.length := (List.getElem?_eq_some_iff.1 h2).1
      have hge : (0 : Int) ≤ 0 + (j : Int) := by omega
      (repeat' (first | (apply R.step; (apply Ok.move; exact rfl); exact rfl) | (apply R.step; (first | (apply Ok.geTr; exact rfl; exact rfl; exact hge) | (apply Ok.loadP; exact rfl; exact rfl; exact hM; exact g2)); exact rfl) | refine a_go ?_ | (with_reducible apply Fin.thenK; assumption) | (with_reducible (first | apply C.seqK | apply C.regionK); intro _ _) | (apply R.buildSlice0; exact rfl; intro bz) | (apply R.box; exact rfl; (simp only [Value.cells]; rfl); exact rfl; intro bx) | (apply R.alloc; (simp only [Value.cells]; rfl); exact rfl; intro ba) | (apply R.buildSlice; (exact a_prt); exact rfl; exact rfl; (exact a_fills); exact rfl; intro bl) | (refine a_sp ?_ ?_; (intro h; skip; rotate_left; intro h; skip; rotate_left)) | fail))
      (apply R.append (news := b.map bv) (k := b.length); exact rfl; exact rfl; exact Own.empty; (exact a_tk); exact g5.rd; (rw [List.length_map, Nat.mul_one]); exact bv_one _; omega; exact rfl; decide; decide; exact rfl; rintro v4 hp4 hown4)
      rw [List.nil_append, Nat.zero_add] at hown4
      (repeat' (first | refine a_go ?_ | (with_reducible apply Fin.thenK; assumption) | (with_reducible (first | apply C.seqK | apply C.regionK); intro _ _) | (apply R.buildSlice0; exact rfl; intro bz) | (apply R.box; exact rfl; (simp only [Value.cells]; rfl); exact rfl; intro bx) | (apply R.alloc; (simp only [Value.cells]; rfl); exact rfl; intro ba) | (apply R.buildSlice; (exact a_prt); exact rfl; exact rfl; (exact a_fills); exact rfl; intro bl) | (refine a_sp ?_ ?_; (intro h; skip; rotate_left; intro h; skip; rotate_left)) | fail))
      (apply Fin.arr (H2 := (bx, .cells #[c0, str (nameX x), c2, c3, c4] 115 (0, 0)) :: (hp4 ++ H)); ((try simp only [List.append_assoc, List.cons_append, List.nil_append, List.append_nil]); exact a_arr))
      refine Fin.join (⟨v4, hp4⟩ : DnX) (by dsimp only; rw [fileD_some h3]; exact hown4) ?_ rfl rfl
      (exact a_subs)
  rintro ⟨v1, hp1⟩ hown
  dsimp only at hown ⊢
  obtain ⟨A1, k1, rfl, _, _⟩ := hown.form
  cases x with
  | app n b =>
    obtain ⟨fv, hc, hb⟩ := hx
    cases hc
    obtain ⟨Ab, cb, rfl, q1, q2, q3⟩ := hb
    change b.length ≤ 1048576 at hsm
    change (fileD F n).length ≤ _ at hfl
    change Own _ _ _ (fileD F n).length _ _ at hown
    (repeat' (first | refine a_go ?_ | (with_reducible apply Fin.thenK; assumption) | (with_reducible (first | apply C.seqK | apply C.regionK); intro _ _) | (apply R.buildSlice0; exact rfl; intro bz) | (apply R.box; exact rfl; (simp only [Value.cells]; rfl); exact rfl; intro bx) | (apply R.alloc; (simp only [Value.cells]; rfl); exact rfl; intro ba) | (apply R.buildSlice; (exact a_prt); exact rfl; exact rfl; (exact a_fills); exact rfl; intro bl) | (refine a_sp ?_ ?_; (intro h; skip; rotate_left; intro h; skip; rotate_left)) | fail))
    (apply C.regionO (ks := [1, 1, 1, 1, 1, 1, 0, 1, 0, 1]) (is := [0, 1, 2, 3, 4, 5, 6, 7, 8, 9]) (Hs := [(bx, .cells #[.int .i64 0, str n, str [], .slice Ab b.length cb, .int .i64 0] 115 (0, 0))]); exact Mix.h; (first | exact Arr.all _ | (exact a_arr)); (exact a_np); (exact a_picked); kernel_rfl; intro _ e; subst e)
    (repeat' (first | (first | (apply RP.step; intro _ _ _; (exact a_ok); exact rfl) | (apply RP.stepT; exact rfl; exact rfl; exact rfl; intro _ _ _; (exact a_ok); exact rfl) | (apply RP.stepF; exact rfl; exact rfl; exact rfl; exact rfl; exact rfl) | (apply RP.effF; exact rfl; exact rfl; exact rfl; exact rfl; exact rfl)) | (apply RP.callQ; (exact a_evs); exact rfl)))
    (apply RP.eff; intro Kc hKc ops0)
    (apply R.append (news := b.map bv) (k := b.length); exact rfl; exact rfl; exact hown; (exact a_tk); exact q3.rd; (rw [List.length_map, Nat.mul_one]); exact bv_one _; omega; exact rfl; decide; decide; exact rfl; rintro v4 hp4 hown4)
    rw [← List.map_append, ← List.length_append] at hown4
    (apply R.ice (hp := hp4) (H1 := (bx, .cells #[.int .i64 0, str n, str [], .slice Ab b.length cb, .int .i64 0] 115 (0, 0)) :: H) (by (exact a_arr)); intro M2 hM2 hin2)
    have hb4 := hown4.plB hin2
    obtain ⟨A4, k4, rfl, _, _⟩ := hown4.form
    (apply R.nil; apply Fin.kpB (E := []) hKc; exact hM2; (exact a_arr))
    (repeat' (first | (first | (apply RP.step; intro _ _ _; (exact a_ok); exact rfl) | (apply RP.stepT; exact rfl; exact rfl; exact rfl; intro _ _ _; (exact a_ok); exact rfl) | (apply RP.stepF; exact rfl; exact rfl; exact rfl; exact rfl; exact rfl) | (apply RP.effF; exact rfl; exact rfl; exact rfl; exact rfl; exact rfl)) | (apply RP.callQ; (exact a_evs); exact rfl)))
    (apply RP.eff; intro Kc hKc ops0)
    (apply R.call; (exact a_evs); exact rfl; exact rwith_K (hf.mono hM2) hb4 hl; rintro v5 M5 _ ⟨hf5, hM5, rfl⟩)
    (apply R.nil; apply Fin.kpB (E := []) hKc; exact hM5; (exact a_arr))
    (repeat' (first | (first | (apply RP.step; intro _ _ _; (exact a_ok); exact rfl) | (apply RP.stepT; exact rfl; exact rfl; exact rfl; intro _ _ _; (exact a_ok); exact rfl) | (apply RP.stepF; exact rfl; exact rfl; exact rfl; exact rfl; exact rfl) | (apply RP.effF; exact rfl; exact rfl; exact rfl; exact rfl; exact rfl)) | (apply RP.callQ; (exact a_evs); exact rfl)))
    (first | apply RP.nil0 | apply RP.nil)
    (repeat' (first | refine a_go ?_ | (with_reducible apply Fin.thenK; assumption) | (with_reducible (first | apply C.seqK | apply C.regionK); intro _ _) | (apply R.buildSlice0; exact rfl; intro bz) | (apply R.box; exact rfl; (simp only [Value.cells]; rfl); exact rfl; intro bx) | (apply R.alloc; (simp only [Value.cells]; rfl); exact rfl; intro ba) | (apply R.buildSlice; (exact a_prt); exact rfl; exact rfl; (exact a_fills); exact rfl; intro bl) | (refine a_sp ?_ ?_; (intro h; skip; rotate_left; intro h; skip; rotate_left)) | fail))
    (apply Fin.returnA (H2 := H); assumption; (first | exact .inl rfl | exact .inr rfl); exact rfl; (exact a_res); (simp only [retv]; rfl); (exact a_arr))
    exact ⟨hf5, hM2.trans_ hM5, rfl⟩
  | trc n k =>
    cases hx
    change k ≤ (fileD F n).length at hsm
    change (fileD F n).length ≤ _ at hfl
    change Own _ _ _ (fileD F n).length _ _ at hown
    (repeat' (first | refine a_go ?_ | (with_reducible apply Fin.thenK; assumption) | (with_reducible (first | apply C.seqK | apply C.regionK); intro _ _) | (apply R.buildSlice0; exact rfl; intro bz) | (apply R.box; exact rfl; (simp only [Value.cells]; rfl); exact rfl; intro bx) | (apply R.alloc; (simp only [Value.cells]; rfl); exact rfl; intro ba) | (apply R.buildSlice; (exact a_prt); exact rfl; exact rfl; (exact a_fills); exact rfl; intro bl) | (refine a_sp ?_ ?_; (intro h; skip; rotate_left; intro h; skip; rotate_left)) | fail))
    (apply C.ice (hp := hp1) (H1 := (bx, .cells #[.int .i64 1, str n, str [], .slice none 0 0, .int .i64 (k : Int)] 115 (0, 0)) :: H) (by (exact a_arr)); intro M2 hM2 hin2)
    have hb2 := hown.plB hin2
    (apply C.regionO (ks := [1, 1, 1, 1, 1, 1, 1, 1, 0, 1]) (is := [0, 1, 2, 3, 4, 5, 6, 7, 8, 9]) (Hs := [(bx, .cells #[.int .i64 1, str n, str [], .slice none 0 0, .int .i64 ↑k] 115 (0, 0))]); exact Mix.h; (first | exact Arr.all _ | (exact a_arr)); (exact a_np); (exact a_picked); kernel_rfl; intro _ e; subst e)
    (repeat' (first | (apply RP.step; intro _ _ _; (apply Ok.move; exact rfl); exact rfl) | (apply RP.step; intro _ _ hMx; (apply Ok.sliceHi; exact rfl; exact rfl; omega; (have hle := hsm; have hk1 : (fileD F n).length ≤ k1 := ‹_›; omega)); exact rfl) | (first | (apply RP.step; intro _ _ _; (exact a_ok); exact rfl) | (apply RP.stepT; exact rfl; exact rfl; exact rfl; intro _ _ _; (exact a_ok); exact rfl) | (apply RP.stepF; exact rfl; exact rfl; exact rfl; exact rfl; exact rfl) | (apply RP.effF; exact rfl; exact rfl; exact rfl; exact rfl; exact rfl)) | (apply RP.callQ; (exact a_evs); exact rfl)))
    have hk1 : (fileD F n).length ≤ k1 := ‹_›
    have hb3 : PlB M2 (.slice A1 (k : Int).toNat k1) ((fileD F n).take k) := by
      obtain ⟨A', c', e', g1, g2, g3⟩ := hb2
      cases e'
      have e1 : ((fileD F n).take k).length = k := by rw [List.length_take]; omega
      refine ⟨A1, k1, by rw [e1]; rfl, by omega, g2, ?_⟩
      have := g3.take k
      rwa [← List.map_take] at this
    (apply RP.eff; intro Kc hKc ops0)
    (apply R.call; (exact a_evs); exact rfl; exact rwith_K (hf.mono hM2) hb3 hl; rintro v5 M5 _ ⟨hf5, hM5, rfl⟩)
    (apply R.nil; apply Fin.kpB (E := []) hKc; exact hM5; (exact a_arr))
    (repeat' (first | (first | (apply RP.step; intro _ _ _; (exact a_ok); exact rfl) | (apply RP.stepT; exact rfl; exact rfl; exact rfl; intro _ _ _; (exact a_ok); exact rfl) | (apply RP.stepF; exact rfl; exact rfl; exact rfl; exact rfl; exact rfl) | (apply RP.effF; exact rfl; exact rfl; exact rfl; exact rfl; exact rfl)) | (apply RP.callQ; (exact a_evs); exact rfl)))
    (first | apply RP.nil0 | apply RP.nil)
    (repeat' (first | refine a_go ?_ | (with_reducible apply Fin.thenK; assumption) | (with_reducible (first | apply C.seqK | apply C.regionK); intro _ _) | (apply R.buildSlice0; exact rfl; intro bz) | (apply R.box; exact rfl; (simp only [Value.cells]; rfl); exact rfl; intro bx) | (apply R.alloc; (simp only [Value.cells]; rfl); exact rfl; intro ba) | (apply R.buildSlice; (exact a_prt); exact rfl; exact rfl; (exact a_fills); exact rfl; intro bl) | (refine a_sp ?_ ?_; (intro h; skip; rotate_left; intro h; skip; rotate_left)) | fail))
    (apply Fin.returnA (H2 := H); assumption; (first | exact .inl rfl | exact .inr rfl); exact rfl; (exact a_res); (simp only [retv]; rfl); (exact a_arr))
    exact ⟨hf5, hM2.trans_ hM5, rfl⟩
  | ren n t =>
    cases hx
    change (fileD F n).length ≤ _ at hfl
    change Own _ _ _ (fileD F n).length _ _ at hown
    (repeat' (first | refine a_go ?_ | (with_reducible apply Fin.thenK; assumption) | (with_reducible (first | apply C.seqK | apply C.regionK); intro _ _) | (apply R.buildSlice0; exact rfl; intro bz) | (apply R.box; exact rfl; (simp only [Value.cells]; rfl); exact rfl; intro bx) | (apply R.alloc; (simp only [Value.cells]; rfl); exact rfl; intro ba) | (apply R.buildSlice; (exact a_prt); exact rfl; exact rfl; (exact a_fills); exact rfl; intro bl) | (refine a_sp ?_ ?_; (intro h; skip; rotate_left; intro h; skip; rotate_left)) | fail))
    (apply C.ice (hp := hp1) (H1 := (bx, .cells #[.int .i64 2, str n, str t, .slice none 0 0, .int .i64 0] 115 (0, 0)) :: H) (by (exact a_arr)); intro M2 hM2 hin2)
    have hb2 := hown.plB hin2
    (apply C.regionO (ks := [1, 1, 1, 1, 1, 1, 1, 0, 0, 1]) (is := [0, 1, 2, 4, 5, 6, 7, 3, 8, 9]) (Hs := [(bx, .cells #[.int .i64 2, str n, str t, .slice none 0 0, .int .i64 0] 115 (0, 0))]); exact Mix.h; (first | exact Arr.all _ | (exact a_arr)); (exact a_np); (exact a_picked); kernel_rfl; intro _ e; subst e)
    (repeat' (first | (first | (apply RP.step; intro _ _ _; (exact a_ok); exact rfl) | (apply RP.stepT; exact rfl; exact rfl; exact rfl; intro _ _ _; (exact a_ok); exact rfl) | (apply RP.stepF; exact rfl; exact rfl; exact rfl; exact rfl; exact rfl) | (apply RP.effF; exact rfl; exact rfl; exact rfl; exact rfl; exact rfl)) | (apply RP.callQ; (exact a_evs); exact rfl)))
    (apply RP.eff; intro Kc hKc ops0)
    (apply R.call; (exact a_evs); exact rfl; exact rwithout_K (hf.mono hM2) hl; rintro v4 M4 _ ⟨hf4, hM4, rfl⟩)
    (apply R.nil; apply Fin.kpB (E := []) hKc; exact hM4; (exact a_arr))
    (repeat' (first | (first | (apply RP.step; intro _ _ _; (exact a_ok); exact rfl) | (apply RP.stepT; exact rfl; exact rfl; exact rfl; intro _ _ _; (exact a_ok); exact rfl) | (apply RP.stepF; exact rfl; exact rfl; exact rfl; exact rfl; exact rfl) | (apply RP.effF; exact rfl; exact rfl; exact rfl; exact rfl; exact rfl)) | (apply RP.callQ; (exact a_evs); exact rfl)))
    (apply RP.eff; intro Kc hKc ops0)
    (apply R.call; (exact a_evs); exact rfl; exact rwith_K hf4 (hb2.mono hM4) (Nat.le_trans (List.length_filter_le _ _) hl); rintro v5 M5 _ ⟨hf5, hM5, rfl⟩)
    (apply R.nil; apply Fin.kpB (E := []) hKc; exact hM5; (exact a_arr))
    (repeat' (first | (first | (apply RP.step; intro _ _ _; (exact a_ok); exact rfl) | (apply RP.stepT; exact rfl; exact rfl; exact rfl; intro _ _ _; (exact a_ok); exact rfl) | (apply RP.stepF; exact rfl; exact rfl; exact rfl; exact rfl; exact rfl) | (apply RP.effF; exact rfl; exact rfl; exact rfl; exact rfl; exact rfl)) | (apply RP.callQ; (exact a_evs); exact rfl)))
    (first | apply RP.nil0 | apply RP.nil)
    (repeat' (first | refine a_go ?_ | (with_reducible apply Fin.thenK; assumption) | (with_reducible (first | apply C.seqK | apply C.regionK); intro _ _) | (apply R.buildSlice0; exact rfl; intro bz) | (apply R.box; exact rfl; (simp only [Value.cells]; rfl); exact rfl; intro bx) | (apply R.alloc; (simp only [Value.cells]; rfl); exact rfl; intro ba) | (apply R.buildSlice; (exact a_prt); exact rfl; exact rfl; (exact a_fills); exact rfl; intro bl) | (refine a_sp ?_ ?_; (intro h; skip; rotate_left; intro h; skip; rotate_left)) | fail))
    (apply Fin.returnA (H2 := H); assumption; (first | exact .inl rfl | exact .inr rfl); exact rfl; (exact a_res); (simp only [retv]; rfl); (exact a_arr))
    exact ⟨hf5, hM2.trans_ (hM4.trans_ hM5), rfl⟩
  | rem n =>
    cases hx
    (repeat' (first | refine a_go ?_ | (with_reducible apply Fin.thenK; assumption) | (with_reducible (first | apply C.seqK | apply C.regionK); intro _ _) | (apply R.buildSlice0; exact rfl; intro bz) | (apply R.box; exact rfl; (simp only [Value.cells]; rfl); exact rfl; intro bx) | (apply R.alloc; (simp only [Value.cells]; rfl); exact rfl; intro ba) | (apply R.buildSlice; (exact a_prt); exact rfl; exact rfl; (exact a_fills); exact rfl; intro bl) | (refine a_sp ?_ ?_; (intro h; skip; rotate_left; intro h; skip; rotate_left)) | fail))
    (apply R.call; (exact a_evs); exact rfl; exact rwithout_K hf hl; rintro v4 M4 _ ⟨hf4, hM4, rfl⟩)
    (repeat' (first | refine a_go ?_ | (with_reducible apply Fin.thenK; assumption) | (with_reducible (first | apply C.seqK | apply C.regionK); intro _ _) | (apply R.buildSlice0; exact rfl; intro bz) | (apply R.box; exact rfl; (simp only [Value.cells]; rfl); exact rfl; intro bx) | (apply R.alloc; (simp only [Value.cells]; rfl); exact rfl; intro ba) | (apply R.buildSlice; (exact a_prt); exact rfl; exact rfl; (exact a_fills); exact rfl; intro bl) | (refine a_sp ?_ ?_; (intro h; skip; rotate_left; intro h; skip; rotate_left)) | fail))
    (apply Fin.returnA (H2 := H); assumption; (first | exact .inl rfl | exact .inr rfl); exact rfl; (exact a_res); (simp only [retv]; rfl); (exact a_arr))
    exact ⟨hf4, hM4, rfl⟩
end Go.Sx
end
section
namespace Go.Sx
open Go Go.Proofs Go.RowKit
attribute [local irreducible] C R Fin K Own OwnT Rd Pl Ok KOf RetOk OpsOf RP KP Res NoPanic KV KE MapS ItS EntS FsO FsR RowD PlD
variable {M M' : Mem} {H H1 H2 : Hp}
theorem pending_K {db sb nb : Nat} {room fuse : Int} {A : Option Addr} {m c : Nat} {down : Bool} : K Try.prog 58 [.pointer (some ⟨db, 0, none⟩)] M ((db, dkB room sb nb (.slice A m c) fuse down) :: H) fun v' M' H' => v' = .int .i64 (m : Int) ∧ M' = M ∧ H' = (db, dkB room sb nb (.slice A m c) fuse down) :: H := by
  refine K.enterK Try.func58 rfl rfl rfl ?_
  intro Q hNP hQ
  unfold dkB at hQ ⊢
  (repeat' (first | refine a_go ?_ | (with_reducible apply Fin.thenK; assumption) | (with_reducible (first | apply C.seqK | apply C.regionK); intro _ _) | (apply R.buildSlice0; exact rfl; intro bz) | (apply R.box; exact rfl; (simp only [Value.cells]; rfl); exact rfl; intro bx) | (apply R.alloc; (simp only [Value.cells]; rfl); exact rfl; intro ba) | (apply R.buildSlice; (exact a_prt); exact rfl; exact rfl; (exact a_fills); exact rfl; intro bl) | (refine a_sp ?_ ?_; (intro h; skip; rotate_left; intro h; skip; rotate_left)) | fail))
  (refine Fin.rt ?_)
  exact ⟨rfl, rfl, rfl⟩
theorem pending_KD {db : Nat} {d : Dk} {hp : Hp} (ho : DkO M db d hp) : K Try.prog 58 [.pointer (some ⟨db, 0, none⟩)] M (hp ++ H) fun v' M' H' => v' = .int .i64 (d.ps.length : Int) ∧ M' = M ∧ H' = hp ++ H := by
  obtain ⟨h0, sb, nb, so, no, pv, hr, h1, h2, h3, rfl⟩ := ho
  obtain ⟨A, c, rfl, _, _⟩ := h3.form
  exact pending_K
end Go.Sx
end
section
namespace Go.Sx
open Go.RowKit Go.Sort Go.Proofs
def sortT (ss : List Txt) : List Txt := ss.mergeSort (fun x y => decide (x ≤ y))
theorem sortT_nil : sortT [] = [] := by
  unfold sortT
  simp
theorem sortT_perm (ss : List Txt) : (sortT ss).Perm ss := List.mergeSort_perm ..
theorem sortT_of_perm {l l' : List Txt} (h : l.Perm l') : sortT l = sortT l' := mergeSort_of_perm h
theorem sortT_len (ss : List Txt) : (sortT ss).length = ss.length := (sortT_perm ss).length_eq
def SortC (P : Program) (f : Nat) : Prop := (∀ (blk off cap : Nat) (ss : List (List UInt8)) (w : World), Holds encStr w blk off ss.toArray → blk < w.heap.size → ss.length < 4611686018427387904 →
    Calls P f #[.slice (some ⟨blk, off, none⟩) ss.length cap] w fun e w' => e = .returned (.tuple #[]) ∧ ∃ n os, w' = grow (putRow encStr (Sort.ahead w n) blk off (ss.mergeSort fun x y => decide (x ≤ y)).toArray) os) ∧
  ∀ (p : Option Addr) (cap : Nat) (w : World), Calls P f #[.slice p 0 cap] w fun e w' => e = .returned (.tuple #[]) ∧ w' = w
section
variable {P : Program} {f : Nat} {M : Mem} {H hp : Hp} {w : World}
theorem putCells_take (c : Array Value) (ss : List Txt) (h : ss.length ≤ c.size) : (putCells encStr 0 ss.toArray c).size = c.size ∧ (putCells encStr 0 ss.toArray c).toList.take ss.length = ss.map str := by
  refine ⟨by simp [putCells], ?_⟩
  apply List.ext_getElem?
  intro j
  rw [List.getElem?_take, List.getElem?_map, Array.getElem?_toList]
  by_cases hj : j < ss.length
  · rw [if_pos hj]
    unfold putCells
    rw [Array.getElem?_mapIdx, Array.getElem?_eq_getElem (by omega)]
    simp [hj, str, encStr]
  · rw [if_neg hj, List.getElem?_eq_none (by omega)]
    rfl
theorem Heap.grown_ {os : Array Obj} (h : Heap w M H) : Heap (grow w os) M H := by
  have hp : ∀ (b : Nat) (o : Obj), w.heap[b]? = some o → (grow w os).heap[b]? = some o := fun b o hb => by
    unfold grow
    show (w.heap ++ os)[b]? = _
    rw [Array.getElem?_append_left (heap_lt hb)]
    exact hb
  exact ⟨h.os, h.out, fun b o hb => hp b o (h.pool b o hb), fun p hm => hp _ _ (h.own p hm), h.apart, h.nodup⟩
theorem K.sortT {e : Nat} {v : Value} {ss : List Txt} (hc : SortC P f) (ho : Own e 1 v ss.length (ss.map str) hp) (hl : ss.length < 4611686018427387904) :
    K P f [v] M (hp ++ H) fun v' M' H' => v' = .tuple #[] ∧ M' = M ∧ ∃ hp', Own e 1 v ss.length ((sortT ss).map str) hp' ∧ H' = hp' ++ H := by
  intro w hh
  obtain ⟨_, ⟨rfl, hz, rfl⟩ | ⟨b, cap, c, rfl, rfl, c1, c2, c3, c4⟩⟩ := id ho
  · have he : ss = [] := List.eq_nil_of_length_eq_zero hz
    refine (hc.2 none 0 w).mono ?_
    rintro _ _ ⟨rfl, rfl⟩
    refine ⟨_, M, H, rfl, ⟨rfl, rfl, [], ?_, rfl⟩, hh⟩
    subst he
    rw [sortT_nil]
    exact Own.nil _ _
  · have hb : w.heap[b]? = some (.cells c e (0, 0)) := hh.own _ (List.mem_cons_self ..)
    rw [Nat.mul_one] at c3 c4
    refine (hc.1 b 0 cap ss w ?_ (heap_lt hb) hl).mono ?_
    · intro j hj
      have hj' : j < ss.length := by simpa using hj
      have h1 : c[j]? = some (str ss[j]) := by
        have := congrArg (·[j]?) c4
        simp only [List.getElem?_take, hj', if_true, List.getElem?_map, List.getElem?_eq_getElem hj', Option.map_some, Array.getElem?_toList] at this
        exact this
      constructor
      · simp [World.cell?, hb, h1, str, encStr, hj']
      · simp [World.frozen?, hb]
    · rintro _ _ ⟨rfl, n, os, rfl⟩
      have hl2 : (Go.Sx.sortT ss).length = ss.length := sortT_len ss
      obtain ⟨p1, p2⟩ := putCells_take c (Go.Sx.sortT ss) (by omega)
      refine ⟨_, M, [(b, .cells (putCells encStr 0 (Go.Sx.sortT ss).toArray c) e (0, 0))] ++ H, rfl, ⟨rfl, rfl, _, ⟨by rw [List.length_map, hl2, Nat.mul_one], .inr ⟨b, cap, _, rfl, rfl, c1, c2, by rw [p1, c3, Nat.mul_one], by rw [Nat.mul_one, ← hl2]; exact p2⟩⟩, rfl⟩, ?_⟩
      refine Heap.grown_ ?_
      have ha : At ((b, Obj.cells c e (0, 0)) :: H) b (.cells c e (0, 0)) (fun o' => (b, o') :: H) := At.head _ _ _
      refine hh.put ha ?_ ?_ rfl rfl
      · show ((Sort.ahead w n).heap.modify b _)[b]? = _
        rw [Array.getElem?_modify, if_pos rfl]
        show (w.heap[b]?).map _ = _
        rw [hb]
        rfl
      · intro k hk
        show ((Sort.ahead w n).heap.modify b _)[k]? = _
        rw [Array.getElem?_modify, if_neg (Ne.symm hk)]
        rfl
end
end Go.Sx
end
section
namespace Go.Proofs
open Go.Shelf
def Try.lays190_ren : Go.Shelf.Ren := ⟨fun | 190 => 74 | 125 => 81 | 258 => 80 | 128 => 94 | 129 => 95 | 302 => 85 | 303 => 86 | 304 => 87 | 305 => 88 | 306 => 89 | 307 => 90 | 308 => 91 | 309 => 92 | 310 => 93 | 333 => 96 | 329 => 97 | 330 => 98 | 334 => 99 | 335 => 100 | 336 => 101 | 344 => 102 | n => n, fun | 31 => 96 | 9 => 9 | 3 => 3 | 46 => 87 | 0 => 0 | 51 => 85 | 53 => 26 | 4 => 4 | 183 => 130 | 182 => 129 | 131 => 135 | 5 => 5 | 218 => 139 | 222 => 143 | 228 => 145 | 229 => 146 | n => n, fun | n => n⟩
theorem Try.lays190 : Go.Proofs.Lays.n190 Try.prog Try.lays190_ren := {
  mixed := by kernel_rfl
  f125 := Try.func81.trans (congrArg some (by kernel_rfl))
  f128 := Try.func94.trans (congrArg some (by kernel_rfl))
  f129 := Try.func95.trans (congrArg some (by kernel_rfl))
  f190 := Try.func74.trans (congrArg some (by kernel_rfl))
  f258 := Try.func80.trans (congrArg some (by kernel_rfl))
  f302 := Try.func85.trans (congrArg some (by kernel_rfl))
  f303 := Try.func86.trans (congrArg some (by kernel_rfl))
  f304 := Try.func87.trans (congrArg some (by kernel_rfl))
  f305 := Try.func88.trans (congrArg some (by kernel_rfl))
  f306 := Try.func89.trans (congrArg some (by kernel_rfl))
  f307 := Try.func90.trans (congrArg some (by kernel_rfl))
  f308 := Try.func91.trans (congrArg some (by kernel_rfl))
  f309 := Try.func92.trans (congrArg some (by kernel_rfl))
  f310 := Try.func93.trans (congrArg some (by kernel_rfl))
  f329 := Try.func97.trans (congrArg some (by kernel_rfl))
  f330 := Try.func98.trans (congrArg some (by kernel_rfl))
  f333 := Try.func96.trans (congrArg some (by kernel_rfl))
  f334 := Try.func99.trans (congrArg some (by kernel_rfl))
  f335 := Try.func100.trans (congrArg some (by kernel_rfl))
  f336 := Try.func101.trans (congrArg some (by kernel_rfl))
  f344 := Try.func102.trans (congrArg some (by kernel_rfl))
  t0 := Try.underlying0
  a0 := Try.isAgg0
  z0 := Try.sizeOf0
  v0 := Try.zeroValue0
  t3 := Try.underlying3
  a3 := Try.isAgg3
  z3 := Try.sizeOf3
  v3 := Try.zeroValue3
  t4 := Try.underlying4
  a4 := Try.isAgg4
  z4 := Try.sizeOf4
  v4 := Try.zeroValue4
  t5 := Try.underlying5
  a5 := Try.isAgg5
  z5 := Try.sizeOf5
  v5 := Try.zeroValue5
  t9 := Try.underlying9
  a9 := Try.isAgg9
  z9 := Try.sizeOf9
  v9 := Try.zeroValue9
  t31 := Try.underlying96
  a31 := Try.isAgg96
  z31 := Try.sizeOf96
  v31 := Try.zeroValue96
  t46 := Try.underlying87
  a46 := Try.isAgg87
  z46 := Try.sizeOf87
  v46 := Try.zeroValue87
  t51 := Try.underlying85
  a51 := Try.isAgg85
  z51 := Try.sizeOf85
  v51 := Try.zeroValue85
  t53 := Try.underlying26
  a53 := Try.isAgg26
  z53 := Try.sizeOf26
  v53 := Try.zeroValue26
  t131 := Try.underlying135
  a131 := Try.isAgg135
  z131 := Try.sizeOf135
  v131 := Try.zeroValue135
  t182 := Try.underlying129
  a182 := Try.isAgg129
  z182 := Try.sizeOf129
  v182 := Try.zeroValue129
  t183 := Try.underlying130
  a183 := Try.isAgg130
  z183 := Try.sizeOf130
  v183 := Try.zeroValue130
  t218 := Try.underlying139
  a218 := Try.isAgg139
  z218 := Try.sizeOf139
  v218 := Try.zeroValue139
  t222 := Try.underlying143
  a222 := Try.isAgg143
  z222 := Try.sizeOf143
  v222 := Try.zeroValue143
  t228 := Try.underlying145
  a228 := Try.isAgg145
  z228 := Try.sizeOf145
  v228 := Try.zeroValue145
  t229 := Try.underlying146
  a229 := Try.isAgg146
  z229 := Try.sizeOf146
  v229 := Try.zeroValue146 }
open Go.Sort Go.RowKit in
theorem Try.slices_Sort_string (blk off cap : Nat) (ss : List (List UInt8)) (w : World) (hH : Holds encStr w blk off ss.toArray) (hblk : blk < w.heap.size) (hsz : ss.length < 4611686018427387904) :
    Calls Try.prog 74 #[.slice (some ⟨blk, off, none⟩) ss.length cap] w fun e w' =>
      e = .returned (.tuple #[]) ∧ ∃ n os, w' = grow (putRow encStr (Sort.ahead w n) blk off (ss.mergeSort fun x y => decide (x ≤ y)).toArray) os := Any.slices_Sort_string Try.lays190 blk off cap ss w hH hblk hsz
open Go.RowKit Go.Sort in
theorem Try.slices_Sort_string_none (p : Option Addr) (cap : Nat) (w : World) :
    Calls Try.prog 74 #[.slice p 0 cap] w fun e w' => e = .returned (.tuple #[]) ∧ w' = w := Any.slices_Sort_string_none Try.lays190 p cap w
end Go.Proofs
end
section
namespace Go.Sx
open Go Go.Proofs Go.RowKit
attribute [local irreducible] C R Fin K Own OwnT Rd Pl Ok KOf RetOk OpsOf RP KP Res NoPanic KV KE MapS ItS EntS FsO FsR RowD PlD
variable {M M' : Mem} {H H1 H2 : Hp}
def namesD (down : Bool) (F : Fs) : List Txt := if down then [] else sortT (keyS F)
theorem sort_K {v : Value} {ss : List Txt} {hp : Hp} (ho : Own 9 1 v ss.length (ss.map str) hp) (hl : ss.length ≤ 1000000) : K Try.prog 74 [v] M (hp ++ H) fun v' M' H' => v' = .tuple #[] ∧ M' = M ∧ ∃ hp', Own 9 1 v ss.length ((sortT ss).map str) hp' ∧ H' = hp' ++ H :=
  K.sortT (P := Try.prog) ⟨Try.slices_Sort_string, Try.slices_Sort_string_none⟩ ho (by omega)
structure NmX where
  ns : List Txt
  v : Value
  hv : Hp
  oi : Obj
  rest : ML
  G : Fs
theorem names_K {db sb nb : Nat} {room fuse : Int} {pv : Value} {down : Bool} {no : Obj} {F : Fs} (hf : FsO M no F) (hl : F.length ≤ 1000000) : K Try.prog 54 [.pointer (some ⟨db, 0, none⟩)] M ((db, dkB room sb nb pv fuse down) :: (nb, no) :: H) fun v' M' H' => M' = M ∧ ∃ hn, Own 9 1 v' (namesD down F).length ((namesD down F).map str) hn ∧ H' = hn ++ ((db, dkB room sb nb pv fuse down) :: (nb, no) :: H) := by
  obtain ⟨l, hm, hr, hn⟩ := hf.use
  clear hf
  refine K.enterK Try.func54 rfl rfl rfl ?_
  intro Q hNP hQ
  unfold dkB at hQ ⊢
  (repeat' (first | refine a_go ?_ | (with_reducible apply Fin.thenK; assumption) | (with_reducible (first | apply C.seqK | apply C.regionK); intro _ _) | (apply R.buildSlice0; exact rfl; intro bz) | (apply R.box; exact rfl; (simp only [Value.cells]; rfl); exact rfl; intro bx) | (apply R.alloc; (simp only [Value.cells]; rfl); exact rfl; intro ba) | (apply R.buildSlice; (exact a_prt); exact rfl; exact rfl; (exact a_fills); exact rfl; intro bl) | (refine a_sp ?_ ?_; (intro h; skip; rotate_left; intro h; skip; rotate_left)) | fail))
  (apply R.rangeS (b := nb) (o := no); exact rfl; exact a_mm; exact hm; exact rfl; intro it oi hit)
  (repeat' (first | refine a_go ?_ | (with_reducible apply Fin.thenK; assumption) | (with_reducible (first | apply C.seqK | apply C.regionK); intro _ _) | (apply R.buildSlice0; exact rfl; intro bz) | (apply R.box; exact rfl; (simp only [Value.cells]; rfl); exact rfl; intro bx) | (apply R.alloc; (simp only [Value.cells]; rfl); exact rfl; intro ba) | (apply R.buildSlice; (exact a_prt); exact rfl; exact rfl; (exact a_fills); exact rfl; intro bl) | (refine a_sp ?_ ?_; (intro h; skip; rotate_left; intro h; skip; rotate_left)) | fail))
  apply C.loop (fun y : NmX => ItS y.oi no nb y.rest ∧ FsR M y.rest y.G ∧ Own 9 1 y.v y.ns.length (y.ns.map str) y.hv ∧ (down = true → y.ns = []) ∧ (down = false → (y.ns ++ keyS y.G).Perm (keyS F)))
    (fun y => [(0, .pointer (some ⟨db, 0, none⟩)), (3, y.v), (9, .pointer (some ⟨it, 0, none⟩))]) (fun _ => M) (fun y => (it, y.oi) :: (y.hv ++ ((db, .cells [.int .i64 room, .map (some sb), .map (some nb), pv, .int .i64 fuse, .bool down].toArray 61 (0, 0)) :: (nb, no) :: H))) (fun y => y.rest.length) ⟨[], .slice none 0 0, [], oi, l, F⟩
  · exact ⟨hit, hr, Own.nil _ _, fun _ => rfl, fun _ => List.Perm.refl _⟩
  · (exact a_subs)
  · exact rfl
  · exact rfl
  rintro ⟨ns, v, hv, oi, rest, G⟩ ⟨h1, h2, h3, h4, h5⟩
  dsimp only at h1 h2 h3 h4 h5 ⊢
  obtain ⟨A, c, rfl, k1, k2⟩ := h3.form
  (repeat' (first | refine a_go ?_ | (with_reducible apply Fin.thenK; assumption) | (with_reducible (first | apply C.seqK | apply C.regionK); intro _ _) | (apply R.buildSlice0; exact rfl; intro bz) | (apply R.box; exact rfl; (simp only [Value.cells]; rfl); exact rfl; intro bx) | (apply R.alloc; (simp only [Value.cells]; rfl); exact rfl; intro ba) | (apply R.buildSlice; (exact a_prt); exact rfl; exact rfl; (exact a_fills); exact rfl; intro bl) | (refine a_sp ?_ ?_; (intro h; skip; rotate_left; intro h; skip; rotate_left)) | fail))
  apply R.nextS (it := it) (oi := oi) (b := nb) (o := no)
  · exact rfl
  · (exact a_at)
  · exact a_mm
  · exact h1
  · exact rfl
  · intro hz
    subst hz
    have hG : G = [] := List.eq_nil_of_length_eq_zero h2.len.symm
    subst hG
    have hN : namesD down F = sortT ns := by
      unfold namesD
      cases down with
      | true =>
        rw [h4 rfl, sortT_nil]
        rfl
      | false =>
        have h6 := h5 rfl
        rw [show keyS ([] : Fs) = [] from rfl, List.append_nil] at h6
        exact (sortT_of_perm h6).symm
    have hns : ns.length ≤ 1000000 := by
      cases down with
      | true => rw [h4 rfl]; exact Nat.zero_le _
      | false =>
        have h6 := (h5 rfl).length_eq
        rw [List.length_append] at h6
        unfold keyS at h6
        rw [List.length_map, List.length_map] at h6
        omega
    (repeat' (first | refine a_go ?_ | (with_reducible apply Fin.thenK; assumption) | (with_reducible (first | apply C.seqK | apply C.regionK); intro _ _) | (apply R.buildSlice0; exact rfl; intro bz) | (apply R.box; exact rfl; (simp only [Value.cells]; rfl); exact rfl; intro bx) | (apply R.alloc; (simp only [Value.cells]; rfl); exact rfl; intro ba) | (apply R.buildSlice; (exact a_prt); exact rfl; exact rfl; (exact a_fills); exact rfl; intro bl) | (refine a_sp ?_ ?_; (intro h; skip; rotate_left; intro h; skip; rotate_left)) | fail))
    (apply R.call; (exact a_evs); exact rfl; (apply K.arr (h := sort_K (H := (it, oi) :: (db, .cells [.int .i64 room, .map (some sb), .map (some nb), pv, .int .i64 fuse, .bool down].toArray 61 (0, 0)) :: (nb, no) :: H) h3 hns)); ((try simp only [List.append_assoc, List.cons_append, List.nil_append, List.append_nil]); exact a_arr); rintro _ M2 _ ⟨rfl, rfl, hp2, ho2, rfl⟩)
    (repeat' (first | refine a_go ?_ | (with_reducible apply Fin.thenK; assumption) | (with_reducible (first | apply C.seqK | apply C.regionK); intro _ _) | (apply R.buildSlice0; exact rfl; intro bz) | (apply R.box; exact rfl; (simp only [Value.cells]; rfl); exact rfl; intro bx) | (apply R.alloc; (simp only [Value.cells]; rfl); exact rfl; intro ba) | (apply R.buildSlice; (exact a_prt); exact rfl; exact rfl; (exact a_fills); exact rfl; intro bl) | (refine a_sp ?_ ?_; (intro h; skip; rotate_left; intro h; skip; rotate_left)) | fail))
    (apply Fin.returnA (H2 := hp2 ++ ((db, .cells [.int .i64 room, .map (some sb), .map (some nb), pv, .int .i64 fuse, .bool down].toArray 61 (0, 0)) :: (nb, no) :: H)); assumption; (first | exact .inl rfl | exact .inr rfl); exact rfl; (exact a_res); (simp only [retv]; rfl); (exact a_arr))
    refine ⟨rfl, hp2, ?_, rfl⟩
    rw [hN, sortT_len]
    exact ho2
  · intro r1 k v r2 oi2 hrest h6 h7
    subst hrest
    obtain ⟨b, G2, q1, q2, q3⟩ := h2.mid
    obtain ⟨A1, c1, rfl, _, _, _⟩ := q1
    have hl : (r1 ++ r2).length < (r1 ++ (k, Value.slice A1 b.length c1) :: r2).length := by
      rw [List.length_append, List.length_append, List.length_cons]
      omega
    cases down with
    | true =>
      (repeat' (first | (apply R.step; (apply Ok.move; exact rfl); exact rfl) | (apply R.step; (apply Ok.entryS (h := h7); exact rfl; exact a_mm; exact a_mm); exact rfl) | refine a_go ?_ | (with_reducible apply Fin.thenK; assumption) | (with_reducible (first | apply C.seqK | apply C.regionK); intro _ _) | (apply R.buildSlice0; exact rfl; intro bz) | (apply R.box; exact rfl; (simp only [Value.cells]; rfl); exact rfl; intro bx) | (apply R.alloc; (simp only [Value.cells]; rfl); exact rfl; intro ba) | (apply R.buildSlice; (exact a_prt); exact rfl; exact rfl; (exact a_fills); exact rfl; intro bl) | (refine a_sp ?_ ?_; (intro h; skip; rotate_left; intro h; skip; rotate_left)) | fail))
      refine Fin.again (⟨ns, .slice A ns.length c, hv, oi2, r1 ++ r2, G2⟩ : NmX) ⟨h6, q3, h3, h4, fun e => by cases e⟩ hl ?_ rfl rfl
      (exact a_subs)
    | false =>
      have hp := h5 rfl
      have hp2 : (ns ++ [k] ++ keyS G2).Perm (keyS F) := by
        refine List.Perm.trans ?_ hp
        rw [List.append_assoc]
        exact List.Perm.append_left ns (q2.map Prod.fst).symm
      have hns : ns.length ≤ 1000000 := by
        have h8 := hp.length_eq
        rw [List.length_append] at h8
        unfold keyS at h8
        rw [List.length_map, List.length_map] at h8
        omega
      (repeat' (first | (apply R.step; (apply Ok.move; exact rfl); exact rfl) | (apply R.step; (apply Ok.entryS (h := h7); exact rfl; exact a_mm; exact a_mm); exact rfl) | refine a_go ?_ | (with_reducible apply Fin.thenK; assumption) | (with_reducible (first | apply C.seqK | apply C.regionK); intro _ _) | (apply R.buildSlice0; exact rfl; intro bz) | (apply R.box; exact rfl; (simp only [Value.cells]; rfl); exact rfl; intro bx) | (apply R.alloc; (simp only [Value.cells]; rfl); exact rfl; intro ba) | (apply R.buildSlice; (exact a_prt); exact rfl; exact rfl; (exact a_fills); exact rfl; intro bl) | (refine a_sp ?_ ?_; (intro h; skip; rotate_left; intro h; skip; rotate_left)) | fail))
      (apply R.append (news := [str k]) (k := 1); exact rfl; exact rfl; exact h3; (exact a_tk); exact Rd.at_ (l := [str k]) (by (exact a_at)) (fun j u h => by rw [Nat.zero_add]; exact h); exact rfl; (intro u hu; rw [List.mem_singleton] at hu; rw [hu]; rfl); omega; exact rfl; decide; decide; exact rfl; rintro v4 hp4 hown4)
      obtain ⟨A4, c4, rfl, _, _⟩ := hown4.form
      (repeat' (first | refine a_go ?_ | (with_reducible apply Fin.thenK; assumption) | (with_reducible (first | apply C.seqK | apply C.regionK); intro _ _) | (apply R.buildSlice0; exact rfl; intro bz) | (apply R.box; exact rfl; (simp only [Value.cells]; rfl); exact rfl; intro bx) | (apply R.alloc; (simp only [Value.cells]; rfl); exact rfl; intro ba) | (apply R.buildSlice; (exact a_prt); exact rfl; exact rfl; (exact a_fills); exact rfl; intro bl) | (refine a_sp ?_ ?_; (intro h; skip; rotate_left; intro h; skip; rotate_left)) | fail))
      apply Fin.arr (H2 := (it, oi2) :: (hp4 ++ ((db, .cells [.int .i64 room, .map (some sb), .map (some nb), pv, .int .i64 fuse, .bool false].toArray 61 (0, 0)) :: (nb, no) :: H))) (by ((try simp only [List.append_assoc, List.cons_append, List.nil_append, List.append_nil]); exact a_arr))
      refine Fin.again (⟨ns ++ [k], .slice A4 (ns.length + 1) c4, hp4, oi2, r1 ++ r2, G2⟩ : NmX) ⟨h6, q3, ?_, fun e => (by cases e), fun _ => hp2⟩ hl ?_ rfl rfl
      · dsimp only
        rw [List.length_append, List.map_append]
        exact hown4
      · (exact a_subs)
theorem names_KD {db : Nat} {d : Dk} {hp : Hp} (ho : DkO M db d hp) (hl : d.now.length ≤ 1000000) : K Try.prog 54 [.pointer (some ⟨db, 0, none⟩)] M (hp ++ H) fun v' M' H' => M' = M ∧ ∃ hn, Own 9 1 v' (namesD d.down d.now).length ((namesD d.down d.now).map str) hn ∧ H' = hn ++ (hp ++ H) := by
  obtain ⟨h0, sb, nb, so, no, pv, hr, h1, h2, h3, rfl⟩ := ho
  exact names_K h2 hl
end Go.Sx
end
section
namespace Go.Sx
open Go Go.Proofs Go.RowKit
attribute [local irreducible] C R Fin K Own OwnT Rd Pl Ok KOf RetOk OpsOf RP KP Res NoPanic KV KE MapS ItS EntS FsO FsR RowD PlD DkO PlFs
variable {M M' : Mem} {H H1 H2 : Hp}
def Srt (F : Fs) : Prop := (keyS F).Pairwise (fun a b => a < b)
theorem insF_perm : ∀ (F : Fs) (p : Txt × Txt), (insF F p).Perm (F ++ [p])
  | [], p => List.Perm.refl _
  | q :: F, p => by
    rw [insF_cons]
    split
    · exact (insF_perm F p).cons q
    · exact (List.perm_append_comm (l₁ := [p]) (l₂ := q :: F))
theorem Srt.nodup {F : Fs} (h : Srt F) : (keyS F).Nodup := h.imp fun h e => by
  subst e
  exact absurd h (List.lt_irrefl _)
theorem txt_lt_of {a b : Txt} (h1 : ¬ a < b) (h2 : a ≠ b) : b < a := by
  have h3 : b ≤ a := List.not_lt.1 h1
  by_cases h4 : b < a
  · exact h4
  · exact absurd (List.le_antisymm (List.not_lt.1 h4) h3) h2
theorem insF_srt : ∀ {F : Fs} {p : Txt × Txt}, Srt F → p.1 ∉ keyS F → Srt (insF F p)
  | [], p, _, _ => List.pairwise_singleton _ _
  | q :: F, p, h, hn => by
    rw [insF_cons, bytesLess_eq]
    unfold Srt keyS at h
    rw [List.map_cons, List.pairwise_cons] at h
    have hne : p.1 ≠ q.1 := fun e => hn (by rw [e]; exact List.mem_cons_self ..)
    have hnF : p.1 ∉ keyS F := fun hm => hn (List.mem_cons_of_mem _ hm)
    by_cases hq : q.1 < p.1
    · rw [if_pos (by simpa using hq)]
      unfold Srt keyS
      rw [List.map_cons, List.pairwise_cons]
      refine ⟨fun k hk => ?_, insF_srt h.2 hnF⟩
      have hk2 := ((insF_perm F p).map Prod.fst).mem_iff.1 hk
      rw [List.map_append, List.mem_append] at hk2
      rcases hk2 with hk2 | hk2
      · exact h.1 k hk2
      · simp only [List.map_cons, List.map_nil, List.mem_singleton] at hk2
        rw [hk2]
        exact hq
    · rw [if_neg (by simpa using hq)]
      have hpq : p.1 < q.1 := txt_lt_of hq (Ne.symm hne)
      unfold Srt keyS
      rw [List.map_cons, List.map_cons, List.pairwise_cons, List.pairwise_cons]
      refine ⟨fun k hk => ?_, h⟩
      rcases List.mem_cons.1 hk with rfl | hk
      · exact hpq
      · exact List.lt_trans hpq (h.1 k hk)
theorem del_mem {F : Fs} {n : Txt} : n ∉ keyS (delS F n) := by
  intro h
  obtain ⟨p, hp, e⟩ := List.mem_map.1 h
  have := (List.mem_filter.1 hp).2
  rw [e] at this
  simp at this
theorem del_srt {F : Fs} {n : Txt} (h : Srt F) : Srt (delS F n) := List.Pairwise.sublist (List.filter_sublist.map Prod.fst) h
theorem del_put_perm {F : Fs} {n b : Txt} (hn : (keyS F).Nodup) : (delS F n ++ [(n, b)]).Perm (putS F n b) := by
  by_cases h : n ∈ keyS F
  · obtain ⟨p, hp, rfl⟩ := List.mem_map.1 h
    obtain ⟨l1, l2, rfl⟩ := List.append_of_mem hp
    have hn' : (keyS (l1 ++ (p.1, p.2) :: l2)).Nodup := hn
    rw [show l1 ++ p :: l2 = l1 ++ (p.1, p.2) :: l2 from rfl, delS_some hn', putS_old hn', List.append_assoc]
    exact List.perm_append_comm.append_left l1
  · rw [delS_none h, putS_new h]
theorem ins_put_perm {F : Fs} {n b : Txt} (hn : (keyS F).Nodup) : (insF (delS F n) (n, b)).Perm (putS F n b) := (insF_perm _ _).trans (del_put_perm hn)
theorem ins_put_srt {F : Fs} {n b : Txt} (h : Srt F) : Srt (insF (delS F n) (n, b)) := insF_srt (del_srt h) del_mem
theorem doneF_srt {F : Fs} {x : De} (h : Srt F) : Srt (doneF F x) := by
  cases x with
  | app n b => exact ins_put_srt h
  | trc n k => exact ins_put_srt h
  | ren n t => exact ins_put_srt (del_srt h)
  | rem n => exact del_srt h
theorem doneF_perm {F G : Fs} {x : De} (hs : Srt F) (h : F.Perm G) : (doneF F x).Perm (doF G x) := by
  have hn := hs.nodup
  refine List.Perm.trans ?_ (doF_perm h hn x)
  cases x with
  | app n b => exact ins_put_perm hn
  | trc n k => exact ins_put_perm hn
  | ren n t => exact ins_put_perm (delS_keys hn)
  | rem n => exact List.Perm.refl _
theorem srt_names {F G : Fs} (hs : Srt F) (h : F.Perm G) : sortT (keyS G) = keyS F := by
  have e : sortT (keyS G) = sortT (keyS F) := sortT_of_perm (h.map Prod.fst).symm
  rw [e]
  unfold sortT
  refine List.mergeSort_of_pairwise ?_
  exact hs.imp fun h => by simpa using List.le_of_lt h
def rdkB (space : Int) (sv nv wv : Value) (fused : Bool) (fuse : Int) (down : Bool) : Obj := .cells [.int .i64 space, sv, nv, wv, .bool fused, .int .i64 fuse, .bool down].toArray 90 (0, 0)
def PlW (M : Mem) (wv : Value) (ps : List De) : Prop := ∃ A cap, wv = .slice A ps.length cap ∧ ps.length ≤ cap ∧ cap ≤ 9223372036854775807 ∧ PlD M A ps
theorem PlW.mono {wv : Value} {ps : List De} (hM : M.le M') (h : PlW M wv ps) : PlW M' wv ps := by
  obtain ⟨A, cap, h1, h2, h3, h4⟩ := h
  exact ⟨A, cap, h1, h2, h3, h4.mono hM⟩
theorem PlD.nil : PlD M none [] := by
  unfold PlD
  exact ⟨[], Pl.nil, rfl, fun i x c hx => by simp at hx⟩
theorem PlW.nil : PlW M (.slice none 0 0) [] := ⟨none, 0, rfl, Nat.le_refl _, by omega, PlD.nil⟩
structure RdX where
  F : Fs
  G : Fs
  sv : Value
  nv : Value
  wv : Value
  fused : Bool
  fuse : Int
structure RdI (M : Mem) (d : Dk) (x : RdX) : Prop where
  ok : d.ok
  sF : PlFs M x.sv x.F
  nG : PlFs M x.nv x.G
  pS : x.F.Perm d.S
  pN : x.G.Perm d.now
  srtF : Srt x.F
  srtG : Srt x.G
  w : PlW M x.wv d.ps
  fu : d.fuse = if x.fused then x.fuse else -1
  fu0 : x.fused = true → 0 ≤ x.fuse
def RdO (M : Mem) (rb : Nat) (d : Dk) (hp : Hp) : Prop := ∃ x : RdX, RdI M d x ∧ hp = [(rb, rdkB d.room x.sv x.nv x.wv x.fused x.fuse d.down)]
theorem RdI.mono {d : Dk} {x : RdX} (hM : M.le M') (h : RdI M d x) : RdI M' d x := ⟨h.ok, h.sF.mono hM, h.nG.mono hM, h.pS, h.pN, h.srtF, h.srtG, h.w.mono hM, h.fu, h.fu0⟩
theorem RdO.mono {rb : Nat} {d : Dk} {hp : Hp} (hM : M.le M') (h : RdO M rb d hp) : RdO M' rb d hp := by
  obtain ⟨x, h1, h2⟩ := h
  exact ⟨x, h1.mono hM, h2⟩
theorem RdI.len {d : Dk} {x : RdX} (h : RdI M d x) : x.G.length = d.now.length := h.pN.length_eq
theorem RdI.get {d : Dk} {x : RdX} (h : RdI M d x) (n : Txt) : getS x.G n = getS d.now n := getS_perm h.pN h.srtG.nodup n
theorem RdI.sum {d : Dk} {x : RdX} (h : RdI M d x) : sumF x.G = sumF d.now := sumF_perm h.pN
theorem rcounts_K {rb : Nat} {space fuse : Int} {sv nv wv : Value} {fused down : Bool} (hf : fused = true → 0 ≤ fuse ∧ fuse ≤ 9223372036854775807) : K Try.prog 68 [.pointer (some ⟨rb, 0, none⟩)] M ((rb, rdkB space sv nv wv fused fuse down) :: H) fun v' M' H' => M' = M ∧
    ((v' = .int .i64 3 ∧ (down = true ∨ (fused = true ∧ fuse = 0)) ∧ H' = (rb, rdkB space sv nv wv fused fuse true) :: H) ∨ (v' = .int .i64 0 ∧ down = false ∧ ¬ (fused = true ∧ fuse = 0) ∧ H' = (rb, rdkB space sv nv wv fused (if fused then fuse - 1 else fuse) false) :: H)) := by
  refine K.enterK Try.func68 rfl rfl rfl ?_
  intro Q hNP hQ
  unfold rdkB at hQ ⊢
  cases down with
  | true =>
    (repeat' (first | refine a_go ?_ | (with_reducible apply Fin.thenK; assumption) | (with_reducible (first | apply C.seqK | apply C.regionK); intro _ _) | (apply R.buildSlice0; exact rfl; intro bz) | (apply R.box; exact rfl; (simp only [Value.cells]; rfl); exact rfl; intro bx) | (apply R.alloc; (simp only [Value.cells]; rfl); exact rfl; intro ba) | (apply R.buildSlice; (exact a_prt); exact rfl; exact rfl; (exact a_fills); exact rfl; intro bl) | (refine a_sp ?_ ?_; (intro h; skip; rotate_left; intro h; skip; rotate_left)) | fail))
    (apply Fin.returnA (H2 := (rb, .cells [.int .i64 space, sv, nv, wv, .bool fused, .int .i64 fuse, .bool true].toArray 90 (0, 0)) :: H); assumption; (first | exact .inl rfl | exact .inr rfl); exact rfl; (exact a_res); (simp only [retv]; rfl); (exact a_arr))
    exact ⟨rfl, .inl ⟨rfl, .inl rfl, rfl⟩⟩
  | false =>
    cases fused with
    | false =>
      (repeat' (first | refine a_go ?_ | (with_reducible apply Fin.thenK; assumption) | (with_reducible (first | apply C.seqK | apply C.regionK); intro _ _) | (apply R.buildSlice0; exact rfl; intro bz) | (apply R.box; exact rfl; (simp only [Value.cells]; rfl); exact rfl; intro bx) | (apply R.alloc; (simp only [Value.cells]; rfl); exact rfl; intro ba) | (apply R.buildSlice; (exact a_prt); exact rfl; exact rfl; (exact a_fills); exact rfl; intro bl) | (refine a_sp ?_ ?_; (intro h; skip; rotate_left; intro h; skip; rotate_left)) | fail))
      (apply Fin.returnA (H2 := (rb, .cells [.int .i64 space, sv, nv, wv, .bool false, .int .i64 fuse, .bool false].toArray 90 (0, 0)) :: H); assumption; (first | exact .inl rfl | exact .inr rfl); exact rfl; (exact a_res); (simp only [retv]; rfl); (exact a_arr))
      exact ⟨rfl, .inr ⟨rfl, rfl, fun h => (by cases h.1), rfl⟩⟩
    | true =>
      have hf' := hf rfl
      by_cases h0 : fuse = 0
      · subst h0
        (repeat' (first | refine a_go ?_ | (with_reducible apply Fin.thenK; assumption) | (with_reducible (first | apply C.seqK | apply C.regionK); intro _ _) | (apply R.buildSlice0; exact rfl; intro bz) | (apply R.box; exact rfl; (simp only [Value.cells]; rfl); exact rfl; intro bx) | (apply R.alloc; (simp only [Value.cells]; rfl); exact rfl; intro ba) | (apply R.buildSlice; (exact a_prt); exact rfl; exact rfl; (exact a_fills); exact rfl; intro bl) | (refine a_sp ?_ ?_; (intro h; skip; rotate_left; intro h; skip; rotate_left)) | fail))
        (apply Fin.returnA (H2 := (rb, .cells [.int .i64 space, sv, nv, wv, .bool true, .int .i64 0, .bool true].toArray 90 (0, 0)) :: H); assumption; (first | exact .inl rfl | exact .inr rfl); exact rfl; (exact a_res); (simp only [retv]; rfl); (exact a_arr))
        exact ⟨rfl, .inl ⟨rfl, .inr ⟨rfl, rfl⟩, rfl⟩⟩
      · (repeat' (first | refine a_go ?_ | (with_reducible apply Fin.thenK; assumption) | (with_reducible (first | apply C.seqK | apply C.regionK); intro _ _) | (apply R.buildSlice0; exact rfl; intro bz) | (apply R.box; exact rfl; (simp only [Value.cells]; rfl); exact rfl; intro bx) | (apply R.alloc; (simp only [Value.cells]; rfl); exact rfl; intro ba) | (apply R.buildSlice; (exact a_prt); exact rfl; exact rfl; (exact a_fills); exact rfl; intro bl) | (refine a_sp ?_ ?_; (intro h; skip; rotate_left; intro h; skip; rotate_left)) | fail))
        · exfalso
          exact h0 ‹_›
        (apply Fin.returnA (H2 := (rb, .cells [.int .i64 space, sv, nv, wv, .bool true, .int .i64 (fuse - 1), .bool false].toArray 90 (0, 0)) :: H); assumption; (first | exact .inl rfl | exact .inr rfl); exact rfl; (exact a_res); (simp only [retv]; rfl); (exact a_arr))
        exact ⟨rfl, .inr ⟨rfl, rfl, fun h => h0 h.2, rfl⟩⟩
theorem RdI.stop {d : Dk} {x : RdX} (h : RdI M d x) : stopD d ↔ (d.down = true ∨ (x.fused = true ∧ x.fuse = 0)) := by
  have h1 := h.fu
  have h2 := h.fu0
  unfold stopD
  cases hx : x.fused with
  | false =>
    rw [hx] at h1
    change d.fuse = -1 at h1
    rw [h1]
    constructor
    · rintro (h | h)
      · exact .inl h
      · exact absurd h (by decide)
    · rintro (h | h)
      · exact .inl h
      · exact absurd h.1 (by decide)
  | true =>
    rw [hx] at h1
    change d.fuse = x.fuse at h1
    rw [h1]
    constructor
    · rintro (h | h)
      · exact .inl h
      · exact .inr ⟨rfl, h⟩
    · rintro (h | h)
      · exact .inl h
      · exact .inr h.2
theorem rcounts_KD {rb : Nat} {d : Dk} {hp : Hp} (ho : RdO M rb d hp) : K Try.prog 68 [.pointer (some ⟨rb, 0, none⟩)] M (hp ++ H) fun v' M' H' => v' = .int .i64 (if stopD d then 3 else 0) ∧ M' = M ∧ ∃ hp', RdO M rb (cntD d) hp' ∧ H' = hp' ++ H ∧ (¬ stopD d → (cntD d).down = false) := by
  obtain ⟨x, hx, rfl⟩ := ho
  have hst := hx.stop
  have hok := cntD_ok hx.ok
  have hfu := hx.fu
  have hfu2 := hx.ok.2.1
  refine (rcounts_K (fun h => ⟨hx.fu0 h, ?_⟩)).mono ?_
  · rw [h] at hfu
    change d.fuse = x.fuse at hfu
    omega
  rintro _ _ _ ⟨rfl, ⟨rfl, h1, rfl⟩ | ⟨rfl, h1, h2, rfl⟩⟩
  · have hs : stopD d := hst.2 h1
    have e : cntD d = { d with down := true } := if_pos hs
    rw [e] at hok ⊢
    exact ⟨by rw [if_pos hs], rfl, _, ⟨x, ⟨hok, hx.sF, hx.nG, hx.pS, hx.pN, hx.srtF, hx.srtG, hx.w, hx.fu, hx.fu0⟩, rfl⟩, rfl, fun h => absurd hs h⟩
  · have hs : ¬ stopD d := fun h => by
      rcases hst.1 h with h | h
      · rw [h] at h1; cases h1
      · exact h2 h
    have e : cntD d = { d with fuse := if 0 < d.fuse then d.fuse - 1 else d.fuse } := if_neg hs
    rw [e] at hok ⊢
    refine ⟨by rw [if_neg hs], rfl, [(rb, rdkB d.room x.sv x.nv x.wv x.fused (if x.fused then x.fuse - 1 else x.fuse) false)], ⟨{ x with fuse := if x.fused then x.fuse - 1 else x.fuse }, ⟨hok, hx.sF, hx.nG, hx.pS, hx.pN, hx.srtF, hx.srtG, hx.w, ?_, ?_⟩, ?_⟩, rfl, fun h => h1⟩
    · dsimp only
      cases hxf : x.fused with
      | false =>
        rw [hxf] at hfu
        change d.fuse = -1 at hfu
        rw [hfu]
        rfl
      | true =>
        rw [hxf] at hfu
        change d.fuse = x.fuse at hfu
        have h0 := hx.fu0 hxf
        have hne : x.fuse ≠ 0 := fun e => h2 ⟨hxf, e⟩
        rw [if_pos (by omega), hfu]
        rfl
    · dsimp only
      intro hxf
      have h0 := hx.fu0 hxf
      have hne : x.fuse ≠ 0 := fun e => h2 ⟨hxf, e⟩
      rw [hxf]
      show 0 ≤ x.fuse - 1
      omega
    · dsimp only
      rw [h1]
theorem rname_K {n : Txt} (hn : n.length ≤ 9223372036854775807) : K Try.prog 69 [str n] M H fun v' M' H' => v' = .bool (namedB n) ∧ M' = M ∧ H' = H := by
  refine K.enterK Try.func69 rfl rfl rfl ?_
  intro Q hNP hQ
  (repeat' (first | (apply R.step; (apply Ok.move; exact rfl); exact rfl) | (apply R.step; (apply Ok.lenT; exact rfl); exact rfl) | refine a_go ?_ | (with_reducible apply Fin.thenK; assumption) | (with_reducible (first | apply C.seqK | apply C.regionK); intro _ _) | (apply R.buildSlice0; exact rfl; intro bz) | (apply R.box; exact rfl; (simp only [Value.cells]; rfl); exact rfl; intro bx) | (apply R.alloc; (simp only [Value.cells]; rfl); exact rfl; intro ba) | (apply R.buildSlice; (exact a_prt); exact rfl; exact rfl; (exact a_fills); exact rfl; intro bl) | (refine a_sp ?_ ?_; (intro h; skip; rotate_left; intro h; skip; rotate_left)) | fail))
  · have h : (1 : Int) ≤ (n.length : Int) := by assumption
    (refine Fin.rt ?_)
    refine ⟨?_, rfl, rfl⟩
    unfold namedB
    congr 1
    rw [decide_eq_decide]
    constructor <;> intro <;> omega
  · have h : ¬ (1 : Int) ≤ (n.length : Int) := by assumption
    (refine Fin.rt ?_)
    refine ⟨?_, rfl, rfl⟩
    unfold namedB
    rw [decide_eq_false (fun h1 => h (by omega))]
theorem PlFs.form {v : Value} {F : Fs} (h : PlFs M v F) : ∃ A cap es, v = .slice A es.length cap ∧ es.length ≤ cap ∧ cap ≤ 9223372036854775807 ∧ Pl M A (es.map feC).flatten ∧ EsOk M es ∧ es.map feP = F := by
  unfold PlFs at h
  exact h
theorem sumF_take {F : Fs} {i : Nat} (h : i < F.length) : sumF (F.take (i + 1)) = sumF (F.take i) + F[i].2.length := by
  rw [take_snocE h]
  unfold sumF
  rw [List.map_append, List.sum_append]
  simp
theorem sumF_le {F : Fs} (i : Nat) : sumF (F.take i) ≤ sumF F := by
  have h : sumF F = sumF (F.take i) + sumF (F.drop i) := by
    unfold sumF
    rw [← List.sum_append, ← List.map_append, List.take_append_drop]
  omega
theorem rused_KD {rb : Nat} {d : Dk} {hp : Hp} (ho : RdO M rb d hp) : K Try.prog 57 [.pointer (some ⟨rb, 0, none⟩)] M (hp ++ H) fun v' M' H' => v' = .int .i64 (usedD d.down d.now : Int) ∧ M' = M ∧ H' = hp ++ H := by
  obtain ⟨⟨F, G, sv, nv, wv, fused, fuse⟩, hx, rfl⟩ := ho
  have hsum := hx.sum
  have hle := hx.ok.sum
  have hnG := hx.nG
  dsimp only at hsum hnG ⊢
  obtain ⟨A, cap, es, rfl, h1, h2, h3, h4, rfl⟩ := hnG.form
  refine K.enterK Try.func57 rfl rfl rfl ?_
  intro Q hNP hQ
  unfold rdkB at hQ ⊢
  unfold usedD at hQ
  cases hdn : d.down with
  | true =>
    rw [hdn] at hQ
    (repeat' (first | refine a_go ?_ | (with_reducible apply Fin.thenK; assumption) | (with_reducible (first | apply C.seqK | apply C.regionK); intro _ _) | (apply R.buildSlice0; exact rfl; intro bz) | (apply R.box; exact rfl; (simp only [Value.cells]; rfl); exact rfl; intro bx) | (apply R.alloc; (simp only [Value.cells]; rfl); exact rfl; intro ba) | (apply R.buildSlice; (exact a_prt); exact rfl; exact rfl; (exact a_fills); exact rfl; intro bl) | (refine a_sp ?_ ?_; (intro h; skip; rotate_left; intro h; skip; rotate_left)) | fail))
    apply C.loop (fun y : FiX => y.ii = 0) (fun y => [(0, .pointer (some ⟨rb, 0, none⟩)), (3, .int .i64 0), (4, .int .i64 y.ii)]) (fun _ => M) (fun _ => (rb, .cells [.int .i64 d.room, sv, .slice A es.length cap, wv, .bool fused, .int .i64 fuse, .bool true].toArray 90 (0, 0)) :: H) (fun _ => 0) ⟨0, 0⟩
    · exact rfl
    · (exact a_subs)
    · exact rfl
    · exact rfl
    rintro ⟨i, ii⟩ hii
    dsimp only at hii ⊢
    subst hii
    (repeat' (first | refine a_go ?_ | (with_reducible apply Fin.thenK; assumption) | (with_reducible (first | apply C.seqK | apply C.regionK); intro _ _) | (apply R.buildSlice0; exact rfl; intro bz) | (apply R.box; exact rfl; (simp only [Value.cells]; rfl); exact rfl; intro bx) | (apply R.alloc; (simp only [Value.cells]; rfl); exact rfl; intro ba) | (apply R.buildSlice; (exact a_prt); exact rfl; exact rfl; (exact a_fills); exact rfl; intro bl) | (refine a_sp ?_ ?_; (intro h; skip; rotate_left; intro h; skip; rotate_left)) | fail))
    all_goals (
      (apply Fin.returnA (H2 := (rb, .cells [.int .i64 d.room, sv, .slice A es.length cap, wv, .bool fused, .int .i64 fuse, .bool true].toArray 90 (0, 0)) :: H); assumption; (first | exact .inl rfl | exact .inr rfl); exact rfl; (exact a_res); (simp only [retv]; rfl); (exact a_arr))
      exact ⟨rfl, rfl, rfl⟩)
  | false =>
    rw [hdn] at hQ
    (repeat' (first | refine a_go ?_ | (with_reducible apply Fin.thenK; assumption) | (with_reducible (first | apply C.seqK | apply C.regionK); intro _ _) | (apply R.buildSlice0; exact rfl; intro bz) | (apply R.box; exact rfl; (simp only [Value.cells]; rfl); exact rfl; intro bx) | (apply R.alloc; (simp only [Value.cells]; rfl); exact rfl; intro ba) | (apply R.buildSlice; (exact a_prt); exact rfl; exact rfl; (exact a_fills); exact rfl; intro bl) | (refine a_sp ?_ ?_; (intro h; skip; rotate_left; intro h; skip; rotate_left)) | fail))
    apply C.loop (fun y : FiX => (y.i : Int) = y.ii ∧ y.i ≤ es.length) (fun y => [(0, .pointer (some ⟨rb, 0, none⟩)), (3, .int .i64 (sumF ((es.map feP).take y.i) : Int)), (4, .int .i64 y.ii)]) (fun _ => M) (fun _ => (rb, .cells [.int .i64 d.room, sv, .slice A es.length cap, wv, .bool fused, .int .i64 fuse, .bool false].toArray 90 (0, 0)) :: H) (fun y => es.length - y.i) ⟨0, 0⟩
    · exact ⟨rfl, Nat.zero_le _⟩
    · (exact a_subs)
    · exact rfl
    · exact rfl
    rintro ⟨i, ii⟩ ⟨hii, hi⟩
    dsimp only at hii hi ⊢
    by_cases hix : i < es.length
    · obtain ⟨b, o, c, e, fr, hA, hM, hc0, hc1⟩ := fe_at h3 hix
      subst hA
      obtain ⟨Ai, ci, hvi, _⟩ := h4 _ (List.getElem_mem hix)
      rw [show o + i * 2 = o + ii.toNat * 2 by omega, hvi] at hc1
      have hst := sumF_take (F := es.map feP) (i := i) (by rw [List.length_map]; exact hix)
      rw [List.getElem_map] at hst
      change _ = _ + es[i].b.length at hst
      have hsl := sumF_le (F := es.map feP) (i + 1)
      (repeat' (first | (apply R.step; (apply Ok.move; exact rfl); exact rfl) | (apply R.step; (first | (apply Ok.ltTr; exact rfl; exact rfl; omega) | (apply Ok.loadP; exact rfl; exact rfl; exact hM; exact hc1) | (apply Ok.addB; exact rfl; exact rfl; apply w64; omega; omega)); exact rfl) | refine a_go ?_ | (with_reducible apply Fin.thenK; assumption) | (with_reducible (first | apply C.seqK | apply C.regionK); intro _ _) | (apply R.buildSlice0; exact rfl; intro bz) | (apply R.box; exact rfl; (simp only [Value.cells]; rfl); exact rfl; intro bx) | (apply R.alloc; (simp only [Value.cells]; rfl); exact rfl; intro ba) | (apply R.buildSlice; (exact a_prt); exact rfl; exact rfl; (exact a_fills); exact rfl; intro bl) | (refine a_sp ?_ ?_; (intro h; skip; rotate_left; intro h; skip; rotate_left)) | fail))
      refine Fin.again (⟨i + 1, ii + 1⟩ : FiX) ⟨by dsimp only; omega, by dsimp only; omega⟩ (by dsimp only; omega) ?_ rfl rfl
      dsimp only
      rw [hst]
      (exact a_subs)
    have hie : i = es.length := by omega
    subst hie
    have hall : sumF ((es.map feP).take es.length) = sumF d.now := by rw [List.take_of_length_le (by rw [List.length_map]; exact Nat.le_refl _), hsum]
    rw [hall]
    (repeat' (first | (apply R.step; (apply Ok.move; exact rfl); exact rfl) | (apply R.step; (apply Ok.ltF; exact rfl; exact rfl; omega); exact rfl) | refine a_go ?_ | (with_reducible apply Fin.thenK; assumption) | (with_reducible (first | apply C.seqK | apply C.regionK); intro _ _) | (apply R.buildSlice0; exact rfl; intro bz) | (apply R.box; exact rfl; (simp only [Value.cells]; rfl); exact rfl; intro bx) | (apply R.alloc; (simp only [Value.cells]; rfl); exact rfl; intro ba) | (apply R.buildSlice; (exact a_prt); exact rfl; exact rfl; (exact a_fills); exact rfl; intro bl) | (refine a_sp ?_ ?_; (intro h; skip; rotate_left; intro h; skip; rotate_left)) | fail))
    (apply Fin.returnA (H2 := (rb, .cells [.int .i64 d.room, sv, .slice A es.length cap, wv, .bool fused, .int .i64 fuse, .bool false].toArray 90 (0, 0)) :: H); assumption; (first | exact .inl rfl | exact .inr rfl); exact rfl; (exact a_res); (simp only [retv]; rfl); (exact a_arr))
    exact ⟨rfl, rfl, rfl⟩
theorem rread_KD {rb : Nat} {d : Dk} {hp : Hp} {n : Txt} (ho : RdO M rb d hp) (hl : d.now.length ≤ 1000000) : K Try.prog 47 [.pointer (some ⟨rb, 0, none⟩), str n] M (hp ++ H) fun v' M' H' => ∃ v, v' = .tuple #[v, .bool (readD d n).isSome] ∧ PlB M v ((readD d n).getD []) ∧ M' = M ∧ H' = hp ++ H := by
  obtain ⟨⟨F, G, sv, nv, wv, fused, fuse⟩, hx, rfl⟩ := ho
  have hget := hx.get n
  have hnG := hx.nG
  have hlen := hx.len
  dsimp only at hget hnG hlen ⊢
  refine K.enterK Try.func47 rfl rfl rfl ?_
  intro Q hNP hQ
  unfold rdkB at hQ ⊢
  unfold readD at hQ
  (repeat' (first | refine a_go ?_ | (with_reducible apply Fin.thenK; assumption) | (with_reducible (first | apply C.seqK | apply C.regionK); intro _ _) | (apply R.buildSlice0; exact rfl; intro bz) | (apply R.box; exact rfl; (simp only [Value.cells]; rfl); exact rfl; intro bx) | (apply R.alloc; (simp only [Value.cells]; rfl); exact rfl; intro ba) | (apply R.buildSlice; (exact a_prt); exact rfl; exact rfl; (exact a_fills); exact rfl; intro bl) | (refine a_sp ?_ ?_; (intro h; skip; rotate_left; intro h; skip; rotate_left)) | fail))
  (apply R.call; (exact a_evs); exact rfl; exact rfind_K hnG (by omega); rintro _ M _ ⟨rfl, rfl, rfl⟩)
  cases hdn : d.down with
  | true =>
    rw [hdn] at hQ
    (repeat' (first | refine a_go ?_ | (with_reducible apply Fin.thenK; assumption) | (with_reducible (first | apply C.seqK | apply C.regionK); intro _ _) | (apply R.buildSlice0; exact rfl; intro bz) | (apply R.box; exact rfl; (simp only [Value.cells]; rfl); exact rfl; intro bx) | (apply R.alloc; (simp only [Value.cells]; rfl); exact rfl; intro ba) | (apply R.buildSlice; (exact a_prt); exact rfl; exact rfl; (exact a_fills); exact rfl; intro bl) | (refine a_sp ?_ ?_; (intro h; skip; rotate_left; intro h; skip; rotate_left)) | fail))
    (apply Fin.returnA (H2 := (rb, .cells [.int .i64 d.room, sv, nv, wv, .bool fused, .int .i64 fuse, .bool true].toArray 90 (0, 0)) :: H); assumption; (first | exact .inl rfl | exact .inr rfl); exact rfl; (exact a_res); (simp only [retv]; rfl); (exact a_arr))
    exact ⟨_, rfl, PlB.nil, rfl, rfl⟩
  | false =>
    rw [hdn] at hQ
    rcases findI_spec G n 0 with ⟨h1, h2⟩ | ⟨j, b, h1, h2, h3⟩
    · rw [h1]
      rw [← hget, h2] at hQ
      (repeat' (first | refine a_go ?_ | (with_reducible apply Fin.thenK; assumption) | (with_reducible (first | apply C.seqK | apply C.regionK); intro _ _) | (apply R.buildSlice0; exact rfl; intro bz) | (apply R.box; exact rfl; (simp only [Value.cells]; rfl); exact rfl; intro bx) | (apply R.alloc; (simp only [Value.cells]; rfl); exact rfl; intro ba) | (apply R.buildSlice; (exact a_prt); exact rfl; exact rfl; (exact a_fills); exact rfl; intro bl) | (refine a_sp ?_ ?_; (intro h; skip; rotate_left; intro h; skip; rotate_left)) | fail))
      (apply Fin.returnA (H2 := (rb, .cells [.int .i64 d.room, sv, nv, wv, .bool fused, .int .i64 fuse, .bool false].toArray 90 (0, 0)) :: H); assumption; (first | exact .inl rfl | exact .inr rfl); exact rfl; (exact a_res); (simp only [retv]; rfl); (exact a_arr))
      exact ⟨_, rfl, PlB.nil, rfl, rfl⟩
    · rw [h1]
      rw [← hget, h3] at hQ
      obtain ⟨A', cap', bb, o, cc, e, fr, Af, cf, rfl, rfl, hM, g1, g2, g3, g4, g5⟩ := hnG.get h2
      rw [show o + j * 2 = o + (0 + (j : Int)).toNat * 2 by omega] at g2
      have hjl : j < G.length := (List.getElem?_eq_some_iff.1 h2).1
      have hge : ¬ (0 : Int) + (j : Int) < 0 := by omega
      (repeat' (first | (apply R.step; (apply Ok.move; exact rfl); exact rfl) | (apply R.step; (first | (apply Ok.ltF; exact rfl; exact rfl; exact hge) | (apply Ok.loadP; exact rfl; exact rfl; exact hM; exact g2)); exact rfl) | refine a_go ?_ | (with_reducible apply Fin.thenK; assumption) | (with_reducible (first | apply C.seqK | apply C.regionK); intro _ _) | (apply R.buildSlice0; exact rfl; intro bz) | (apply R.box; exact rfl; (simp only [Value.cells]; rfl); exact rfl; intro bx) | (apply R.alloc; (simp only [Value.cells]; rfl); exact rfl; intro ba) | (apply R.buildSlice; (exact a_prt); exact rfl; exact rfl; (exact a_fills); exact rfl; intro bl) | (refine a_sp ?_ ?_; (intro h; skip; rotate_left; intro h; skip; rotate_left)) | fail))
      (apply Fin.returnA (H2 := (rb, .cells [.int .i64 d.room, sv, .slice (some ⟨bb, o, none⟩) G.length cap', wv, .bool fused, .int .i64 fuse, .bool false].toArray 90 (0, 0)) :: H); assumption; (first | exact .inl rfl | exact .inr rfl); exact rfl; (exact a_res); (simp only [retv]; rfl); (exact a_arr))
      exact ⟨_, rfl, ⟨Af, cf, rfl, g3, g4, g5⟩, rfl, rfl⟩
structure RnX where
  i : Nat
  ii : Int
  v : Value
  hp : Hp
theorem rnames_KD {rb : Nat} {d : Dk} {hp : Hp} (ho : RdO M rb d hp) (hl : d.now.length ≤ 1000000) : K Try.prog 55 [.pointer (some ⟨rb, 0, none⟩)] M (hp ++ H) fun v' M' H' => M' = M ∧ ∃ hn, Own 9 1 v' (namesD d.down d.now).length ((namesD d.down d.now).map str) hn ∧ H' = hn ++ (hp ++ H) := by
  obtain ⟨⟨F, G, sv, nv, wv, fused, fuse⟩, hx, rfl⟩ := ho
  have hnm := srt_names hx.srtG hx.pN
  have hnG := hx.nG
  have hlen := hx.len
  dsimp only at hnm hnG hlen ⊢
  obtain ⟨A, cap, es, rfl, h1, h2, h3, h4, rfl⟩ := hnG.form
  rw [List.length_map] at hlen
  have hkm : keyS (es.map feP) = es.map FE.n := by
    unfold keyS
    rw [List.map_map]
    rfl
  rw [hkm] at hnm
  refine K.enterK Try.func55 rfl rfl rfl ?_
  intro Q hNP hQ
  unfold rdkB at hQ ⊢
  unfold namesD at hQ
  cases hdn : d.down with
  | true =>
    rw [hdn] at hQ
    (repeat' (first | refine a_go ?_ | (with_reducible apply Fin.thenK; assumption) | (with_reducible (first | apply C.seqK | apply C.regionK); intro _ _) | (apply R.buildSlice0; exact rfl; intro bz) | (apply R.box; exact rfl; (simp only [Value.cells]; rfl); exact rfl; intro bx) | (apply R.alloc; (simp only [Value.cells]; rfl); exact rfl; intro ba) | (apply R.buildSlice; (exact a_prt); exact rfl; exact rfl; (exact a_fills); exact rfl; intro bl) | (refine a_sp ?_ ?_; (intro h; skip; rotate_left; intro h; skip; rotate_left)) | fail))
    apply C.loop (fun y : FiX => y.ii = 0) (fun y => [(0, .pointer (some ⟨rb, 0, none⟩)), (3, .slice none 0 0), (4, .int .i64 y.ii)]) (fun _ => M) (fun _ => (rb, .cells [.int .i64 d.room, sv, .slice A es.length cap, wv, .bool fused, .int .i64 fuse, .bool true].toArray 90 (0, 0)) :: H) (fun _ => 0) ⟨0, 0⟩
    · exact rfl
    · (exact a_subs)
    · exact rfl
    · exact rfl
    rintro ⟨i, ii⟩ hii
    dsimp only at hii ⊢
    subst hii
    (repeat' (first | refine a_go ?_ | (with_reducible apply Fin.thenK; assumption) | (with_reducible (first | apply C.seqK | apply C.regionK); intro _ _) | (apply R.buildSlice0; exact rfl; intro bz) | (apply R.box; exact rfl; (simp only [Value.cells]; rfl); exact rfl; intro bx) | (apply R.alloc; (simp only [Value.cells]; rfl); exact rfl; intro ba) | (apply R.buildSlice; (exact a_prt); exact rfl; exact rfl; (exact a_fills); exact rfl; intro bl) | (refine a_sp ?_ ?_; (intro h; skip; rotate_left; intro h; skip; rotate_left)) | fail))
    all_goals (
      (apply Fin.returnA (H2 := [] ++ ((rb, .cells [.int .i64 d.room, sv, .slice A es.length cap, wv, .bool fused, .int .i64 fuse, .bool true].toArray 90 (0, 0)) :: H)); assumption; (first | exact .inl rfl | exact .inr rfl); exact rfl; (exact a_res); (simp only [retv]; rfl); (exact a_arr))
      exact ⟨rfl, [], Own.nil _ _, rfl⟩)
  | false =>
    rw [hdn] at hQ
    (repeat' (first | refine a_go ?_ | (with_reducible apply Fin.thenK; assumption) | (with_reducible (first | apply C.seqK | apply C.regionK); intro _ _) | (apply R.buildSlice0; exact rfl; intro bz) | (apply R.box; exact rfl; (simp only [Value.cells]; rfl); exact rfl; intro bx) | (apply R.alloc; (simp only [Value.cells]; rfl); exact rfl; intro ba) | (apply R.buildSlice; (exact a_prt); exact rfl; exact rfl; (exact a_fills); exact rfl; intro bl) | (refine a_sp ?_ ?_; (intro h; skip; rotate_left; intro h; skip; rotate_left)) | fail))
    apply C.loop (fun y : RnX => (y.i : Int) = y.ii ∧ y.i ≤ es.length ∧ Own 9 1 y.v y.i (((es.take y.i).map FE.n).map str) y.hp) (fun y => [(0, .pointer (some ⟨rb, 0, none⟩)), (3, y.v), (4, .int .i64 y.ii)]) (fun _ => M) (fun y => y.hp ++ ((rb, .cells [.int .i64 d.room, sv, .slice A es.length cap, wv, .bool fused, .int .i64 fuse, .bool false].toArray 90 (0, 0)) :: H)) (fun y => es.length - y.i) ⟨0, 0, .slice none 0 0, []⟩
    · exact ⟨rfl, Nat.zero_le _, Own.nil _ _⟩
    · (exact a_subs)
    · exact rfl
    · exact rfl
    rintro ⟨i, ii, v, hp⟩ ⟨hii, hi, hown⟩
    dsimp only at hii hi hown ⊢
    by_cases hix : i < es.length
    · obtain ⟨b, o, c, e, fr, hA, hM, hc0, hc1⟩ := fe_at h3 hix
      subst hA
      rw [show o + i * 2 = o + ii.toNat * 2 by omega] at hc0
      (repeat' (first | (apply R.step; (apply Ok.move; exact rfl); exact rfl) | (apply R.step; (first | (apply Ok.ltTr; exact rfl; exact rfl; omega) | (apply Ok.loadP; exact rfl; exact rfl; exact hM; exact hc0)); exact rfl) | refine a_go ?_ | (with_reducible apply Fin.thenK; assumption) | (with_reducible (first | apply C.seqK | apply C.regionK); intro _ _) | (apply R.buildSlice0; exact rfl; intro bz) | (apply R.box; exact rfl; (simp only [Value.cells]; rfl); exact rfl; intro bx) | (apply R.alloc; (simp only [Value.cells]; rfl); exact rfl; intro ba) | (apply R.buildSlice; (exact a_prt); exact rfl; exact rfl; (exact a_fills); exact rfl; intro bl) | (refine a_sp ?_ ?_; (intro h; skip; rotate_left; intro h; skip; rotate_left)) | fail))
      (apply R.append (news := [str es[i].n]) (k := 1); exact rfl; exact rfl; exact hown; (exact a_tk); exact Rd.at_ (l := [str es[i].n]) (by (exact a_at)) (fun j x h => by rw [Nat.zero_add]; exact h); exact rfl; (intro u hu; rw [List.mem_singleton] at hu; rw [hu]; rfl); omega; exact rfl; decide; decide; exact rfl; rintro v3 hp3 ho3)
      (repeat' (first | refine a_go ?_ | (with_reducible apply Fin.thenK; assumption) | (with_reducible (first | apply C.seqK | apply C.regionK); intro _ _) | (apply R.buildSlice0; exact rfl; intro bz) | (apply R.box; exact rfl; (simp only [Value.cells]; rfl); exact rfl; intro bx) | (apply R.alloc; (simp only [Value.cells]; rfl); exact rfl; intro ba) | (apply R.buildSlice; (exact a_prt); exact rfl; exact rfl; (exact a_fills); exact rfl; intro bl) | (refine a_sp ?_ ?_; (intro h; skip; rotate_left; intro h; skip; rotate_left)) | fail))
      (apply Fin.arr (H2 := hp3 ++ ((rb, .cells [.int .i64 d.room, sv, .slice (some ⟨b, o, none⟩) es.length cap, wv, .bool fused, .int .i64 fuse, .bool false].toArray 90 (0, 0)) :: H)); ((try simp only [List.append_assoc, List.cons_append, List.nil_append, List.append_nil]); exact a_arr))
      refine Fin.again (⟨i + 1, ii + 1, v3, hp3⟩ : RnX) ⟨by dsimp only; omega, by dsimp only; omega, ?_⟩ (by dsimp only; omega) ?_ rfl rfl
      · dsimp only
        rw [take_snocE hix, List.map_append, List.map_append]
        exact ho3
      · (exact a_subs)
    have hie : i = es.length := by omega
    subst hie
    rw [List.take_length] at hown
    rw [hnm] at hQ
    obtain ⟨A1, c1, rfl, _, _⟩ := hown.form
    (repeat' (first | (apply R.step; (apply Ok.move; exact rfl); exact rfl) | (apply R.step; (apply Ok.ltF; exact rfl; exact rfl; omega); exact rfl) | refine a_go ?_ | (with_reducible apply Fin.thenK; assumption) | (with_reducible (first | apply C.seqK | apply C.regionK); intro _ _) | (apply R.buildSlice0; exact rfl; intro bz) | (apply R.box; exact rfl; (simp only [Value.cells]; rfl); exact rfl; intro bx) | (apply R.alloc; (simp only [Value.cells]; rfl); exact rfl; intro ba) | (apply R.buildSlice; (exact a_prt); exact rfl; exact rfl; (exact a_fills); exact rfl; intro bl) | (refine a_sp ?_ ?_; (intro h; skip; rotate_left; intro h; skip; rotate_left)) | fail))
    (apply Fin.returnA (H2 := hp ++ ((rb, .cells [.int .i64 d.room, sv, .slice A es.length cap, wv, .bool fused, .int .i64 fuse, .bool false].toArray 90 (0, 0)) :: H)); assumption; (first | exact .inl rfl | exact .inr rfl); exact rfl; (exact a_res); (simp only [retv]; rfl); (exact a_arr))
    refine ⟨rfl, hp, ?_, rfl⟩
    show Own _ 1 _ (es.map FE.n).length ((es.map FE.n).map str) _
    rw [List.length_map]
    exact hown
end Go.Sx
end
section
namespace Go.Sx
open Go Go.Proofs Go.RowKit
attribute [local irreducible] C R Fin K Own OwnT Rd Pl Ok KOf RetOk OpsOf RP KP Res NoPanic KV KE MapS ItS EntS FsO FsR RowD PlD DkO PlFs RT KT OneT
variable {M M' : Mem} {H H1 H2 : Hp}
theorem PlW.row {wv : Value} {ps : List De} (h : PlW M wv ps) : ∃ (A : Option Addr) (cap : Nat) (cs : List (List Value)), wv = .slice A ps.length cap ∧ ps.length ≤ cap ∧ cap ≤ 9223372036854775807 ∧ Pl M A cs.flatten ∧ cs.length = ps.length ∧ (∀ c ∈ cs, c.length = 5) ∧ (∀ u ∈ cs.flatten, u.oneCell' = true) ∧ ∀ (i : Nat) (x : De) (c : List Value), ps[i]? = some x → cs[i]? = some c → DeC M x c := by
  obtain ⟨A, cap, h1, h2, h3, h4⟩ := h
  unfold PlD at h4
  obtain ⟨cs, g1, g2, g3⟩ := h4
  have hc : ∀ c ∈ cs, c.length = 5 ∧ ∀ u ∈ c, u.oneCell' = true := by
    intro c hc
    obtain ⟨j, hj, rfl⟩ := List.mem_iff_getElem.1 hc
    exact (g3 j _ _ (List.getElem?_eq_getElem (by omega)) (List.getElem?_eq_getElem hj)).cells
  refine ⟨A, cap, cs, h1, h2, h3, g1, g2, fun c h => (hc c h).1, ?_, g3⟩
  intro u hu
  obtain ⟨c, hcm, huc⟩ := List.mem_flatten.1 hu
  exact (hc c hcm).2 u huc
theorem PlW.snoc {A : Option Addr} {cap : Nat} {cs : List (List Value)} {ps : List De} {x : De} {c : List Value} (hl : ps.length + 1 ≤ cap) (hc : cap ≤ 9223372036854775807) (hp : Pl M A (cs.flatten ++ c)) (h2 : cs.length = ps.length) (h3 : ∀ (i : Nat) (x : De) (c : List Value), ps[i]? = some x → cs[i]? = some c → DeC M x c) (hx : DeC M x c) : PlW M (.slice A (ps.length + 1) cap) (ps ++ [x]) := by
  refine ⟨A, cap, by simp, by simpa using hl, hc, ?_⟩
  unfold PlD
  refine ⟨cs ++ [c], ?_, by rw [List.length_append, List.length_append, h2]; rfl, fun i x' c' hx' hc' => ?_⟩
  · rw [List.flatten_append]
    rw [show [c].flatten = c by simp]
    exact hp
  · by_cases hi : i < ps.length
    · rw [List.getElem?_append_left hi] at hx'
      rw [List.getElem?_append_left (by omega)] at hc'
      exact h3 i _ _ hx' hc'
    · rw [List.getElem?_append_right (by omega)] at hx'
      rw [List.getElem?_append_right (by omega), h2] at hc'
      obtain ⟨j, hj⟩ : ∃ j, j = i - ps.length := ⟨_, rfl⟩
      rw [← hj] at hx' hc'
      cases j with
      | zero =>
        injection hx' with hx'
        injection hc' with hc'
        rw [← hx', ← hc']
        exact hx
      | succ j => cases hx'
theorem rdoes_K {rb : Nat} {d : Dk} {hp : Hp} {x : De} {c : List Value} (ho : RdO M rb d hp) (hl : d.now.length ≤ 1000000) (hps : d.ps.length ≤ 1000000) (hx : DeC M x c) (hfit : Fit d.now x) (hok : Dk.ok { d with ps := d.ps ++ [x] }) : K Try.prog 71 [.pointer (some ⟨rb, 0, none⟩), .agg c.toArray] M (hp ++ H) fun v' M' H' => v' = .int .i64 0 ∧ M.le M' ∧ ∃ hp', RdO M' rb { d with ps := d.ps ++ [x] } hp' ∧ H' = hp' ++ H := by
  obtain ⟨⟨F, G, sv, nv, wv, fused, fuse⟩, hi, rfl⟩ := ho
  have hsm := hi.sum
  have hle := hi.ok.sum
  have hlen := hi.len
  have hnn := hi.srtG.nodup
  have hget := hi.get
  have hnG := hi.nG
  have hw := hi.w
  dsimp only at hsm hlen hnG hw hget hnn ⊢
  have hsmall : smallX G x := by
    have h := hfit.small (hi.pN.map Prod.fst |>.nodup_iff.1 hnn)
    cases x with
    | app n b => exact h
    | trc n k =>
      change k ≤ (fileD G n).length
      unfold fileD
      rw [hget]
      exact h
    | ren n t => trivial
    | rem n => trivial
  obtain ⟨c1, c2⟩ := hx.cells
  refine K.enterK Try.func71 rfl rfl rfl ?_
  intro Q hNP hQ
  unfold rdkB at hQ ⊢
  match c, c1 with
  | [c0, cn, ct, cb, cz], _ =>
  (repeat' (first | refine a_go ?_ | (with_reducible apply Fin.thenK; assumption) | (with_reducible (first | apply C.seqK | apply C.regionK); intro _ _) | (apply R.buildSlice0; exact rfl; intro bz) | (apply R.box; exact rfl; (simp only [Value.cells]; rfl); exact rfl; intro bx) | (apply R.alloc; (simp only [Value.cells]; rfl); exact rfl; intro ba) | (apply R.buildSlice; (exact a_prt); exact rfl; exact rfl; (exact a_fills); exact rfl; intro bl) | (refine a_sp ?_ ?_; (intro h; skip; rotate_left; intro h; skip; rotate_left)) | fail))
  (apply C.regionS (A := [0, 1, 2, 3, 4, 5, 6]) (t := .free 0 (.free 1 (.free 2 (.free 3 (.free 4 (.free 5 (.one 6 .nil))))))) (u := .free 7 (.free 8 (.one 9 .nil))) (Hs := [(bx, .cells #[c0, cn, ct, cb, cz] 115 (0, 0)), (rb, .cells [.int .i64 d.room, sv, nv, wv, .bool fused, .int .i64 fuse, .bool d.down].toArray 90 (0, 0))]); exact Mix.h; (first | exact Arr.all _ | (exact a_arr) | ((try simp only [List.append_assoc, List.cons_append, List.nil_append, List.append_nil]); exact a_arr)); (exact a_np); kernel_rfl)
  (repeat' (first | (apply RS.step; exact rfl; intro _ _ _; (exact a_ok); exact rfl) | (apply RS.stepT; exact rfl; exact rfl; exact rfl; exact rfl; intro _ _ _; (exact a_ok); exact rfl) | (apply RS.stepF; exact rfl; exact rfl; exact rfl; exact rfl; exact rfl; exact rfl) | (apply RS.stepU; exact rfl; exact rfl; exact rfl; exact rfl; exact rfl) | (apply RS.one; apply OneS.effF; exact rfl; exact rfl; exact rfl; exact rfl; exact rfl; exact rfl) | (apply RS.one; apply OneS.effU; exact rfl; exact rfl; exact rfl; exact rfl; exact rfl)))
  (apply RS.one; apply OneS.eff; exact rfl; intro Kc hKc ops0)
  (apply R.call; (exact a_evs); exact rfl; exact rdone_K hnG (by omega) (by omega) hx hsmall; rintro v1 M1 _ ⟨hf1, hM1, rfl⟩)
  obtain ⟨A1, k1, es1, rfl, _⟩ := hf1.form
  (apply R.nil; apply Fin.ks hKc; exact hM1; ((try simp only [List.append_assoc, List.cons_append, List.nil_append, List.append_nil]); exact a_arr))
  refine RS.later (Hs2 := []) (Hx2 := (bx, .cells #[c0, cn, ct, cb, cz] 115 (0, 0)) :: (rb, .cells [.int .i64 d.room, sv, nv, wv, .bool fused, .int .i64 fuse, .bool d.down].toArray 90 (0, 0)) :: H) (by ((try simp only [List.append_assoc, List.cons_append, List.nil_append, List.append_nil]); exact a_arr)) ?_
  (repeat' (first | (apply RT.step; exact rfl; intro _ _ _; (exact a_ok); exact rfl) | (apply RT.stepT; exact rfl; exact rfl; exact rfl; exact rfl; intro _ _ _; (exact a_ok); exact rfl) | (apply RT.stepF; exact rfl; exact rfl; exact rfl; exact rfl; exact rfl; exact rfl) | (apply RT.stepU; exact rfl; exact rfl; exact rfl; exact rfl; exact rfl) | (apply RT.one; apply OneT.effF; exact rfl; exact rfl; exact rfl; exact rfl; exact rfl; exact rfl) | (apply RT.one; apply OneT.effU; exact rfl; exact rfl; exact rfl; exact rfl; exact rfl)))
  (apply RT.one; apply OneT.eff; exact rfl; intro Kc hKc ops0)
  (repeat' (first | refine a_go ?_ | (with_reducible apply Fin.thenK; assumption) | (with_reducible (first | apply C.seqK | apply C.regionK); intro _ _) | (apply R.buildSlice0; exact rfl; intro bz) | (apply R.box; exact rfl; (simp only [Value.cells]; rfl); exact rfl; intro bx) | (apply R.alloc; (simp only [Value.cells]; rfl); exact rfl; intro ba) | (apply R.buildSlice; (exact a_prt); exact rfl; exact rfl; (exact a_fills); exact rfl; intro bl) | (refine a_sp ?_ ?_; (intro h; skip; rotate_left; intro h; skip; rotate_left)) | fail))
  ((first | apply R.nil | skip); apply Fin.kt hKc; exact Mem.le_refl _; ((try simp only [List.append_assoc, List.cons_append, List.nil_append, List.append_nil]); exact a_arr))
  apply RT.nil
  generalize hv1 : Value.slice A1 es1.length k1 = v1 at hf1
  (repeat' (first | refine a_go ?_ | (with_reducible apply Fin.thenK; assumption) | (with_reducible (first | apply C.seqK | apply C.regionK); intro _ _) | (apply R.buildSlice0; exact rfl; intro bz) | (apply R.box; exact rfl; (simp only [Value.cells]; rfl); exact rfl; intro bx) | (apply R.alloc; (simp only [Value.cells]; rfl); exact rfl; intro ba) | (apply R.buildSlice; (exact a_prt); exact rfl; exact rfl; (exact a_fills); exact rfl; intro bl) | (refine a_sp ?_ ?_; (intro h; skip; rotate_left; intro h; skip; rotate_left)) | fail))
  obtain ⟨A, cap, cs, rfl, w1, w2, w3, w4, w5, w6, w7⟩ := (hw.mono hM1).row
  have wl := rows_len w5
  (apply C.regionS (A := [0, 1, 2, 3, 4, 5, 6, 7, 8, 9]) (t := .free 0 (.free 2 (.free 3 (.free 4 (.free 5 (.free 7 (.alt 1 8 (.alt 6 8 (.one 8 (.one 9 .nil)) (.one 6 (.one 9 .nil))) (.one 1 (.one 6 (.one 9 .nil)))))))))) (u := .free 10 (.free 11 (.one 12 .nil))) (Hs := [(bx, .cells #[c0, cn, ct, cb, cz] 115 (0, 0)), (rb, .cells [.int .i64 d.room, sv, v1, .slice A d.ps.length cap, .bool fused, .int .i64 fuse, .bool d.down].toArray 90 (0, 0))]); exact Mix.h; (first | exact Arr.all _ | (exact a_arr) | ((try simp only [List.append_assoc, List.cons_append, List.nil_append, List.append_nil]); exact a_arr)); (exact a_np); kernel_rfl)
  (repeat' (first | (apply RS.step; exact rfl; intro _ _ _; (exact a_ok); exact rfl) | (apply RS.stepT; exact rfl; exact rfl; exact rfl; exact rfl; intro _ _ _; (exact a_ok); exact rfl) | (apply RS.stepF; exact rfl; exact rfl; exact rfl; exact rfl; exact rfl; exact rfl) | (apply RS.stepU; exact rfl; exact rfl; exact rfl; exact rfl; exact rfl) | (apply RS.one; apply OneS.effF; exact rfl; exact rfl; exact rfl; exact rfl; exact rfl; exact rfl) | (apply RS.one; apply OneS.effU; exact rfl; exact rfl; exact rfl; exact rfl; exact rfl)))
  have hpN : (doneF G x).Perm (Dk.now { d with ps := d.ps ++ [x] }) := by
    have e : Dk.now { d with ps := d.ps ++ [x] } = doF d.now x := by
      show (d.ps ++ [x]).foldl doF d.S = _
      rw [List.foldl_append]
      rfl
    rw [e]
    exact doneF_perm hi.srtG hi.pN
  apply RS.alt
  · apply OneS.eff; exact rfl; intro Kc hKc ops0
    (first | (apply R.store; exact rfl; exact rfl; exact rfl; (exact a_at); (exact a_blit); exact rfl; (focus (simp [Value.oneCell']; done))) | (apply R.buildSlice0; exact rfl; intro bz) | (apply R.box; exact rfl; (simp only [Value.cells]; rfl); exact rfl; intro bx) | (apply R.alloc; (simp only [Value.cells]; rfl); exact rfl; intro ba) | (apply R.buildSlice; (exact a_prt); exact rfl; exact rfl; (exact a_fills); exact rfl; intro bl))
    ((first | apply R.nil | skip); apply Fin.ks (Hx := (bz, .cells #[] 115 (0, 0)) :: H) hKc; exact Mem.le_refl _; ((try simp only [List.append_assoc, List.cons_append, List.nil_append, List.append_nil]); exact a_arr))
    apply RS.alt
    · apply OneS.eff; exact rfl; intro Kc hKc ops0
      (apply R.append (news := cs.flatten) (k := d.ps.length); exact rfl; exact rfl; exact Own.empty; (exact a_tk); exact w3.rd; (rw [wl, w4]); exact w6; omega; exact rfl; decide; decide; exact rfl; rintro v4 hp4 ho4)
      rw [Nat.zero_add, List.nil_append] at ho4
      obtain ⟨A4, k4, rfl, _, _⟩ := ho4.form
      ((first | apply R.nil | skip); apply Fin.ks (Hx := hp4 ++ H) hKc; exact Mem.le_refl _; ((try simp only [List.append_assoc, List.cons_append, List.nil_append, List.append_nil]); exact a_arr))
      (apply RS.one; apply OneS.eff; exact rfl; intro Kc hKc ops0)
      (apply R.buildSlice; (exact a_prt); exact rfl; exact rfl; (exact a_fills); exact rfl; intro bl)
      ((first | apply R.nil | skip); apply Fin.ks (Hx := hp4 ++ ((bl, .cells #[c0, cn, ct, cb, cz] 115 (0, 0)) :: H)) hKc; exact Mem.le_refl _; ((try simp only [List.append_assoc, List.cons_append, List.nil_append, List.append_nil]); exact a_arr))
      (apply RS.one; apply OneS.eff; exact rfl; intro Kc hKc ops0)
      (apply R.append (news := [c0, cn, ct, cb, cz]) (k := 1); exact rfl; exact rfl; exact ho4; (exact a_tk); exact Rd.at_ (l := [c0, cn, ct, cb, cz]) (by (exact a_at)) (fun j x h => by rw [Nat.zero_add]; exact h); exact rfl; exact c2; omega; exact rfl; decide; decide; exact rfl; rintro v5 hp5 ho5)
      obtain ⟨A5, k5, rfl, q1, q2⟩ := ho5.form
      ((first | apply R.nil | skip); apply Fin.ks (Hx := hp5 ++ H) hKc; exact Mem.le_refl _; ((try simp only [List.append_assoc, List.cons_append, List.nil_append, List.append_nil]); exact a_arr))
      refine RS.later (Hs2 := []) (Hx2 := (rb, .cells [.int .i64 d.room, sv, v1, .slice A d.ps.length cap, .bool fused, .int .i64 fuse, .bool d.down].toArray 90 (0, 0)) :: (hp5 ++ H)) (by ((try simp only [List.append_assoc, List.cons_append, List.nil_append, List.append_nil]); exact a_arr)) ?_
      (repeat' (first | (apply RT.step; exact rfl; intro _ _ _; (exact a_ok); exact rfl) | (apply RT.stepT; exact rfl; exact rfl; exact rfl; exact rfl; intro _ _ _; (exact a_ok); exact rfl) | (apply RT.stepF; exact rfl; exact rfl; exact rfl; exact rfl; exact rfl; exact rfl) | (apply RT.stepU; exact rfl; exact rfl; exact rfl; exact rfl; exact rfl) | (apply RT.one; apply OneT.effF; exact rfl; exact rfl; exact rfl; exact rfl; exact rfl; exact rfl) | (apply RT.one; apply OneT.effU; exact rfl; exact rfl; exact rfl; exact rfl; exact rfl)))
      (apply RT.one; apply OneT.eff; exact rfl; intro Kc hKc ops0)
      (repeat' (first | refine a_go ?_ | (with_reducible apply Fin.thenK; assumption) | (with_reducible (first | apply C.seqK | apply C.regionK); intro _ _) | (apply R.buildSlice0; exact rfl; intro bz) | (apply R.box; exact rfl; (simp only [Value.cells]; rfl); exact rfl; intro bx) | (apply R.alloc; (simp only [Value.cells]; rfl); exact rfl; intro ba) | (apply R.buildSlice; (exact a_prt); exact rfl; exact rfl; (exact a_fills); exact rfl; intro bl) | (refine a_sp ?_ ?_; (intro h; skip; rotate_left; intro h; skip; rotate_left)) | fail))
      ((first | apply R.nil | skip); apply Fin.kt hKc; exact Mem.le_refl _; ((try simp only [List.append_assoc, List.cons_append, List.nil_append, List.append_nil]); exact a_arr))
      apply RT.nil
      (repeat' (first | refine a_go ?_ | (with_reducible apply Fin.thenK; assumption) | (with_reducible (first | apply C.seqK | apply C.regionK); intro _ _) | (apply R.buildSlice0; exact rfl; intro bz) | (apply R.box; exact rfl; (simp only [Value.cells]; rfl); exact rfl; intro bx) | (apply R.alloc; (simp only [Value.cells]; rfl); exact rfl; intro ba) | (apply R.buildSlice; (exact a_prt); exact rfl; exact rfl; (exact a_fills); exact rfl; intro bl) | (refine a_sp ?_ ?_; (intro h; skip; rotate_left; intro h; skip; rotate_left)) | fail))
      (apply Fin.ice (hp := hp5) (H1 := (rb, .cells [.int .i64 d.room, sv, v1, .slice A5 (d.ps.length + 1) k5, .bool fused, .int .i64 fuse, .bool d.down].toArray 90 (0, 0)) :: H) (by ((try simp only [List.append_assoc, List.cons_append, List.nil_append, List.append_nil]); exact a_arr)); intro M2 hM2 hin2)
      (apply Fin.returnA (H2 := (rb, .cells [.int .i64 d.room, sv, v1, .slice A5 (d.ps.length + 1) k5, .bool fused, .int .i64 fuse, .bool d.down].toArray 90 (0, 0)) :: H); assumption; (first | exact .inl rfl | exact .inr rfl); exact rfl; (exact a_res); (simp only [retv]; rfl); (exact a_arr))
      exact ⟨rfl, hM1.trans_ hM2, _, ⟨⟨F, doneF G x, sv, v1, .slice A5 (d.ps.length + 1) k5, fused, fuse⟩, ⟨hok, hi.sF.mono (hM1.trans_ hM2), hf1.mono hM2, hi.pS, hpN, hi.srtF, doneF_srt hi.srtG, PlW.snoc q1 (by unfold maxLen at q2; omega) (ho5.plIn hin2) w4 (fun i x c h1 h2 => (w7 i x c h1 h2).mono hM2) (hx.mono (hM1.trans_ hM2)), hi.fu, hi.fu0⟩, rfl⟩, rfl⟩
    · apply OneS.eff; exact rfl; intro Kc hKc ops0
      (apply R.buildSlice; (exact a_prt); exact rfl; exact rfl; (exact a_fills); exact rfl; intro bl)
      ((first | apply R.nil | skip); apply Fin.ks (Hx := (bl, .cells #[c0, cn, ct, cb, cz] 115 (0, 0)) :: (bz, .cells #[] 115 (0, 0)) :: H) hKc; exact Mem.le_refl _; ((try simp only [List.append_assoc, List.cons_append, List.nil_append, List.append_nil]); exact a_arr))
      (apply RS.one; apply OneS.eff; exact rfl; intro Kc hKc ops0)
      (apply R.append (news := cs.flatten) (k := d.ps.length); exact rfl; exact rfl; exact Own.empty; (exact a_tk); exact w3.rd; (rw [wl, w4]); exact w6; omega; exact rfl; decide; decide; exact rfl; rintro v4 hp4 ho4)
      rw [Nat.zero_add, List.nil_append] at ho4
      obtain ⟨A4, k4, rfl, _, _⟩ := ho4.form
      ((first | apply R.nil | skip); apply Fin.ks (Hx := hp4 ++ ((bl, .cells #[c0, cn, ct, cb, cz] 115 (0, 0)) :: H)) hKc; exact Mem.le_refl _; ((try simp only [List.append_assoc, List.cons_append, List.nil_append, List.append_nil]); exact a_arr))
      (apply RS.one; apply OneS.eff; exact rfl; intro Kc hKc ops0)
      (apply R.append (news := [c0, cn, ct, cb, cz]) (k := 1); exact rfl; exact rfl; exact ho4; (exact a_tk); exact Rd.at_ (l := [c0, cn, ct, cb, cz]) (by (exact a_at)) (fun j x h => by rw [Nat.zero_add]; exact h); exact rfl; exact c2; omega; exact rfl; decide; decide; exact rfl; rintro v5 hp5 ho5)
      obtain ⟨A5, k5, rfl, q1, q2⟩ := ho5.form
      ((first | apply R.nil | skip); apply Fin.ks (Hx := hp5 ++ H) hKc; exact Mem.le_refl _; ((try simp only [List.append_assoc, List.cons_append, List.nil_append, List.append_nil]); exact a_arr))
      refine RS.later (Hs2 := []) (Hx2 := (rb, .cells [.int .i64 d.room, sv, v1, .slice A d.ps.length cap, .bool fused, .int .i64 fuse, .bool d.down].toArray 90 (0, 0)) :: (hp5 ++ H)) (by ((try simp only [List.append_assoc, List.cons_append, List.nil_append, List.append_nil]); exact a_arr)) ?_
      (repeat' (first | (apply RT.step; exact rfl; intro _ _ _; (exact a_ok); exact rfl) | (apply RT.stepT; exact rfl; exact rfl; exact rfl; exact rfl; intro _ _ _; (exact a_ok); exact rfl) | (apply RT.stepF; exact rfl; exact rfl; exact rfl; exact rfl; exact rfl; exact rfl) | (apply RT.stepU; exact rfl; exact rfl; exact rfl; exact rfl; exact rfl) | (apply RT.one; apply OneT.effF; exact rfl; exact rfl; exact rfl; exact rfl; exact rfl; exact rfl) | (apply RT.one; apply OneT.effU; exact rfl; exact rfl; exact rfl; exact rfl; exact rfl)))
      (apply RT.one; apply OneT.eff; exact rfl; intro Kc hKc ops0)
      (repeat' (first | refine a_go ?_ | (with_reducible apply Fin.thenK; assumption) | (with_reducible (first | apply C.seqK | apply C.regionK); intro _ _) | (apply R.buildSlice0; exact rfl; intro bz) | (apply R.box; exact rfl; (simp only [Value.cells]; rfl); exact rfl; intro bx) | (apply R.alloc; (simp only [Value.cells]; rfl); exact rfl; intro ba) | (apply R.buildSlice; (exact a_prt); exact rfl; exact rfl; (exact a_fills); exact rfl; intro bl) | (refine a_sp ?_ ?_; (intro h; skip; rotate_left; intro h; skip; rotate_left)) | fail))
      ((first | apply R.nil | skip); apply Fin.kt hKc; exact Mem.le_refl _; ((try simp only [List.append_assoc, List.cons_append, List.nil_append, List.append_nil]); exact a_arr))
      apply RT.nil
      (repeat' (first | refine a_go ?_ | (with_reducible apply Fin.thenK; assumption) | (with_reducible (first | apply C.seqK | apply C.regionK); intro _ _) | (apply R.buildSlice0; exact rfl; intro bz) | (apply R.box; exact rfl; (simp only [Value.cells]; rfl); exact rfl; intro bx) | (apply R.alloc; (simp only [Value.cells]; rfl); exact rfl; intro ba) | (apply R.buildSlice; (exact a_prt); exact rfl; exact rfl; (exact a_fills); exact rfl; intro bl) | (refine a_sp ?_ ?_; (intro h; skip; rotate_left; intro h; skip; rotate_left)) | fail))
      (apply Fin.ice (hp := hp5) (H1 := (rb, .cells [.int .i64 d.room, sv, v1, .slice A5 (d.ps.length + 1) k5, .bool fused, .int .i64 fuse, .bool d.down].toArray 90 (0, 0)) :: H) (by ((try simp only [List.append_assoc, List.cons_append, List.nil_append, List.append_nil]); exact a_arr)); intro M2 hM2 hin2)
      (apply Fin.returnA (H2 := (rb, .cells [.int .i64 d.room, sv, v1, .slice A5 (d.ps.length + 1) k5, .bool fused, .int .i64 fuse, .bool d.down].toArray 90 (0, 0)) :: H); assumption; (first | exact .inl rfl | exact .inr rfl); exact rfl; (exact a_res); (simp only [retv]; rfl); (exact a_arr))
      exact ⟨rfl, hM1.trans_ hM2, _, ⟨⟨F, doneF G x, sv, v1, .slice A5 (d.ps.length + 1) k5, fused, fuse⟩, ⟨hok, hi.sF.mono (hM1.trans_ hM2), hf1.mono hM2, hi.pS, hpN, hi.srtF, doneF_srt hi.srtG, PlW.snoc q1 (by unfold maxLen at q2; omega) (ho5.plIn hin2) w4 (fun i x c h1 h2 => (w7 i x c h1 h2).mono hM2) (hx.mono (hM1.trans_ hM2)), hi.fu, hi.fu0⟩, rfl⟩, rfl⟩
  · apply OneS.eff; exact rfl; intro Kc hKc ops0
    (apply R.buildSlice; (exact a_prt); exact rfl; exact rfl; (exact a_fills); exact rfl; intro bl)
    ((first | apply R.nil | skip); apply Fin.ks (Hx := (bl, .cells #[c0, cn, ct, cb, cz] 115 (0, 0)) :: H) hKc; exact Mem.le_refl _; ((try simp only [List.append_assoc, List.cons_append, List.nil_append, List.append_nil]); exact a_arr))
    (apply RS.one; apply OneS.eff; exact rfl; intro Kc hKc ops0)
    (first | (apply R.store; exact rfl; exact rfl; exact rfl; (exact a_at); (exact a_blit); exact rfl; (focus (simp [Value.oneCell']; done))) | (apply R.buildSlice0; exact rfl; intro bz) | (apply R.box; exact rfl; (simp only [Value.cells]; rfl); exact rfl; intro bx) | (apply R.alloc; (simp only [Value.cells]; rfl); exact rfl; intro ba) | (apply R.buildSlice; (exact a_prt); exact rfl; exact rfl; (exact a_fills); exact rfl; intro bl))
    ((first | apply R.nil | skip); apply Fin.ks (Hx := (bl, .cells #[c0, cn, ct, cb, cz] 115 (0, 0)) :: (bz, .cells #[] 115 (0, 0)) :: H) hKc; exact Mem.le_refl _; ((try simp only [List.append_assoc, List.cons_append, List.nil_append, List.append_nil]); exact a_arr))
    (apply RS.one; apply OneS.eff; exact rfl; intro Kc hKc ops0)
    (apply R.append (news := cs.flatten) (k := d.ps.length); exact rfl; exact rfl; exact Own.empty; (exact a_tk); exact w3.rd; (rw [wl, w4]); exact w6; omega; exact rfl; decide; decide; exact rfl; rintro v4 hp4 ho4)
    rw [Nat.zero_add, List.nil_append] at ho4
    obtain ⟨A4, k4, rfl, _, _⟩ := ho4.form
    ((first | apply R.nil | skip); apply Fin.ks (Hx := hp4 ++ ((bl, .cells #[c0, cn, ct, cb, cz] 115 (0, 0)) :: H)) hKc; exact Mem.le_refl _; ((try simp only [List.append_assoc, List.cons_append, List.nil_append, List.append_nil]); exact a_arr))
    (apply RS.one; apply OneS.eff; exact rfl; intro Kc hKc ops0)
    (apply R.append (news := [c0, cn, ct, cb, cz]) (k := 1); exact rfl; exact rfl; exact ho4; (exact a_tk); exact Rd.at_ (l := [c0, cn, ct, cb, cz]) (by (exact a_at)) (fun j x h => by rw [Nat.zero_add]; exact h); exact rfl; exact c2; omega; exact rfl; decide; decide; exact rfl; rintro v5 hp5 ho5)
    obtain ⟨A5, k5, rfl, q1, q2⟩ := ho5.form
    ((first | apply R.nil | skip); apply Fin.ks (Hx := hp5 ++ H) hKc; exact Mem.le_refl _; ((try simp only [List.append_assoc, List.cons_append, List.nil_append, List.append_nil]); exact a_arr))
    refine RS.later (Hs2 := []) (Hx2 := (rb, .cells [.int .i64 d.room, sv, v1, .slice A d.ps.length cap, .bool fused, .int .i64 fuse, .bool d.down].toArray 90 (0, 0)) :: (hp5 ++ H)) (by ((try simp only [List.append_assoc, List.cons_append, List.nil_append, List.append_nil]); exact a_arr)) ?_
    (repeat' (first | (apply RT.step; exact rfl; intro _ _ _; (exact a_ok); exact rfl) | (apply RT.stepT; exact rfl; exact rfl; exact rfl; exact rfl; intro _ _ _; (exact a_ok); exact rfl) | (apply RT.stepF; exact rfl; exact rfl; exact rfl; exact rfl; exact rfl; exact rfl) | (apply RT.stepU; exact rfl; exact rfl; exact rfl; exact rfl; exact rfl) | (apply RT.one; apply OneT.effF; exact rfl; exact rfl; exact rfl; exact rfl; exact rfl; exact rfl) | (apply RT.one; apply OneT.effU; exact rfl; exact rfl; exact rfl; exact rfl; exact rfl)))
    (apply RT.one; apply OneT.eff; exact rfl; intro Kc hKc ops0)
    (repeat' (first | refine a_go ?_ | (with_reducible apply Fin.thenK; assumption) | (with_reducible (first | apply C.seqK | apply C.regionK); intro _ _) | (apply R.buildSlice0; exact rfl; intro bz) | (apply R.box; exact rfl; (simp only [Value.cells]; rfl); exact rfl; intro bx) | (apply R.alloc; (simp only [Value.cells]; rfl); exact rfl; intro ba) | (apply R.buildSlice; (exact a_prt); exact rfl; exact rfl; (exact a_fills); exact rfl; intro bl) | (refine a_sp ?_ ?_; (intro h; skip; rotate_left; intro h; skip; rotate_left)) | fail))
    ((first | apply R.nil | skip); apply Fin.kt hKc; exact Mem.le_refl _; ((try simp only [List.append_assoc, List.cons_append, List.nil_append, List.append_nil]); exact a_arr))
    apply RT.nil
    (repeat' (first | refine a_go ?_ | (with_reducible apply Fin.thenK; assumption) | (with_reducible (first | apply C.seqK | apply C.regionK); intro _ _) | (apply R.buildSlice0; exact rfl; intro bz) | (apply R.box; exact rfl; (simp only [Value.cells]; rfl); exact rfl; intro bx) | (apply R.alloc; (simp only [Value.cells]; rfl); exact rfl; intro ba) | (apply R.buildSlice; (exact a_prt); exact rfl; exact rfl; (exact a_fills); exact rfl; intro bl) | (refine a_sp ?_ ?_; (intro h; skip; rotate_left; intro h; skip; rotate_left)) | fail))
    (apply Fin.ice (hp := hp5) (H1 := (rb, .cells [.int .i64 d.room, sv, v1, .slice A5 (d.ps.length + 1) k5, .bool fused, .int .i64 fuse, .bool d.down].toArray 90 (0, 0)) :: H) (by ((try simp only [List.append_assoc, List.cons_append, List.nil_append, List.append_nil]); exact a_arr)); intro M2 hM2 hin2)
    (apply Fin.returnA (H2 := (rb, .cells [.int .i64 d.room, sv, v1, .slice A5 (d.ps.length + 1) k5, .bool fused, .int .i64 fuse, .bool d.down].toArray 90 (0, 0)) :: H); assumption; (first | exact .inl rfl | exact .inr rfl); exact rfl; (exact a_res); (simp only [retv]; rfl); (exact a_arr))
    exact ⟨rfl, hM1.trans_ hM2, _, ⟨⟨F, doneF G x, sv, v1, .slice A5 (d.ps.length + 1) k5, fused, fuse⟩, ⟨hok, hi.sF.mono (hM1.trans_ hM2), hf1.mono hM2, hi.pS, hpN, hi.srtF, doneF_srt hi.srtG, PlW.snoc q1 (by unfold maxLen at q2; omega) (ho5.plIn hin2) w4 (fun i x c h1 h2 => (w7 i x c h1 h2).mono hM2) (hx.mono (hM1.trans_ hM2)), hi.fu, hi.fu0⟩, rfl⟩, rfl⟩
end Go.Sx
end
section
namespace Go.Sx
open Go Go.Proofs Go.RowKit
attribute [local irreducible] C R Fin K Own OwnT Rd Pl Ok KOf RetOk OpsOf RP KP Res NoPanic KV KE MapS ItS EntS FsO FsR RowD PlD DkO PlFs RT KT OneT RdO
variable {M M' : Mem} {H H1 H2 : Hp}
theorem RdO.isok {rb : Nat} {d : Dk} {hp : Hp} (h : RdO M rb d hp) : d.ok := by
  unfold RdO at h
  obtain ⟨x, hx, _⟩ := h
  exact hx.ok
theorem RdO.nodup {rb : Nat} {d : Dk} {hp : Hp} (h : RdO M rb d hp) : (keyS d.now).Nodup := by
  unfold RdO at h
  obtain ⟨x, hx, _⟩ := h
  exact (hx.pN.map Prod.fst).nodup_iff.1 hx.srtG.nodup
theorem opD_go {d : Dk} {x : De} {e : Int} (he : e = 0) : opD e d x = { cntD d with ps := (cntD d).ps ++ [x] } := by
  unfold opD
  rw [if_pos he, cntD_ps]
theorem cnt_fit {d : Dk} {x : De} (h : d.ok) (hf : Fit d.now x) : Dk.ok { cntD d with ps := (cntD d).ps ++ [x] } := by
  rw [cntD_ps]
  exact opD_ok h hf
theorem getS_find {M : Mem} {d : Dk} {x : RdX} (h : RdI M d x) (n : Txt) : (findI x.G n 0 < 0 ∧ getS d.now n = none) ∨ (0 ≤ findI x.G n 0 ∧ ∃ j b, findI x.G n 0 = (j : Nat) ∧ x.G[j]? = some (n, b) ∧ getS d.now n = some b) := by
  rw [← h.get n]
  rcases findI_spec x.G n 0 with ⟨h1, h2⟩ | ⟨j, b, h1, h2, h3⟩
  · exact .inl ⟨by omega, h2⟩
  · exact .inr ⟨by omega, j, b, by omega, h2, h3⟩
theorem rdoes_KC {rb : Nat} {d : Dk} {hp : Hp} {x : De} {c : List Value} (ho : RdO M rb (cntD d) hp) (hok : d.ok) (hl : d.now.length ≤ 1000000) (hps : d.ps.length ≤ 1000000) (hx : DeC M x c) (hfit : Fit d.now x) : K Try.prog 71 [.pointer (some ⟨rb, 0, none⟩), .agg c.toArray] M (hp ++ H) fun v' M' H' => v' = .int .i64 0 ∧ M.le M' ∧ ∃ hp', RdO M' rb (opD 0 d x) hp' ∧ H' = hp' ++ H := by
  rw [opD_go rfl]
  exact rdoes_K ho (by rw [cntD_now]; exact hl) (by rw [cntD_ps]; exact hps) hx (by rw [cntD_now]; exact hfit) (cnt_fit hok hfit)
theorem rremove_K {rb : Nat} {d : Dk} {hp : Hp} {n : Txt} (ho : RdO M rb d hp) (hl : d.now.length ≤ 1000000) (hlen : d.ps.length ≤ 1000000) : K Try.prog 46 [.pointer (some ⟨rb, 0, none⟩), str n] M (hp ++ H) fun v' M' H' => v' = .int .i64 (remE d n) ∧ M.le M' ∧ ∃ hp', RdO M' rb (opD (remE d n) d (.rem n)) hp' ∧ H' = hp' ++ H := by
  refine K.enterK Try.func46 rfl rfl rfl ?_
  intro Q hNP hQ
  have hnn := ho.nodup
  have hok := ho.isok
  (repeat' (first | refine a_go ?_ | (with_reducible apply Fin.thenK; assumption) | (with_reducible (first | apply C.seqK | apply C.regionK); intro _ _) | (apply R.buildSlice0; exact rfl; intro bz) | (apply R.box; exact rfl; (simp only [Value.cells]; rfl); exact rfl; intro bx) | (apply R.alloc; (simp only [Value.cells]; rfl); exact rfl; intro ba) | (apply R.buildSlice; (exact a_prt); exact rfl; exact rfl; (exact a_fills); exact rfl; intro bl) | (refine a_sp ?_ ?_; (intro h; skip; rotate_left; intro h; skip; rotate_left)) | fail))
  (apply R.call; (exact a_evs); exact rfl; exact rcounts_KD ho; rintro _ M _ ⟨rfl, rfl, hp1, ho1, rfl, hdn⟩)
  by_cases hs : stopD d
  · have hE : remE d n = 3 := if_pos hs
    rw [hE, opD_no (by decide)] at hQ
    rw [if_pos hs]
    (repeat' (first | refine a_go ?_ | (with_reducible apply Fin.thenK; assumption) | (with_reducible (first | apply C.seqK | apply C.regionK); intro _ _) | (apply R.buildSlice0; exact rfl; intro bz) | (apply R.box; exact rfl; (simp only [Value.cells]; rfl); exact rfl; intro bx) | (apply R.alloc; (simp only [Value.cells]; rfl); exact rfl; intro ba) | (apply R.buildSlice; (exact a_prt); exact rfl; exact rfl; (exact a_fills); exact rfl; intro bl) | (refine a_sp ?_ ?_; (intro h; skip; rotate_left; intro h; skip; rotate_left)) | fail))
    (apply Fin.returnA (H2 := hp1 ++ H); assumption; (first | exact .inl rfl | exact .inr rfl); exact rfl; (exact a_res); (simp only [retv]; rfl); (exact a_arr))
    exact ⟨rfl, Mem.le_refl _, hp1, ho1, rfl⟩
  rw [if_neg hs]
  have hc := ho1
  unfold RdO at hc
  obtain ⟨⟨F, G, sv, nv, wv, fused, fuse⟩, hi, rfl⟩ := hc
  have hnG := hi.nG
  have hln := hi.len
  have hnow := cntD_now d
  rw [hnow] at hln
  dsimp only at hnG hln ⊢
  unfold rdkB
  (repeat' (first | refine a_go ?_ | (with_reducible apply Fin.thenK; assumption) | (with_reducible (first | apply C.seqK | apply C.regionK); intro _ _) | (apply R.buildSlice0; exact rfl; intro bz) | (apply R.box; exact rfl; (simp only [Value.cells]; rfl); exact rfl; intro bx) | (apply R.alloc; (simp only [Value.cells]; rfl); exact rfl; intro ba) | (apply R.buildSlice; (exact a_prt); exact rfl; exact rfl; (exact a_fills); exact rfl; intro bl) | (refine a_sp ?_ ?_; (intro h; skip; rotate_left; intro h; skip; rotate_left)) | fail))
  (apply R.call; (exact a_evs); exact rfl; exact rfind_K hnG (by omega); rintro _ M _ ⟨rfl, rfl, rfl⟩)
  have hfd := getS_find hi n
  rw [hnow] at hfd
  dsimp only at hfd
  rcases hfd with ⟨h1, h2⟩ | ⟨h1, j, b, h2, h3, h4⟩
  · have hE : remE d n = 4 := (if_neg hs).trans (if_pos h2)
    rw [hE, opD_no (by decide)] at hQ
    (repeat' (first | (apply R.step; (apply Ok.move; exact rfl); exact rfl) | (apply R.step; (first | (apply Ok.ltTr; exact rfl; exact rfl; omega) | (apply Ok.ltF; exact rfl; exact rfl; omega) | (apply Ok.gtTr; exact rfl; exact rfl; omega) | (apply Ok.gtF; exact rfl; exact rfl; omega) | (apply Ok.geTr; exact rfl; exact rfl; omega) | (apply Ok.geF; exact rfl; exact rfl; omega) | (apply Ok.leTr; exact rfl; exact rfl; omega) | (apply Ok.leF; exact rfl; exact rfl; omega) | (apply Ok.neIT; exact rfl; exact rfl; omega) | (apply Ok.eqIF; exact rfl; exact rfl; omega)); exact rfl) | refine a_go ?_ | (with_reducible apply Fin.thenK; assumption) | (with_reducible (first | apply C.seqK | apply C.regionK); intro _ _) | (apply R.buildSlice0; exact rfl; intro bz) | (apply R.box; exact rfl; (simp only [Value.cells]; rfl); exact rfl; intro bx) | (apply R.alloc; (simp only [Value.cells]; rfl); exact rfl; intro ba) | (apply R.buildSlice; (exact a_prt); exact rfl; exact rfl; (exact a_fills); exact rfl; intro bl) | (refine a_sp ?_ ?_; (intro h; skip; rotate_left; intro h; skip; rotate_left)) | fail))
    (apply Fin.returnA (H2 := [(rb, rdkB (cntD d).room sv nv wv fused fuse (cntD d).down)] ++ H); assumption; (first | exact .inl rfl | exact .inr rfl); exact rfl; (exact a_res); (simp only [retv]; rfl); (exact a_arr))
    exact ⟨rfl, Mem.le_refl _, _, ho1, rfl⟩
  · have hE : remE d n = 0 := (if_neg hs).trans (if_neg (by rw [h4]; simp))
    rw [hE] at hQ
    have hfit := rem_fit (n := n) hnn hok.sum
    (repeat' (first | (apply R.step; (apply Ok.move; exact rfl); exact rfl) | (apply R.step; (first | (apply Ok.ltTr; exact rfl; exact rfl; omega) | (apply Ok.ltF; exact rfl; exact rfl; omega) | (apply Ok.gtTr; exact rfl; exact rfl; omega) | (apply Ok.gtF; exact rfl; exact rfl; omega) | (apply Ok.geTr; exact rfl; exact rfl; omega) | (apply Ok.geF; exact rfl; exact rfl; omega) | (apply Ok.leTr; exact rfl; exact rfl; omega) | (apply Ok.leF; exact rfl; exact rfl; omega) | (apply Ok.neIT; exact rfl; exact rfl; omega) | (apply Ok.eqIF; exact rfl; exact rfl; omega)); exact rfl) | refine a_go ?_ | (with_reducible apply Fin.thenK; assumption) | (with_reducible (first | apply C.seqK | apply C.regionK); intro _ _) | (apply R.buildSlice0; exact rfl; intro bz) | (apply R.box; exact rfl; (simp only [Value.cells]; rfl); exact rfl; intro bx) | (apply R.alloc; (simp only [Value.cells]; rfl); exact rfl; intro ba) | (apply R.buildSlice; (exact a_prt); exact rfl; exact rfl; (exact a_fills); exact rfl; intro bl) | (refine a_sp ?_ ?_; (intro h; skip; rotate_left; intro h; skip; rotate_left)) | fail))
    (apply R.call; (exact a_evs); exact rfl; exact rdoes_KC ho1 hok hl hlen (show DeC M (.rem n) _ from rfl) hfit; rintro _ M3 _ ⟨rfl, hM3, hp3, ho3, rfl⟩)
    (repeat' (first | refine a_go ?_ | (with_reducible apply Fin.thenK; assumption) | (with_reducible (first | apply C.seqK | apply C.regionK); intro _ _) | (apply R.buildSlice0; exact rfl; intro bz) | (apply R.box; exact rfl; (simp only [Value.cells]; rfl); exact rfl; intro bx) | (apply R.alloc; (simp only [Value.cells]; rfl); exact rfl; intro ba) | (apply R.buildSlice; (exact a_prt); exact rfl; exact rfl; (exact a_fills); exact rfl; intro bl) | (refine a_sp ?_ ?_; (intro h; skip; rotate_left; intro h; skip; rotate_left)) | fail))
    (apply Fin.returnA (H2 := hp3 ++ H); assumption; (first | exact .inl rfl | exact .inr rfl); exact rfl; (exact a_res); (simp only [retv]; rfl); (exact a_arr))
    exact ⟨rfl, hM3, hp3, ho3, rfl⟩
end Go.Sx
end
section
namespace Go.Sx
open Go Go.Proofs Go.RowKit
attribute [local irreducible] C R Fin K Own OwnT Rd Pl Ok KOf RetOk OpsOf RP KP Res NoPanic KV KE MapS ItS EntS FsO FsR RowD PlD
variable {M M' : Mem} {H H1 H2 : Hp}
theorem down_K {db sb nb : Nat} {room fuse : Int} {pv : Value} {down : Bool} : K Try.prog 59 [.pointer (some ⟨db, 0, none⟩)] M ((db, dkB room sb nb pv fuse down) :: H) fun v' M' H' => v' = .bool down ∧ M' = M ∧ H' = (db, dkB room sb nb pv fuse down) :: H := by
  refine K.enterK Try.func59 rfl rfl rfl ?_
  intro Q hNP hQ
  unfold dkB at hQ ⊢
  (repeat' (first | refine a_go ?_ | (with_reducible apply Fin.thenK; assumption) | (with_reducible (first | apply C.seqK | apply C.regionK); intro _ _) | (apply R.buildSlice0; exact rfl; intro bz) | (apply R.box; exact rfl; (simp only [Value.cells]; rfl); exact rfl; intro bx) | (apply R.alloc; (simp only [Value.cells]; rfl); exact rfl; intro ba) | (apply R.buildSlice; (exact a_prt); exact rfl; exact rfl; (exact a_fills); exact rfl; intro bl) | (refine a_sp ?_ ?_; (intro h; skip; rotate_left; intro h; skip; rotate_left)) | fail))
  (refine Fin.rt ?_)
  exact ⟨rfl, rfl, rfl⟩
theorem down_KD {db : Nat} {d : Dk} {hp : Hp} (ho : DkO M db d hp) : K Try.prog 59 [.pointer (some ⟨db, 0, none⟩)] M (hp ++ H) fun v' M' H' => v' = .bool d.down ∧ M' = M ∧ H' = hp ++ H := by
  obtain ⟨h0, sb, nb, so, no, pv, hr, h1, h2, h3, rfl⟩ := ho
  exact down_K
theorem dused_KD {db : Nat} {d : Dk} {hp : Hp} (ho : DkO M db d hp) : K Try.prog 56 [.pointer (some ⟨db, 0, none⟩)] M (hp ++ H) fun v' M' H' => v' = .int .i64 (usedD d.down d.now : Int) ∧ M' = M ∧ H' = hp ++ H := by
  have hs := ho.1.sum
  obtain ⟨h0, sb, nb, so, no, pv, hr, h1, h2, h3, rfl⟩ := ho
  exact used_K h2 (by omega)
end Go.Sx
end
section
namespace Go.Sx
open Go Go.Proofs Go.RowKit
attribute [local irreducible] C R Fin K Own OwnT Rd Pl Ok KOf RetOk OpsOf RP KP Res NoPanic KV KE MapS ItS EntS FsO FsR RowD PlD DkO PlFs RT KT OneT RdO
variable {M M' : Mem} {H H1 H2 : Hp}
theorem rappend_K {rb : Nat} {d : Dk} {hp : Hp} {n b : Txt} {va : Value} (ho : RdO M rb d hp) (hb : PlB M va b) (hbl : b.length ≤ 4611686018427387904) (hnl : n.length ≤ 4611686018427387904) (hl : d.now.length ≤ 1000000) (hlen : d.ps.length ≤ 1000000) : K Try.prog 43 [.pointer (some ⟨rb, 0, none⟩), str n, va] M (hp ++ H) fun v' M' H' => v' = .int .i64 (appE d n b) ∧ M.le M' ∧ ∃ hp', RdO M' rb (opD (appE d n b) d (.app n b)) hp' ∧ H' = hp' ++ H := by
  refine K.enterK Try.func43 rfl rfl rfl ?_
  intro Q hNP hQ
  have hnn := ho.nodup
  have hok := ho.isok
  obtain ⟨Ab, cb, rfl, hb1, hb2, hb3⟩ := hb
  (repeat' (first | refine a_go ?_ | (with_reducible apply Fin.thenK; assumption) | (with_reducible (first | apply C.seqK | apply C.regionK); intro _ _) | (apply R.buildSlice0; exact rfl; intro bz) | (apply R.box; exact rfl; (simp only [Value.cells]; rfl); exact rfl; intro bx) | (apply R.alloc; (simp only [Value.cells]; rfl); exact rfl; intro ba) | (apply R.buildSlice; (exact a_prt); exact rfl; exact rfl; (exact a_fills); exact rfl; intro bl) | (refine a_sp ?_ ?_; (intro h; skip; rotate_left; intro h; skip; rotate_left)) | fail))
  (apply R.call; (exact a_evs); exact rfl; exact rcounts_KD ho; rintro _ M _ ⟨rfl, rfl, hp1, ho1, rfl, hdn⟩)
  by_cases hs : stopD d
  · have hE : appE d n b = 3 := if_pos hs
    rw [hE, opD_no (by decide)] at hQ
    rw [if_pos hs]
    (repeat' (first | refine a_go ?_ | (with_reducible apply Fin.thenK; assumption) | (with_reducible (first | apply C.seqK | apply C.regionK); intro _ _) | (apply R.buildSlice0; exact rfl; intro bz) | (apply R.box; exact rfl; (simp only [Value.cells]; rfl); exact rfl; intro bx) | (apply R.alloc; (simp only [Value.cells]; rfl); exact rfl; intro ba) | (apply R.buildSlice; (exact a_prt); exact rfl; exact rfl; (exact a_fills); exact rfl; intro bl) | (refine a_sp ?_ ?_; (intro h; skip; rotate_left; intro h; skip; rotate_left)) | fail))
    (apply Fin.returnA (H2 := hp1 ++ H); assumption; (first | exact .inl rfl | exact .inr rfl); exact rfl; (exact a_res); (simp only [retv]; rfl); (exact a_arr))
    exact ⟨rfl, Mem.le_refl _, hp1, ho1, rfl⟩
  rw [if_neg hs]
  replace hdn := hdn hs
  (repeat' (first | refine a_go ?_ | (with_reducible apply Fin.thenK; assumption) | (with_reducible (first | apply C.seqK | apply C.regionK); intro _ _) | (apply R.buildSlice0; exact rfl; intro bz) | (apply R.box; exact rfl; (simp only [Value.cells]; rfl); exact rfl; intro bx) | (apply R.alloc; (simp only [Value.cells]; rfl); exact rfl; intro ba) | (apply R.buildSlice; (exact a_prt); exact rfl; exact rfl; (exact a_fills); exact rfl; intro bl) | (refine a_sp ?_ ?_; (intro h; skip; rotate_left; intro h; skip; rotate_left)) | fail))
  (apply R.call; (exact a_evs); exact rfl; exact rname_K (n := n) (by omega); rintro _ M _ ⟨rfl, rfl, rfl⟩)
  cases hnm : namedB n with
  | false =>
    have hE : appE d n b = 1 := (if_neg hs).trans (if_pos hnm)
    rw [hE, opD_no (by decide)] at hQ
    (repeat' (first | refine a_go ?_ | (with_reducible apply Fin.thenK; assumption) | (with_reducible (first | apply C.seqK | apply C.regionK); intro _ _) | (apply R.buildSlice0; exact rfl; intro bz) | (apply R.box; exact rfl; (simp only [Value.cells]; rfl); exact rfl; intro bx) | (apply R.alloc; (simp only [Value.cells]; rfl); exact rfl; intro ba) | (apply R.buildSlice; (exact a_prt); exact rfl; exact rfl; (exact a_fills); exact rfl; intro bl) | (refine a_sp ?_ ?_; (intro h; skip; rotate_left; intro h; skip; rotate_left)) | fail))
    (apply Fin.returnA (H2 := hp1 ++ H); assumption; (first | exact .inl rfl | exact .inr rfl); exact rfl; (exact a_res); (simp only [retv]; rfl); (exact a_arr))
    exact ⟨rfl, Mem.le_refl _, hp1, ho1, rfl⟩
  | true =>
  have hnm' : ¬ namedB n = false := by rw [hnm]; decide
  have hc := ho1
  unfold RdO at hc
  obtain ⟨⟨F, G, sv, nv, wv, fused, fuse⟩, hi, rfl⟩ := hc
  have hnG := hi.nG
  have hln := hi.len
  have hnow := cntD_now d
  rw [hnow] at hln
  dsimp only at hnG hln ⊢
  have hroom := hok.1
  have hsum := hok.sum
  have hfd := getS_find hi n
  rw [hnow] at hfd
  dsimp only at hfd
  obtain ⟨A1, k1, es1, hnv, hnv2⟩ := hnG.form
  have hes : es1.length = G.length := by
    obtain ⟨_, _, _, _, he⟩ := hnv2
    rw [← he, List.length_map]
  rw [hes] at hnv
  subst hnv
  have ho2 : RdO M rb (cntD d) [(rb, .cells [.int .i64 d.room, sv, .slice A1 G.length k1, wv, .bool fused, .int .i64 fuse, .bool false].toArray 90 (0, 0))] := by
    have h := ho1
    rw [hdn, cntD_room] at h
    exact h
  have husedQ : ∀ M' Hx', M.le M' → K Try.prog 57 [.pointer (some ⟨rb, 0, none⟩)] M' ([(rb, .cells [.int .i64 d.room, sv, .slice A1 G.length k1, wv, .bool fused, .int .i64 fuse, .bool false].toArray 90 (0, 0))] ++ Hx') (fun u M2 H2 => u = .int .i64 (sumF d.now : Nat) ∧ M2 = M' ∧ H2 = [(rb, .cells [.int .i64 d.room, sv, .slice A1 G.length k1, wv, .bool fused, .int .i64 fuse, .bool false].toArray 90 (0, 0))] ++ Hx') := by
    intro M' Hx' hM
    have h := rused_KD (H := Hx') (ho2.mono hM)
    rw [hdn, hnow] at h
    exact h
  have hfindQ : ∀ M' Hx', M.le M' → K Try.prog 70 [.slice A1 G.length k1, str n] M' ([(rb, .cells [.int .i64 d.room, sv, .slice A1 G.length k1, wv, .bool fused, .int .i64 fuse, .bool false].toArray 90 (0, 0))] ++ Hx') (fun u M2 H2 => u = .int .i64 (findI G n 0) ∧ M2 = M' ∧ H2 = [(rb, .cells [.int .i64 d.room, sv, .slice A1 G.length k1, wv, .bool fused, .int .i64 fuse, .bool false].toArray 90 (0, 0))] ++ Hx') := by
    intro M' Hx' hM
    exact rfind_K (hnG.mono hM) (by omega)
  unfold rdkB
  rw [hdn, cntD_room]
  by_cases hA : d.room < (b.length : Int)
  · have hE : appE d n b = 2 := (if_neg hs).trans ((if_neg hnm').trans (if_pos (.inl (by omega))))
    rw [hE, opD_no (by decide)] at hQ
    (repeat' (first | refine a_go ?_ | (with_reducible apply Fin.thenK; assumption) | (with_reducible (first | apply C.seqK | apply C.regionK); intro _ _) | (apply R.buildSlice0; exact rfl; intro bz) | (apply R.box; exact rfl; (simp only [Value.cells]; rfl); exact rfl; intro bx) | (apply R.alloc; (simp only [Value.cells]; rfl); exact rfl; intro ba) | (apply R.buildSlice; (exact a_prt); exact rfl; exact rfl; (exact a_fills); exact rfl; intro bl) | (refine a_sp ?_ ?_; (intro h; skip; rotate_left; intro h; skip; rotate_left)) | fail))
    (apply C.regionT (t := .free 0 (.free 1 (.free 2 (.free 3 (.free 4 (.free 5 (.free 6 (.free 7 (.free 8 (.free 9 (.free 10 (.free 11 (.free 12 (.free 13 (.free 14 (.free 15 (.free 16 (.free 17 (.free 18 (.free 19 (.free 20 (.free 21 (.free 22 (.free 23 (.free 24 (.free 25 (.free 26 (.free 27 (.free 28 (.free 29 (.free 30 (.free 31 (.free 32 (.free 33 (.free 34 (.free 35 .nil)))))))))))))))))))))))))))))))))))) (Hs := [(rb, .cells [.int .i64 d.room, sv, .slice A1 G.length k1, wv, .bool fused, .int .i64 fuse, .bool false].toArray 90 (0, 0))]); exact Mix.h; (first | exact Arr.all _ | (exact a_arr) | ((try simp only [List.append_assoc, List.cons_append, List.nil_append, List.append_nil]); exact a_arr)); (exact a_np); kernel_rfl)
    (repeat' (first | (apply RT.step; exact rfl; intro _ _ _; (apply Ok.move; exact rfl); exact rfl) | (apply RT.callQT; exact rfl; exact inferInstance; exact rfl; exact rfl; exact rfl; (exact a_evs); exact rfl; (first | exact husedQ | exact hfindQ)) | ((first | (apply RT.step; exact rfl; intro _ _ _) | (apply RT.stepT; exact rfl; exact rfl; exact rfl; exact rfl; intro _ _ _)); (first | (apply Ok.ltTr; exact rfl; exact rfl; omega) | (apply Ok.ltF; exact rfl; exact rfl; omega) | (apply Ok.gtTr; exact rfl; exact rfl; omega) | (apply Ok.gtF; exact rfl; exact rfl; omega) | (apply Ok.geTr; exact rfl; exact rfl; omega) | (apply Ok.geF; exact rfl; exact rfl; omega) | (apply Ok.leTr; exact rfl; exact rfl; omega) | (apply Ok.leF; exact rfl; exact rfl; omega) | (apply Ok.neIT; exact rfl; exact rfl; omega) | (apply Ok.eqIF; exact rfl; exact rfl; omega)); exact rfl) | (first | (apply RT.step; exact rfl; intro _ _ _; (exact a_ok); exact rfl) | (apply RT.stepT; exact rfl; exact rfl; exact rfl; exact rfl; intro _ _ _; (exact a_ok); exact rfl) | (apply RT.stepF; exact rfl; exact rfl; exact rfl; exact rfl; exact rfl; exact rfl) | (apply RT.stepU; exact rfl; exact rfl; exact rfl; exact rfl; exact rfl) | (apply RT.one; apply OneT.effF; exact rfl; exact rfl; exact rfl; exact rfl; exact rfl; exact rfl) | (apply RT.one; apply OneT.effU; exact rfl; exact rfl; exact rfl; exact rfl; exact rfl))))
    apply RT.nil
    (repeat' (first | refine a_go ?_ | (with_reducible apply Fin.thenK; assumption) | (with_reducible (first | apply C.seqK | apply C.regionK); intro _ _) | (apply R.buildSlice0; exact rfl; intro bz) | (apply R.box; exact rfl; (simp only [Value.cells]; rfl); exact rfl; intro bx) | (apply R.alloc; (simp only [Value.cells]; rfl); exact rfl; intro ba) | (apply R.buildSlice; (exact a_prt); exact rfl; exact rfl; (exact a_fills); exact rfl; intro bl) | (refine a_sp ?_ ?_; (intro h; skip; rotate_left; intro h; skip; rotate_left)) | fail))
    (apply Fin.returnA (H2 := [(rb, .cells [.int .i64 d.room, sv, .slice A1 G.length k1, wv, .bool fused, .int .i64 fuse, .bool false].toArray 90 (0, 0))] ++ H); assumption; (first | exact .inl rfl | exact .inr rfl); exact rfl; (exact a_res); (simp only [retv]; rfl); (exact a_arr))
    exact ⟨rfl, Mem.le_refl _, _, ho2, rfl⟩
  by_cases hB : d.room < (sumF d.now + b.length : Nat)
  · have hB' : d.room - (b.length : Int) < (sumF d.now : Int) := by omega
    have hE : appE d n b = 2 := (if_neg hs).trans ((if_neg hnm').trans (if_pos (.inl hB)))
    rw [hE, opD_no (by decide)] at hQ
    (repeat' (first | refine a_go ?_ | (with_reducible apply Fin.thenK; assumption) | (with_reducible (first | apply C.seqK | apply C.regionK); intro _ _) | (apply R.buildSlice0; exact rfl; intro bz) | (apply R.box; exact rfl; (simp only [Value.cells]; rfl); exact rfl; intro bx) | (apply R.alloc; (simp only [Value.cells]; rfl); exact rfl; intro ba) | (apply R.buildSlice; (exact a_prt); exact rfl; exact rfl; (exact a_fills); exact rfl; intro bl) | (refine a_sp ?_ ?_; (intro h; skip; rotate_left; intro h; skip; rotate_left)) | fail))
    (apply C.regionT (t := .free 0 (.free 1 (.free 2 (.free 3 (.free 4 (.free 5 (.free 6 (.free 7 (.free 8 (.free 9 (.free 10 (.free 11 (.free 12 (.free 13 (.free 14 (.free 15 (.free 16 (.free 17 (.free 18 (.free 19 (.free 20 (.free 21 (.free 22 (.free 23 (.free 24 (.free 25 (.free 26 (.free 27 (.free 28 (.free 29 (.free 30 (.free 31 (.free 32 (.free 33 (.free 34 (.free 35 .nil)))))))))))))))))))))))))))))))))))) (Hs := [(rb, .cells [.int .i64 d.room, sv, .slice A1 G.length k1, wv, .bool fused, .int .i64 fuse, .bool false].toArray 90 (0, 0))]); exact Mix.h; (first | exact Arr.all _ | (exact a_arr) | ((try simp only [List.append_assoc, List.cons_append, List.nil_append, List.append_nil]); exact a_arr)); (exact a_np); kernel_rfl)
    (repeat' (first | (apply RT.step; exact rfl; intro _ _ _; (apply Ok.move; exact rfl); exact rfl) | (apply RT.callQT; exact rfl; exact inferInstance; exact rfl; exact rfl; exact rfl; (exact a_evs); exact rfl; (first | exact husedQ | exact hfindQ)) | ((first | (apply RT.step; exact rfl; intro _ _ _) | (apply RT.stepT; exact rfl; exact rfl; exact rfl; exact rfl; intro _ _ _)); (first | (apply Ok.ltTr; exact rfl; exact rfl; omega) | (apply Ok.ltF; exact rfl; exact rfl; omega) | (apply Ok.gtTr; exact rfl; exact rfl; omega) | (apply Ok.gtF; exact rfl; exact rfl; omega) | (apply Ok.geTr; exact rfl; exact rfl; omega) | (apply Ok.geF; exact rfl; exact rfl; omega) | (apply Ok.leTr; exact rfl; exact rfl; omega) | (apply Ok.leF; exact rfl; exact rfl; omega) | (apply Ok.neIT; exact rfl; exact rfl; omega) | (apply Ok.eqIF; exact rfl; exact rfl; omega)); exact rfl) | (first | (apply RT.step; exact rfl; intro _ _ _; (exact a_ok); exact rfl) | (apply RT.stepT; exact rfl; exact rfl; exact rfl; exact rfl; intro _ _ _; (exact a_ok); exact rfl) | (apply RT.stepF; exact rfl; exact rfl; exact rfl; exact rfl; exact rfl; exact rfl) | (apply RT.stepU; exact rfl; exact rfl; exact rfl; exact rfl; exact rfl) | (apply RT.one; apply OneT.effF; exact rfl; exact rfl; exact rfl; exact rfl; exact rfl; exact rfl) | (apply RT.one; apply OneT.effU; exact rfl; exact rfl; exact rfl; exact rfl; exact rfl))))
    apply RT.nil
    (repeat' (first | refine a_go ?_ | (with_reducible apply Fin.thenK; assumption) | (with_reducible (first | apply C.seqK | apply C.regionK); intro _ _) | (apply R.buildSlice0; exact rfl; intro bz) | (apply R.box; exact rfl; (simp only [Value.cells]; rfl); exact rfl; intro bx) | (apply R.alloc; (simp only [Value.cells]; rfl); exact rfl; intro ba) | (apply R.buildSlice; (exact a_prt); exact rfl; exact rfl; (exact a_fills); exact rfl; intro bl) | (refine a_sp ?_ ?_; (intro h; skip; rotate_left; intro h; skip; rotate_left)) | fail))
    (apply Fin.returnA (H2 := [(rb, .cells [.int .i64 d.room, sv, .slice A1 G.length k1, wv, .bool fused, .int .i64 fuse, .bool false].toArray 90 (0, 0))] ++ H); assumption; (first | exact .inl rfl | exact .inr rfl); exact rfl; (exact a_res); (simp only [retv]; rfl); (exact a_arr))
    exact ⟨rfl, Mem.le_refl _, _, ho2, rfl⟩
  have hB' : ¬ d.room - (b.length : Int) < (sumF d.now : Int) := by omega
  have hsb : sumF d.now + b.length ≤ 1048576 := by omega
  rcases hfd with ⟨f1, f2⟩ | ⟨f1, _, _, _, _, f2⟩
  · by_cases hC : 64 ≤ d.now.length
    · have hE : appE d n b = 2 := (if_neg hs).trans ((if_neg hnm').trans (if_pos (.inr ⟨f2, hC⟩)))
      rw [hE, opD_no (by decide)] at hQ
      (repeat' (first | refine a_go ?_ | (with_reducible apply Fin.thenK; assumption) | (with_reducible (first | apply C.seqK | apply C.regionK); intro _ _) | (apply R.buildSlice0; exact rfl; intro bz) | (apply R.box; exact rfl; (simp only [Value.cells]; rfl); exact rfl; intro bx) | (apply R.alloc; (simp only [Value.cells]; rfl); exact rfl; intro ba) | (apply R.buildSlice; (exact a_prt); exact rfl; exact rfl; (exact a_fills); exact rfl; intro bl) | (refine a_sp ?_ ?_; (intro h; skip; rotate_left; intro h; skip; rotate_left)) | fail))
      (apply C.regionT (t := .free 0 (.free 1 (.free 2 (.free 3 (.free 4 (.free 5 (.free 6 (.free 7 (.free 8 (.free 9 (.free 10 (.free 11 (.free 12 (.free 13 (.free 14 (.free 15 (.free 16 (.free 17 (.free 18 (.free 19 (.free 20 (.free 21 (.free 22 (.free 23 (.free 24 (.free 25 (.free 26 (.free 27 (.free 28 (.free 29 (.free 30 (.free 31 (.free 32 (.free 33 (.free 34 (.free 35 .nil)))))))))))))))))))))))))))))))))))) (Hs := [(rb, .cells [.int .i64 d.room, sv, .slice A1 G.length k1, wv, .bool fused, .int .i64 fuse, .bool false].toArray 90 (0, 0))]); exact Mix.h; (first | exact Arr.all _ | (exact a_arr) | ((try simp only [List.append_assoc, List.cons_append, List.nil_append, List.append_nil]); exact a_arr)); (exact a_np); kernel_rfl)
      (repeat' (first | (apply RT.step; exact rfl; intro _ _ _; (apply Ok.move; exact rfl); exact rfl) | (apply RT.callQT; exact rfl; exact inferInstance; exact rfl; exact rfl; exact rfl; (exact a_evs); exact rfl; (first | exact husedQ | exact hfindQ)) | ((first | (apply RT.step; exact rfl; intro _ _ _) | (apply RT.stepT; exact rfl; exact rfl; exact rfl; exact rfl; intro _ _ _)); (first | (apply Ok.ltTr; exact rfl; exact rfl; omega) | (apply Ok.ltF; exact rfl; exact rfl; omega) | (apply Ok.gtTr; exact rfl; exact rfl; omega) | (apply Ok.gtF; exact rfl; exact rfl; omega) | (apply Ok.geTr; exact rfl; exact rfl; omega) | (apply Ok.geF; exact rfl; exact rfl; omega) | (apply Ok.leTr; exact rfl; exact rfl; omega) | (apply Ok.leF; exact rfl; exact rfl; omega) | (apply Ok.neIT; exact rfl; exact rfl; omega) | (apply Ok.eqIF; exact rfl; exact rfl; omega)); exact rfl) | (first | (apply RT.step; exact rfl; intro _ _ _; (exact a_ok); exact rfl) | (apply RT.stepT; exact rfl; exact rfl; exact rfl; exact rfl; intro _ _ _; (exact a_ok); exact rfl) | (apply RT.stepF; exact rfl; exact rfl; exact rfl; exact rfl; exact rfl; exact rfl) | (apply RT.stepU; exact rfl; exact rfl; exact rfl; exact rfl; exact rfl) | (apply RT.one; apply OneT.effF; exact rfl; exact rfl; exact rfl; exact rfl; exact rfl; exact rfl) | (apply RT.one; apply OneT.effU; exact rfl; exact rfl; exact rfl; exact rfl; exact rfl))))
      apply RT.nil
      (repeat' (first | refine a_go ?_ | (with_reducible apply Fin.thenK; assumption) | (with_reducible (first | apply C.seqK | apply C.regionK); intro _ _) | (apply R.buildSlice0; exact rfl; intro bz) | (apply R.box; exact rfl; (simp only [Value.cells]; rfl); exact rfl; intro bx) | (apply R.alloc; (simp only [Value.cells]; rfl); exact rfl; intro ba) | (apply R.buildSlice; (exact a_prt); exact rfl; exact rfl; (exact a_fills); exact rfl; intro bl) | (refine a_sp ?_ ?_; (intro h; skip; rotate_left; intro h; skip; rotate_left)) | fail))
      (apply Fin.returnA (H2 := [(rb, .cells [.int .i64 d.room, sv, .slice A1 G.length k1, wv, .bool fused, .int .i64 fuse, .bool false].toArray 90 (0, 0))] ++ H); assumption; (first | exact .inl rfl | exact .inr rfl); exact rfl; (exact a_res); (simp only [retv]; rfl); (exact a_arr))
      exact ⟨rfl, Mem.le_refl _, _, ho2, rfl⟩
    have hE : appE d n b = 0 := (if_neg hs).trans ((if_neg hnm').trans (if_neg (fun h => by
      rcases h with h | h
      · exact hB h
      · exact hC h.2)))
    rw [hE] at hQ
    (repeat' (first | refine a_go ?_ | (with_reducible apply Fin.thenK; assumption) | (with_reducible (first | apply C.seqK | apply C.regionK); intro _ _) | (apply R.buildSlice0; exact rfl; intro bz) | (apply R.box; exact rfl; (simp only [Value.cells]; rfl); exact rfl; intro bx) | (apply R.alloc; (simp only [Value.cells]; rfl); exact rfl; intro ba) | (apply R.buildSlice; (exact a_prt); exact rfl; exact rfl; (exact a_fills); exact rfl; intro bl) | (refine a_sp ?_ ?_; (intro h; skip; rotate_left; intro h; skip; rotate_left)) | fail))
    (apply C.regionT (t := .free 0 (.free 1 (.free 2 (.free 3 (.free 4 (.free 5 (.free 6 (.free 7 (.free 8 (.free 9 (.free 10 (.free 11 (.free 12 (.free 13 (.free 14 (.free 15 (.free 16 (.free 17 (.free 18 (.free 19 (.free 20 (.free 21 (.free 22 (.free 23 (.free 24 (.free 25 (.free 26 (.free 27 (.free 28 (.free 29 (.free 30 (.free 31 (.free 32 (.free 33 (.free 34 (.free 35 .nil)))))))))))))))))))))))))))))))))))) (Hs := [(rb, .cells [.int .i64 d.room, sv, .slice A1 G.length k1, wv, .bool fused, .int .i64 fuse, .bool false].toArray 90 (0, 0))]); exact Mix.h; (first | exact Arr.all _ | (exact a_arr) | ((try simp only [List.append_assoc, List.cons_append, List.nil_append, List.append_nil]); exact a_arr)); (exact a_np); kernel_rfl)
    (repeat' (first | (apply RT.step; exact rfl; intro _ _ _; (apply Ok.move; exact rfl); exact rfl) | (apply RT.callQT; exact rfl; exact inferInstance; exact rfl; exact rfl; exact rfl; (exact a_evs); exact rfl; (first | exact husedQ | exact hfindQ)) | ((first | (apply RT.step; exact rfl; intro _ _ _) | (apply RT.stepT; exact rfl; exact rfl; exact rfl; exact rfl; intro _ _ _)); (first | (apply Ok.ltTr; exact rfl; exact rfl; omega) | (apply Ok.ltF; exact rfl; exact rfl; omega) | (apply Ok.gtTr; exact rfl; exact rfl; omega) | (apply Ok.gtF; exact rfl; exact rfl; omega) | (apply Ok.geTr; exact rfl; exact rfl; omega) | (apply Ok.geF; exact rfl; exact rfl; omega) | (apply Ok.leTr; exact rfl; exact rfl; omega) | (apply Ok.leF; exact rfl; exact rfl; omega) | (apply Ok.neIT; exact rfl; exact rfl; omega) | (apply Ok.eqIF; exact rfl; exact rfl; omega)); exact rfl) | (first | (apply RT.step; exact rfl; intro _ _ _; (exact a_ok); exact rfl) | (apply RT.stepT; exact rfl; exact rfl; exact rfl; exact rfl; intro _ _ _; (exact a_ok); exact rfl) | (apply RT.stepF; exact rfl; exact rfl; exact rfl; exact rfl; exact rfl; exact rfl) | (apply RT.stepU; exact rfl; exact rfl; exact rfl; exact rfl; exact rfl) | (apply RT.one; apply OneT.effF; exact rfl; exact rfl; exact rfl; exact rfl; exact rfl; exact rfl) | (apply RT.one; apply OneT.effU; exact rfl; exact rfl; exact rfl; exact rfl; exact rfl))))
    apply RT.nil
    (repeat' (first | refine a_go ?_ | (with_reducible apply Fin.thenK; assumption) | (with_reducible (first | apply C.seqK | apply C.regionK); intro _ _) | (apply R.buildSlice0; exact rfl; intro bz) | (apply R.box; exact rfl; (simp only [Value.cells]; rfl); exact rfl; intro bx) | (apply R.alloc; (simp only [Value.cells]; rfl); exact rfl; intro ba) | (apply R.buildSlice; (exact a_prt); exact rfl; exact rfl; (exact a_fills); exact rfl; intro bl) | (refine a_sp ?_ ?_; (intro h; skip; rotate_left; intro h; skip; rotate_left)) | fail))
    (apply R.append (news := b.map bv) (k := b.length); exact rfl; exact rfl; exact Own.empty; (exact a_tk); exact Pl.rd hb3; (rw [List.length_map, Nat.mul_one]); exact bv_one _; omega; exact rfl; decide; decide; exact rfl; rintro v4 hp4 hown4)
    rw [List.nil_append, Nat.zero_add] at hown4
    (apply R.ice (hp := hp4) (H1 := [(rb, .cells [.int .i64 d.room, sv, .slice A1 G.length k1, wv, .bool fused, .int .i64 fuse, .bool false].toArray 90 (0, 0))] ++ H) (by ((try simp only [List.append_assoc, List.cons_append, List.nil_append, List.append_nil]); exact a_arr)); intro M2 hM2 hin)
    have hb4 := hown4.plB hin
    obtain ⟨A4, c4, rfl, _, _⟩ := hown4.form
    (repeat' (first | refine a_go ?_ | (with_reducible apply Fin.thenK; assumption) | (with_reducible (first | apply C.seqK | apply C.regionK); intro _ _) | (apply R.buildSlice0; exact rfl; intro bz) | (apply R.box; exact rfl; (simp only [Value.cells]; rfl); exact rfl; intro bx) | (apply R.alloc; (simp only [Value.cells]; rfl); exact rfl; intro ba) | (apply R.buildSlice; (exact a_prt); exact rfl; exact rfl; (exact a_fills); exact rfl; intro bl) | (refine a_sp ?_ ?_; (intro h; skip; rotate_left; intro h; skip; rotate_left)) | fail))
    have hfit := app_fit (b := b) (n := n) hnn (by omega)
    (apply R.call; (exact a_evs); exact rfl; exact rdoes_KC (ho2.mono hM2) hok hl hlen (show DeC M2 (.app n b) _ from ⟨_, rfl, hb4⟩) hfit; rintro _ M3 _ ⟨rfl, hM3, hp3, ho3, rfl⟩)
    (repeat' (first | refine a_go ?_ | (with_reducible apply Fin.thenK; assumption) | (with_reducible (first | apply C.seqK | apply C.regionK); intro _ _) | (apply R.buildSlice0; exact rfl; intro bz) | (apply R.box; exact rfl; (simp only [Value.cells]; rfl); exact rfl; intro bx) | (apply R.alloc; (simp only [Value.cells]; rfl); exact rfl; intro ba) | (apply R.buildSlice; (exact a_prt); exact rfl; exact rfl; (exact a_fills); exact rfl; intro bl) | (refine a_sp ?_ ?_; (intro h; skip; rotate_left; intro h; skip; rotate_left)) | fail))
    (apply Fin.returnA (H2 := hp3 ++ H); assumption; (first | exact .inl rfl | exact .inr rfl); exact rfl; (exact a_res); (simp only [retv]; rfl); (exact a_arr))
    exact ⟨rfl, hM2.trans_ hM3, hp3, ho3, rfl⟩
  · have hE : appE d n b = 0 := (if_neg hs).trans ((if_neg hnm').trans (if_neg (fun h => by
      rcases h with h | h
      · exact hB h
      · rw [f2] at h; cases h.1)))
    rw [hE] at hQ
    (repeat' (first | refine a_go ?_ | (with_reducible apply Fin.thenK; assumption) | (with_reducible (first | apply C.seqK | apply C.regionK); intro _ _) | (apply R.buildSlice0; exact rfl; intro bz) | (apply R.box; exact rfl; (simp only [Value.cells]; rfl); exact rfl; intro bx) | (apply R.alloc; (simp only [Value.cells]; rfl); exact rfl; intro ba) | (apply R.buildSlice; (exact a_prt); exact rfl; exact rfl; (exact a_fills); exact rfl; intro bl) | (refine a_sp ?_ ?_; (intro h; skip; rotate_left; intro h; skip; rotate_left)) | fail))
    (apply C.regionT (t := .free 0 (.free 1 (.free 2 (.free 3 (.free 4 (.free 5 (.free 6 (.free 7 (.free 8 (.free 9 (.free 10 (.free 11 (.free 12 (.free 13 (.free 14 (.free 15 (.free 16 (.free 17 (.free 18 (.free 19 (.free 20 (.free 21 (.free 22 (.free 23 (.free 24 (.free 25 (.free 26 (.free 27 (.free 28 (.free 29 (.free 30 (.free 31 (.free 32 (.free 33 (.free 34 (.free 35 .nil)))))))))))))))))))))))))))))))))))) (Hs := [(rb, .cells [.int .i64 d.room, sv, .slice A1 G.length k1, wv, .bool fused, .int .i64 fuse, .bool false].toArray 90 (0, 0))]); exact Mix.h; (first | exact Arr.all _ | (exact a_arr) | ((try simp only [List.append_assoc, List.cons_append, List.nil_append, List.append_nil]); exact a_arr)); (exact a_np); kernel_rfl)
    (repeat' (first | (apply RT.step; exact rfl; intro _ _ _; (apply Ok.move; exact rfl); exact rfl) | (apply RT.callQT; exact rfl; exact inferInstance; exact rfl; exact rfl; exact rfl; (exact a_evs); exact rfl; (first | exact husedQ | exact hfindQ)) | ((first | (apply RT.step; exact rfl; intro _ _ _) | (apply RT.stepT; exact rfl; exact rfl; exact rfl; exact rfl; intro _ _ _)); (first | (apply Ok.ltTr; exact rfl; exact rfl; omega) | (apply Ok.ltF; exact rfl; exact rfl; omega) | (apply Ok.gtTr; exact rfl; exact rfl; omega) | (apply Ok.gtF; exact rfl; exact rfl; omega) | (apply Ok.geTr; exact rfl; exact rfl; omega) | (apply Ok.geF; exact rfl; exact rfl; omega) | (apply Ok.leTr; exact rfl; exact rfl; omega) | (apply Ok.leF; exact rfl; exact rfl; omega) | (apply Ok.neIT; exact rfl; exact rfl; omega) | (apply Ok.eqIF; exact rfl; exact rfl; omega)); exact rfl) | (first | (apply RT.step; exact rfl; intro _ _ _; (exact a_ok); exact rfl) | (apply RT.stepT; exact rfl; exact rfl; exact rfl; exact rfl; intro _ _ _; (exact a_ok); exact rfl) | (apply RT.stepF; exact rfl; exact rfl; exact rfl; exact rfl; exact rfl; exact rfl) | (apply RT.stepU; exact rfl; exact rfl; exact rfl; exact rfl; exact rfl) | (apply RT.one; apply OneT.effF; exact rfl; exact rfl; exact rfl; exact rfl; exact rfl; exact rfl) | (apply RT.one; apply OneT.effU; exact rfl; exact rfl; exact rfl; exact rfl; exact rfl))))
    apply RT.nil
    (repeat' (first | refine a_go ?_ | (with_reducible apply Fin.thenK; assumption) | (with_reducible (first | apply C.seqK | apply C.regionK); intro _ _) | (apply R.buildSlice0; exact rfl; intro bz) | (apply R.box; exact rfl; (simp only [Value.cells]; rfl); exact rfl; intro bx) | (apply R.alloc; (simp only [Value.cells]; rfl); exact rfl; intro ba) | (apply R.buildSlice; (exact a_prt); exact rfl; exact rfl; (exact a_fills); exact rfl; intro bl) | (refine a_sp ?_ ?_; (intro h; skip; rotate_left; intro h; skip; rotate_left)) | fail))
    (apply R.append (news := b.map bv) (k := b.length); exact rfl; exact rfl; exact Own.empty; (exact a_tk); exact Pl.rd hb3; (rw [List.length_map, Nat.mul_one]); exact bv_one _; omega; exact rfl; decide; decide; exact rfl; rintro v4 hp4 hown4)
    rw [List.nil_append, Nat.zero_add] at hown4
    (apply R.ice (hp := hp4) (H1 := [(rb, .cells [.int .i64 d.room, sv, .slice A1 G.length k1, wv, .bool fused, .int .i64 fuse, .bool false].toArray 90 (0, 0))] ++ H) (by ((try simp only [List.append_assoc, List.cons_append, List.nil_append, List.append_nil]); exact a_arr)); intro M2 hM2 hin)
    have hb4 := hown4.plB hin
    obtain ⟨A4, c4, rfl, _, _⟩ := hown4.form
    (repeat' (first | refine a_go ?_ | (with_reducible apply Fin.thenK; assumption) | (with_reducible (first | apply C.seqK | apply C.regionK); intro _ _) | (apply R.buildSlice0; exact rfl; intro bz) | (apply R.box; exact rfl; (simp only [Value.cells]; rfl); exact rfl; intro bx) | (apply R.alloc; (simp only [Value.cells]; rfl); exact rfl; intro ba) | (apply R.buildSlice; (exact a_prt); exact rfl; exact rfl; (exact a_fills); exact rfl; intro bl) | (refine a_sp ?_ ?_; (intro h; skip; rotate_left; intro h; skip; rotate_left)) | fail))
    have hfit := app_fit (b := b) (n := n) hnn (by omega)
    (apply R.call; (exact a_evs); exact rfl; exact rdoes_KC (ho2.mono hM2) hok hl hlen (show DeC M2 (.app n b) _ from ⟨_, rfl, hb4⟩) hfit; rintro _ M3 _ ⟨rfl, hM3, hp3, ho3, rfl⟩)
    (repeat' (first | refine a_go ?_ | (with_reducible apply Fin.thenK; assumption) | (with_reducible (first | apply C.seqK | apply C.regionK); intro _ _) | (apply R.buildSlice0; exact rfl; intro bz) | (apply R.box; exact rfl; (simp only [Value.cells]; rfl); exact rfl; intro bx) | (apply R.alloc; (simp only [Value.cells]; rfl); exact rfl; intro ba) | (apply R.buildSlice; (exact a_prt); exact rfl; exact rfl; (exact a_fills); exact rfl; intro bl) | (refine a_sp ?_ ?_; (intro h; skip; rotate_left; intro h; skip; rotate_left)) | fail))
    (apply Fin.returnA (H2 := hp3 ++ H); assumption; (first | exact .inl rfl | exact .inr rfl); exact rfl; (exact a_res); (simp only [retv]; rfl); (exact a_arr))
    exact ⟨rfl, hM2.trans_ hM3, hp3, ho3, rfl⟩
end Go.Sx
end
section
namespace Go.Sx
open Go Go.Proofs Go.RowKit
attribute [local irreducible] C R Fin K Own OwnT Rd Pl Ok KOf RetOk OpsOf RP KP Res NoPanic KV KE MapS ItS EntS FsO FsR RowD PlD DkO PlFs RT KT OneT RdO
variable {M M' : Mem} {H H1 H2 : Hp}
theorem RdO.of {rb : Nat} {d : Dk} {x : RdX} (h : RdI M d x) : RdO M rb d [(rb, rdkB d.room x.sv x.nv x.wv x.fused x.fuse d.down)] := by
  unfold RdO
  exact ⟨x, h, rfl⟩
theorem rnew_ok {room : Int} (h0 : 0 ≤ room) (h1 : room ≤ 1048576) : RdI M (newD room) ⟨[], [], .slice none 0 0, .slice none 0 0, .slice none 0 0, false, 0⟩ :=
  ⟨⟨⟨h0, h1⟩, ⟨Int.le_refl _, show (-1 : Int) ≤ 4611686018427387904 by decide⟩, Nat.zero_le _, trivial⟩, PlFs.nil, PlFs.nil, List.Perm.refl _, List.Perm.refl _, List.Pairwise.nil, List.Pairwise.nil, PlW.nil, rfl, fun h => by cases h⟩
theorem rsync_K {rb : Nat} {d : Dk} {hp : Hp} (ho : RdO M rb d hp) : K Try.prog 44 [.pointer (some ⟨rb, 0, none⟩)] M (hp ++ H) fun v' M' H' => v' = .int .i64 (synE d) ∧ M' = M ∧ ∃ hp', RdO M rb (synD d) hp' ∧ H' = hp' ++ H := by
  refine K.enterK Try.func44 rfl rfl rfl ?_
  intro Q hNP hQ
  have hok := ho.isok
  (repeat' (first | refine a_go ?_ | (with_reducible apply Fin.thenK; assumption) | (with_reducible (first | apply C.seqK | apply C.regionK); intro _ _) | (apply R.buildSlice0; exact rfl; intro bz) | (apply R.box; exact rfl; (simp only [Value.cells]; rfl); exact rfl; intro bx) | (apply R.alloc; (simp only [Value.cells]; rfl); exact rfl; intro ba) | (apply R.buildSlice; (exact a_prt); exact rfl; exact rfl; (exact a_fills); exact rfl; intro bl) | (refine a_sp ?_ ?_; (intro h; skip; rotate_left; intro h; skip; rotate_left)) | fail))
  (apply R.call; (exact a_evs); exact rfl; exact rcounts_KD ho; rintro _ M _ ⟨rfl, rfl, hp1, ho1, rfl, hdn⟩)
  by_cases hs : stopD d
  · have hE : synE d = 3 := if_pos hs
    have hD : synD d = cntD d := if_pos hs
    rw [hE, hD] at hQ
    rw [if_pos hs]
    (repeat' (first | refine a_go ?_ | (with_reducible apply Fin.thenK; assumption) | (with_reducible (first | apply C.seqK | apply C.regionK); intro _ _) | (apply R.buildSlice0; exact rfl; intro bz) | (apply R.box; exact rfl; (simp only [Value.cells]; rfl); exact rfl; intro bx) | (apply R.alloc; (simp only [Value.cells]; rfl); exact rfl; intro ba) | (apply R.buildSlice; (exact a_prt); exact rfl; exact rfl; (exact a_fills); exact rfl; intro bl) | (refine a_sp ?_ ?_; (intro h; skip; rotate_left; intro h; skip; rotate_left)) | fail))
    (apply Fin.returnA (H2 := hp1 ++ H); assumption; (first | exact .inl rfl | exact .inr rfl); exact rfl; (exact a_res); (simp only [retv]; rfl); (exact a_arr))
    exact ⟨rfl, rfl, hp1, ho1, rfl⟩
  rw [if_neg hs]
  have hE : synE d = 0 := if_neg hs
  have hD : synD d = { cntD d with S := d.now, ps := [] } := if_neg hs
  rw [hE, hD] at hQ
  unfold RdO at ho1
  obtain ⟨⟨F, G, sv, nv, wv, fused, fuse⟩, hi, rfl⟩ := ho1
  have hnG := hi.nG
  have hpN := hi.pN
  rw [cntD_now] at hpN
  dsimp only at hnG hpN ⊢
  obtain ⟨A1, k1, es1, hnv, hnv2⟩ := hnG.form
  subst hnv
  unfold rdkB
  (repeat' (first | refine a_go ?_ | (with_reducible apply Fin.thenK; assumption) | (with_reducible (first | apply C.seqK | apply C.regionK); intro _ _) | (apply R.buildSlice0; exact rfl; intro bz) | (apply R.box; exact rfl; (simp only [Value.cells]; rfl); exact rfl; intro bx) | (apply R.alloc; (simp only [Value.cells]; rfl); exact rfl; intro ba) | (apply R.buildSlice; (exact a_prt); exact rfl; exact rfl; (exact a_fills); exact rfl; intro bl) | (refine a_sp ?_ ?_; (intro h; skip; rotate_left; intro h; skip; rotate_left)) | fail))
  (apply Fin.returnA (H2 := [(rb, rdkB (cntD d).room (.slice A1 es1.length k1) (.slice A1 es1.length k1) (.slice none 0 0) fused fuse (cntD d).down)] ++ H); assumption; (first | exact .inl rfl | exact .inr rfl); exact rfl; (exact a_res); (simp only [retv]; rfl); (exact a_arr))
  refine ⟨rfl, rfl, _, RdO.of (x := ⟨G, G, .slice A1 es1.length k1, .slice A1 es1.length k1, .slice none 0 0, fused, fuse⟩) ⟨⟨hi.ok.1, hi.ok.2.1, hok.sum, trivial⟩, hnG, hnG, hpN, hpN, hi.srtG, hi.srtG, PlW.nil, hi.fu, hi.fu0⟩, rfl⟩
theorem PlW.at {A : Option Addr} {cap : Nat} {ps : List De} (h : PlW M (.slice A ps.length cap) ps) {i : Nat} (hi : i < ps.length) : ∃ b o c e fr d, A = some ⟨b, o, none⟩ ∧ M.at_ b = some (.cells c e fr) ∧ DeC M ps[i] d ∧ ∀ (q : Nat) u, d[q]? = some u → c[o + i * 5 + q]? = some u := by
  obtain ⟨A', cap', h1, h2, h3, h4⟩ := h
  cases h1
  exact h4.at hi
def szD (d : Dk) : Nat := d.S.length + d.ps.length
theorem putS_length {α : Type} (l : List (Txt × α)) (n : Txt) (v : α) : (putS l n v).length ≤ l.length + 1 := by
  unfold putS
  split
  · rw [List.length_map]; omega
  · rw [List.length_append]; exact Nat.le_refl _
theorem doF_length (F : Fs) (x : De) : (doF F x).length ≤ F.length + 1 := by
  cases x with
  | app n b => exact putS_length _ _ _
  | trc n k => exact putS_length _ _ _
  | ren n t => exact Nat.le_trans (putS_length _ _ _) (Nat.succ_le_succ (List.length_filter_le _ _))
  | rem n => exact Nat.le_trans (List.length_filter_le _ _) (Nat.le_succ _)
theorem fold_length : ∀ (ps : List De) (F : Fs), (ps.foldl doF F).length ≤ F.length + ps.length
  | [], _ => Nat.le_refl _
  | x :: ps, F => by
    have h1 := fold_length ps (doF F x)
    have h2 := doF_length F x
    rw [List.foldl_cons, List.length_cons]
    omega
theorem now_sz (d : Dk) : d.now.length ≤ szD d := fold_length _ _
end Go.Sx
end
section
namespace Go.Sx
open Go Go.Proofs Go.RowKit
attribute [local irreducible] C R Fin K Own OwnT Rd Pl Ok KOf RetOk OpsOf RP KP Res NoPanic KV KE RT KT OneT RS KS OneS
variable {M M' : Mem} {H H1 H2 : Hp}
def rrdB (v : Value) (at_ : Nat) (bad : Int) : Obj := .cells [v, .int .i64 (at_ : Int), .int .i64 bad].toArray 95 (0, 0)
theorem wrong_K {rb : Nat} {v : Value} {at_ at2 : Nat} {bad e : Int} : K Try.prog 72 [.pointer (some ⟨rb, 0, none⟩), .int .i64 (at2 : Int), .int .i64 e] M ((rb, rrdB v at_ bad) :: H) fun v' M' H' => v' = .int .u64 0 ∧ M' = M ∧ H' = (rb, rrdB v at2 e) :: H := by
  refine K.enterK Try.func72 rfl rfl rfl ?_
  intro Q hNP hQ
  unfold rrdB at hQ ⊢
  (repeat' (first | refine a_go ?_ | (with_reducible apply Fin.thenK; assumption) | (with_reducible (first | apply C.seqK | apply C.regionK); intro _ _) | (apply R.buildSlice0; exact rfl; intro bz) | (apply R.box; exact rfl; (simp only [Value.cells]; rfl); exact rfl; intro bx) | (apply R.alloc; (simp only [Value.cells]; rfl); exact rfl; intro ba) | (apply R.buildSlice; (exact a_prt); exact rfl; exact rfl; (exact a_fills); exact rfl; intro bl) | (refine a_sp ?_ ?_; (intro h; skip; rotate_left; intro h; skip; rotate_left)) | fail))
  (apply Fin.returnA (H2 := (rb, .cells [v, .int .i64 (at2 : Int), .int .i64 e].toArray 95 (0, 0)) :: H); assumption; (first | exact .inl rfl | exact .inr rfl); exact rfl; (exact a_res); (simp only [retv]; rfl); (exact a_arr))
  exact ⟨rfl, rfl, rfl⟩
theorem rrbyte_K {rb : Nat} {v : Value} {bs : Txt} {at_ : Nat} {bad : Int} {most : UInt8} (hb : PlB M v bs) (ha : at_ ≤ bs.length) : K Try.prog 50 [.pointer (some ⟨rb, 0, none⟩), bv most] M ((rb, rrdB v at_ bad) :: H) fun v' M' H' => v' = bv (byteR bs most at_ bad).1 ∧ M' = M ∧ H' = (rb, rrdB v (byteR bs most at_ bad).2.1 (byteR bs most at_ bad).2.2) :: H := by
  refine K.enterK Try.func50 rfl rfl rfl ?_
  intro Q hNP hQ
  obtain ⟨A, c, rfl, h1, h2, h3⟩ := hb
  by_cases hbad : bad = 0
  · subst hbad
    by_cases hix : at_ < bs.length
    · obtain ⟨b0, o0, cc, e0, f0, rfl, hM, hcell⟩ := h3.get (i := at_) (v := bv bs[at_]) (by rw [List.getElem?_map, List.getElem?_eq_getElem hix]; rfl)
      have hbr : byteR bs most at_ 0 = if most.toNat < bs[at_].toNat then (0, at_, 12) else (bs[at_], at_ + 1, 0) := by
        unfold byteR
        rw [if_neg (by simp), List.getElem?_eq_getElem hix]
      generalize bs[at_] = x at hcell hbr
      have e1 : o0 + ((at_ : Nat) : Int).toNat * 1 = o0 + at_ := by omega
      have e2 : o0 + ((at_ : Int) + 1 - 1).toNat * 1 = o0 + at_ := by omega
      unfold rrdB at hQ ⊢
      (repeat' (first | refine a_go ?_ | (with_reducible apply Fin.thenK; assumption) | (with_reducible (first | apply C.seqK | apply C.regionK); intro _ _) | (apply R.buildSlice0; exact rfl; intro bz) | (apply R.box; exact rfl; (simp only [Value.cells]; rfl); exact rfl; intro bx) | (apply R.alloc; (simp only [Value.cells]; rfl); exact rfl; intro ba) | (apply R.buildSlice; (exact a_prt); exact rfl; exact rfl; (exact a_fills); exact rfl; intro bl) | (refine a_sp ?_ ?_; (intro h; skip; rotate_left; intro h; skip; rotate_left)) | fail))
      (apply C.regionT (t := .free 0 (.free 1 (.free 2 (.free 3 (.free 4 (.free 5 (.free 6 (.free 7 (.free 8 (.free 9 (.free 10 .nil))))))))))) (Hs := [(rb, .cells [.slice (some ⟨b0, o0, none⟩) bs.length c, .int .i64 ↑at_, .int .i64 0].toArray 95 (0, 0))]); exact Mix.h; (first | exact Arr.all _ | (exact a_arr) | ((try simp only [List.append_assoc, List.cons_append, List.nil_append, List.append_nil]); exact a_arr)); (exact a_np); kernel_rfl)
      (repeat' (first | (apply RT.step; exact rfl; intro _ _ _; (apply Ok.move; exact rfl); exact rfl) | ((first | (apply RT.step; exact rfl; intro _ _ _) | (apply RT.stepT; exact rfl; exact rfl; exact rfl; exact rfl; intro _ _ _)); (first | (apply Ok.ltTr; exact rfl; exact rfl; omega) | (apply Ok.ltF; exact rfl; exact rfl; omega) | (apply Ok.gtTr; exact rfl; exact rfl; omega) | (apply Ok.gtF; exact rfl; exact rfl; omega) | (apply Ok.geTr; exact rfl; exact rfl; omega) | (apply Ok.geF; exact rfl; exact rfl; omega) | (apply Ok.leTr; exact rfl; exact rfl; omega) | (apply Ok.leF; exact rfl; exact rfl; omega) | (apply Ok.neIT; exact rfl; exact rfl; omega) | (apply Ok.eqIF; exact rfl; exact rfl; omega)); exact rfl) | (first | (apply RT.step; exact rfl; intro _ _ _; (exact a_ok); exact rfl) | (apply RT.stepT; exact rfl; exact rfl; exact rfl; exact rfl; intro _ _ _; (exact a_ok); exact rfl) | (apply RT.stepF; exact rfl; exact rfl; exact rfl; exact rfl; exact rfl; exact rfl) | (apply RT.stepU; exact rfl; exact rfl; exact rfl; exact rfl; exact rfl) | (apply RT.one; apply OneT.effF; exact rfl; exact rfl; exact rfl; exact rfl; exact rfl; exact rfl) | (apply RT.one; apply OneT.effU; exact rfl; exact rfl; exact rfl; exact rfl; exact rfl))))
      apply RT.nil
      (repeat' (first | refine a_go ?_ | (with_reducible apply Fin.thenK; assumption) | (with_reducible (first | apply C.seqK | apply C.regionK); intro _ _) | (apply R.buildSlice0; exact rfl; intro bz) | (apply R.box; exact rfl; (simp only [Value.cells]; rfl); exact rfl; intro bx) | (apply R.alloc; (simp only [Value.cells]; rfl); exact rfl; intro ba) | (apply R.buildSlice; (exact a_prt); exact rfl; exact rfl; (exact a_fills); exact rfl; intro bl) | (refine a_sp ?_ ?_; (intro h; skip; rotate_left; intro h; skip; rotate_left)) | fail))
      (apply C.regionT (t := .free 0 (.free 1 (.free 2 (.free 3 (.free 4 (.free 5 (.free 6 (.free 7 (.free 8 (.free 9 (.free 10 (.free 11 (.free 12 .nil))))))))))))) (Hs := [(rb, .cells [.slice (some ⟨b0, o0, none⟩) bs.length c, .int .i64 ↑at_, .int .i64 0].toArray 95 (0, 0))]); exact Mix.h; (first | exact Arr.all _ | (exact a_arr) | ((try simp only [List.append_assoc, List.cons_append, List.nil_append, List.append_nil]); exact a_arr)); (exact a_np); kernel_rfl)
      (repeat' (first | (apply RT.step; exact rfl; intro _ _ _; (apply Ok.move; exact rfl); exact rfl) | (apply RT.step; exact rfl; intro _ _ hMx; (first | (apply Ok.indexAddr; exact rfl; exact rfl; omega; omega) | (apply Ok.loadP; exact rfl; exact rfl; exact le_at hMx hM; rw [e1]; exact hcell)); exact rfl) | (first | (apply RT.step; exact rfl; intro _ _ _; (exact a_ok); exact rfl) | (apply RT.stepT; exact rfl; exact rfl; exact rfl; exact rfl; intro _ _ _; (exact a_ok); exact rfl) | (apply RT.stepF; exact rfl; exact rfl; exact rfl; exact rfl; exact rfl; exact rfl) | (apply RT.stepU; exact rfl; exact rfl; exact rfl; exact rfl; exact rfl) | (apply RT.one; apply OneT.effF; exact rfl; exact rfl; exact rfl; exact rfl; exact rfl; exact rfl) | (apply RT.one; apply OneT.effU; exact rfl; exact rfl; exact rfl; exact rfl; exact rfl))))
      apply RT.nil
      by_cases hm : most.toNat < x.toNat
      · rw [if_pos hm] at hbr
        rw [hbr] at hQ
        (repeat' (first | refine a_go ?_ | (with_reducible apply Fin.thenK; assumption) | (with_reducible (first | apply C.seqK | apply C.regionK); intro _ _) | (apply R.buildSlice0; exact rfl; intro bz) | (apply R.box; exact rfl; (simp only [Value.cells]; rfl); exact rfl; intro bx) | (apply R.alloc; (simp only [Value.cells]; rfl); exact rfl; intro ba) | (apply R.buildSlice; (exact a_prt); exact rfl; exact rfl; (exact a_fills); exact rfl; intro bl) | (refine a_sp ?_ ?_; (intro h; skip; rotate_left; intro h; skip; rotate_left)) | fail))
        any_goals (exfalso; omega)
        (apply R.call; (exact a_evs); exact rfl; exact wrong_K (at_ := at_) (at2 := at_) (bad := 0) (e := 12); rintro _ M _ ⟨rfl, rfl, rfl⟩)
        (repeat' (first | refine a_go ?_ | (with_reducible apply Fin.thenK; assumption) | (with_reducible (first | apply C.seqK | apply C.regionK); intro _ _) | (apply R.buildSlice0; exact rfl; intro bz) | (apply R.box; exact rfl; (simp only [Value.cells]; rfl); exact rfl; intro bx) | (apply R.alloc; (simp only [Value.cells]; rfl); exact rfl; intro ba) | (apply R.buildSlice; (exact a_prt); exact rfl; exact rfl; (exact a_fills); exact rfl; intro bl) | (refine a_sp ?_ ?_; (intro h; skip; rotate_left; intro h; skip; rotate_left)) | fail))
        (apply Fin.returnA (H2 := (rb, rrdB (.slice (some ⟨b0, o0, none⟩) bs.length c) at_ 12) :: H); assumption; (first | exact .inl rfl | exact .inr rfl); exact rfl; (exact a_res); (simp only [retv]; rfl); (exact a_arr))
        exact ⟨rfl, rfl, rfl⟩
      · rw [if_neg hm] at hbr
        rw [hbr] at hQ
        (repeat' (first | refine a_go ?_ | (with_reducible apply Fin.thenK; assumption) | (with_reducible (first | apply C.seqK | apply C.regionK); intro _ _) | (apply R.buildSlice0; exact rfl; intro bz) | (apply R.box; exact rfl; (simp only [Value.cells]; rfl); exact rfl; intro bx) | (apply R.alloc; (simp only [Value.cells]; rfl); exact rfl; intro ba) | (apply R.buildSlice; (exact a_prt); exact rfl; exact rfl; (exact a_fills); exact rfl; intro bl) | (refine a_sp ?_ ?_; (intro h; skip; rotate_left; intro h; skip; rotate_left)) | fail))
        any_goals (exfalso; omega)
        (apply C.regionT (t := .free 0 (.free 1 (.free 2 (.free 3 (.free 4 (.free 5 (.free 6 (.free 7 (.free 8 (.free 9 (.free 10 (.free 11 .nil)))))))))))) (Hs := [(rb, .cells [.slice (some ⟨b0, o0, none⟩) bs.length c, .int .i64 (↑at_ + 1), .int .i64 0].toArray 95 (0, 0))]); exact Mix.h; (first | exact Arr.all _ | (exact a_arr) | ((try simp only [List.append_assoc, List.cons_append, List.nil_append, List.append_nil]); exact a_arr)); (exact a_np); kernel_rfl)
        (repeat' (first | (apply RT.step; exact rfl; intro _ _ _; (apply Ok.move; exact rfl); exact rfl) | (apply RT.step; exact rfl; intro _ _ hMx; (first | (apply Ok.indexAddr; exact rfl; exact rfl; omega; omega) | (apply Ok.loadP; exact rfl; exact rfl; exact le_at hMx hM; rw [e2]; exact hcell)); exact rfl) | (first | (apply RT.step; exact rfl; intro _ _ _; (exact a_ok); exact rfl) | (apply RT.stepT; exact rfl; exact rfl; exact rfl; exact rfl; intro _ _ _; (exact a_ok); exact rfl) | (apply RT.stepF; exact rfl; exact rfl; exact rfl; exact rfl; exact rfl; exact rfl) | (apply RT.stepU; exact rfl; exact rfl; exact rfl; exact rfl; exact rfl) | (apply RT.one; apply OneT.effF; exact rfl; exact rfl; exact rfl; exact rfl; exact rfl; exact rfl) | (apply RT.one; apply OneT.effU; exact rfl; exact rfl; exact rfl; exact rfl; exact rfl))))
        apply RT.nil
        (repeat' (first | refine a_go ?_ | (with_reducible apply Fin.thenK; assumption) | (with_reducible (first | apply C.seqK | apply C.regionK); intro _ _) | (apply R.buildSlice0; exact rfl; intro bz) | (apply R.box; exact rfl; (simp only [Value.cells]; rfl); exact rfl; intro bx) | (apply R.alloc; (simp only [Value.cells]; rfl); exact rfl; intro ba) | (apply R.buildSlice; (exact a_prt); exact rfl; exact rfl; (exact a_fills); exact rfl; intro bl) | (refine a_sp ?_ ?_; (intro h; skip; rotate_left; intro h; skip; rotate_left)) | fail))
        (apply Fin.returnA (H2 := (rb, .cells [.slice (some ⟨b0, o0, none⟩) bs.length c, .int .i64 (↑at_ + 1), .int .i64 0].toArray 95 (0, 0)) :: H); assumption; (first | exact .inl rfl | exact .inr rfl); exact rfl; (exact a_res); (simp only [retv]; rfl); (exact a_arr))
        exact ⟨rfl, rfl, rfl⟩
    · have hbr : byteR bs most at_ 0 = (0, at_, 10) := by
        unfold byteR
        rw [if_neg (by simp), List.getElem?_eq_none (by omega)]
      rw [hbr] at hQ
      unfold rrdB at hQ ⊢
      (repeat' (first | refine a_go ?_ | (with_reducible apply Fin.thenK; assumption) | (with_reducible (first | apply C.seqK | apply C.regionK); intro _ _) | (apply R.buildSlice0; exact rfl; intro bz) | (apply R.box; exact rfl; (simp only [Value.cells]; rfl); exact rfl; intro bx) | (apply R.alloc; (simp only [Value.cells]; rfl); exact rfl; intro ba) | (apply R.buildSlice; (exact a_prt); exact rfl; exact rfl; (exact a_fills); exact rfl; intro bl) | (refine a_sp ?_ ?_; (intro h; skip; rotate_left; intro h; skip; rotate_left)) | fail))
      (apply C.regionT (t := .free 0 (.free 1 (.free 2 (.free 3 (.free 4 (.free 5 (.free 6 (.free 7 (.free 8 (.free 9 (.free 10 .nil))))))))))) (Hs := [(rb, .cells [.slice A bs.length c, .int .i64 ↑at_, .int .i64 0].toArray 95 (0, 0))]); exact Mix.h; (first | exact Arr.all _ | (exact a_arr) | ((try simp only [List.append_assoc, List.cons_append, List.nil_append, List.append_nil]); exact a_arr)); (exact a_np); kernel_rfl)
      (repeat' (first | (apply RT.step; exact rfl; intro _ _ _; (apply Ok.move; exact rfl); exact rfl) | ((first | (apply RT.step; exact rfl; intro _ _ _) | (apply RT.stepT; exact rfl; exact rfl; exact rfl; exact rfl; intro _ _ _)); (first | (apply Ok.ltTr; exact rfl; exact rfl; omega) | (apply Ok.ltF; exact rfl; exact rfl; omega) | (apply Ok.gtTr; exact rfl; exact rfl; omega) | (apply Ok.gtF; exact rfl; exact rfl; omega) | (apply Ok.geTr; exact rfl; exact rfl; omega) | (apply Ok.geF; exact rfl; exact rfl; omega) | (apply Ok.leTr; exact rfl; exact rfl; omega) | (apply Ok.leF; exact rfl; exact rfl; omega) | (apply Ok.neIT; exact rfl; exact rfl; omega) | (apply Ok.eqIF; exact rfl; exact rfl; omega)); exact rfl) | (first | (apply RT.step; exact rfl; intro _ _ _; (exact a_ok); exact rfl) | (apply RT.stepT; exact rfl; exact rfl; exact rfl; exact rfl; intro _ _ _; (exact a_ok); exact rfl) | (apply RT.stepF; exact rfl; exact rfl; exact rfl; exact rfl; exact rfl; exact rfl) | (apply RT.stepU; exact rfl; exact rfl; exact rfl; exact rfl; exact rfl) | (apply RT.one; apply OneT.effF; exact rfl; exact rfl; exact rfl; exact rfl; exact rfl; exact rfl) | (apply RT.one; apply OneT.effU; exact rfl; exact rfl; exact rfl; exact rfl; exact rfl))))
      apply RT.nil
      (repeat' (first | refine a_go ?_ | (with_reducible apply Fin.thenK; assumption) | (with_reducible (first | apply C.seqK | apply C.regionK); intro _ _) | (apply R.buildSlice0; exact rfl; intro bz) | (apply R.box; exact rfl; (simp only [Value.cells]; rfl); exact rfl; intro bx) | (apply R.alloc; (simp only [Value.cells]; rfl); exact rfl; intro ba) | (apply R.buildSlice; (exact a_prt); exact rfl; exact rfl; (exact a_fills); exact rfl; intro bl) | (refine a_sp ?_ ?_; (intro h; skip; rotate_left; intro h; skip; rotate_left)) | fail))
      (apply R.call; (exact a_evs); exact rfl; exact wrong_K (at_ := at_) (at2 := at_) (bad := 0) (e := 10); rintro _ M _ ⟨rfl, rfl, rfl⟩)
      (repeat' (first | refine a_go ?_ | (with_reducible apply Fin.thenK; assumption) | (with_reducible (first | apply C.seqK | apply C.regionK); intro _ _) | (apply R.buildSlice0; exact rfl; intro bz) | (apply R.box; exact rfl; (simp only [Value.cells]; rfl); exact rfl; intro bx) | (apply R.alloc; (simp only [Value.cells]; rfl); exact rfl; intro ba) | (apply R.buildSlice; (exact a_prt); exact rfl; exact rfl; (exact a_fills); exact rfl; intro bl) | (refine a_sp ?_ ?_; (intro h; skip; rotate_left; intro h; skip; rotate_left)) | fail))
      (apply Fin.returnA (H2 := (rb, rrdB (.slice A bs.length c) at_ 10) :: H); assumption; (first | exact .inl rfl | exact .inr rfl); exact rfl; (exact a_res); (simp only [retv]; rfl); (exact a_arr))
      exact ⟨rfl, rfl, rfl⟩
  · have hbr : byteR bs most at_ bad = (0, at_, bad) := if_pos hbad
    rw [hbr] at hQ
    unfold rrdB at hQ ⊢
    (repeat' (first | (apply R.step; (apply Ok.move; exact rfl); exact rfl) | (apply R.step; (first | (apply Ok.ltTr; exact rfl; exact rfl; omega) | (apply Ok.ltF; exact rfl; exact rfl; omega) | (apply Ok.gtTr; exact rfl; exact rfl; omega) | (apply Ok.gtF; exact rfl; exact rfl; omega) | (apply Ok.geTr; exact rfl; exact rfl; omega) | (apply Ok.geF; exact rfl; exact rfl; omega) | (apply Ok.leTr; exact rfl; exact rfl; omega) | (apply Ok.leF; exact rfl; exact rfl; omega) | (apply Ok.neIT; exact rfl; exact rfl; omega) | (apply Ok.eqIF; exact rfl; exact rfl; omega)); exact rfl) | refine a_go ?_ | (with_reducible apply Fin.thenK; assumption) | (with_reducible (first | apply C.seqK | apply C.regionK); intro _ _) | (apply R.buildSlice0; exact rfl; intro bz) | (apply R.box; exact rfl; (simp only [Value.cells]; rfl); exact rfl; intro bx) | (apply R.alloc; (simp only [Value.cells]; rfl); exact rfl; intro ba) | (apply R.buildSlice; (exact a_prt); exact rfl; exact rfl; (exact a_fills); exact rfl; intro bl) | (refine a_sp ?_ ?_; (intro h; skip; rotate_left; intro h; skip; rotate_left)) | fail))
    (apply Fin.returnA (H2 := (rb, .cells [.slice A bs.length c, .int .i64 ↑at_, .int .i64 bad].toArray 95 (0, 0)) :: H); assumption; (first | exact .inl rfl | exact .inr rfl); exact rfl; (exact a_res); (simp only [retv]; rfl); (exact a_arr))
    exact ⟨rfl, rfl, rfl⟩
theorem rrend_K {rb : Nat} {v : Value} {bs : Txt} {at_ : Nat} {bad : Int} (hb : PlB M v bs) (hl : bs.length ≤ 1099511627776) : K Try.prog 52 [.pointer (some ⟨rb, 0, none⟩)] M ((rb, rrdB v at_ bad) :: H) fun v' M' H' => v' = .int .i64 (endR bs at_ bad) ∧ M' = M ∧ H' = (rb, rrdB v at_ bad) :: H := by
  refine K.enterK Try.func52 rfl rfl rfl ?_
  intro Q hNP hQ
  obtain ⟨A, c, rfl, h1, h2, h3⟩ := hb
  unfold rrdB at hQ ⊢
  (repeat' (first | refine a_go ?_ | (with_reducible apply Fin.thenK; assumption) | (with_reducible (first | apply C.seqK | apply C.regionK); intro _ _) | (apply R.buildSlice0; exact rfl; intro bz) | (apply R.box; exact rfl; (simp only [Value.cells]; rfl); exact rfl; intro bx) | (apply R.alloc; (simp only [Value.cells]; rfl); exact rfl; intro ba) | (apply R.buildSlice; (exact a_prt); exact rfl; exact rfl; (exact a_fills); exact rfl; intro bl) | (refine a_sp ?_ ?_; (intro h; skip; rotate_left; intro h; skip; rotate_left)) | fail))
  (apply C.regionT (t := .free 0 (.free 1 (.free 2 (.free 3 (.free 4 (.free 5 (.free 6 (.free 7 (.free 8 (.free 9 (.free 10 (.free 11 (.free 12 (.free 13 (.free 14 (.free 15 (.free 16 .nil))))))))))))))))) (Hs := [(rb, .cells [.slice A bs.length c, .int .i64 ↑at_, .int .i64 bad].toArray 95 (0, 0))]); exact Mix.h; (first | exact Arr.all _ | (exact a_arr) | ((try simp only [List.append_assoc, List.cons_append, List.nil_append, List.append_nil]); exact a_arr)); (exact a_np); kernel_rfl)
  by_cases hbad : bad = 0
  · subst hbad
    by_cases hlt : at_ < bs.length
    · have hE : endR bs at_ 0 = 11 := if_pos ⟨rfl, hlt⟩
      rw [hE] at hQ
      (repeat' (first | (apply RT.step; exact rfl; intro _ _ _; (apply Ok.move; exact rfl); exact rfl) | ((first | (apply RT.step; exact rfl; intro _ _ _) | (apply RT.stepT; exact rfl; exact rfl; exact rfl; exact rfl; intro _ _ _)); (first | (apply Ok.ltTr; exact rfl; exact rfl; omega) | (apply Ok.ltF; exact rfl; exact rfl; omega) | (apply Ok.gtTr; exact rfl; exact rfl; omega) | (apply Ok.gtF; exact rfl; exact rfl; omega) | (apply Ok.geTr; exact rfl; exact rfl; omega) | (apply Ok.geF; exact rfl; exact rfl; omega) | (apply Ok.leTr; exact rfl; exact rfl; omega) | (apply Ok.leF; exact rfl; exact rfl; omega) | (apply Ok.neIT; exact rfl; exact rfl; omega) | (apply Ok.eqIF; exact rfl; exact rfl; omega)); exact rfl) | (first | (apply RT.step; exact rfl; intro _ _ _; (exact a_ok); exact rfl) | (apply RT.stepT; exact rfl; exact rfl; exact rfl; exact rfl; intro _ _ _; (exact a_ok); exact rfl) | (apply RT.stepF; exact rfl; exact rfl; exact rfl; exact rfl; exact rfl; exact rfl) | (apply RT.stepU; exact rfl; exact rfl; exact rfl; exact rfl; exact rfl) | (apply RT.one; apply OneT.effF; exact rfl; exact rfl; exact rfl; exact rfl; exact rfl; exact rfl) | (apply RT.one; apply OneT.effU; exact rfl; exact rfl; exact rfl; exact rfl; exact rfl))))
      apply RT.nil
      (repeat' (first | refine a_go ?_ | (with_reducible apply Fin.thenK; assumption) | (with_reducible (first | apply C.seqK | apply C.regionK); intro _ _) | (apply R.buildSlice0; exact rfl; intro bz) | (apply R.box; exact rfl; (simp only [Value.cells]; rfl); exact rfl; intro bx) | (apply R.alloc; (simp only [Value.cells]; rfl); exact rfl; intro ba) | (apply R.buildSlice; (exact a_prt); exact rfl; exact rfl; (exact a_fills); exact rfl; intro bl) | (refine a_sp ?_ ?_; (intro h; skip; rotate_left; intro h; skip; rotate_left)) | fail))
      (apply Fin.returnA (H2 := (rb, .cells [.slice A bs.length c, .int .i64 ↑at_, .int .i64 0].toArray 95 (0, 0)) :: H); assumption; (first | exact .inl rfl | exact .inr rfl); exact rfl; (exact a_res); (simp only [retv]; rfl); (exact a_arr))
      exact ⟨rfl, rfl, rfl⟩
    · have hE : endR bs at_ 0 = 0 := if_neg (fun h => hlt h.2)
      rw [hE] at hQ
      (repeat' (first | (apply RT.step; exact rfl; intro _ _ _; (apply Ok.move; exact rfl); exact rfl) | ((first | (apply RT.step; exact rfl; intro _ _ _) | (apply RT.stepT; exact rfl; exact rfl; exact rfl; exact rfl; intro _ _ _)); (first | (apply Ok.ltTr; exact rfl; exact rfl; omega) | (apply Ok.ltF; exact rfl; exact rfl; omega) | (apply Ok.gtTr; exact rfl; exact rfl; omega) | (apply Ok.gtF; exact rfl; exact rfl; omega) | (apply Ok.geTr; exact rfl; exact rfl; omega) | (apply Ok.geF; exact rfl; exact rfl; omega) | (apply Ok.leTr; exact rfl; exact rfl; omega) | (apply Ok.leF; exact rfl; exact rfl; omega) | (apply Ok.neIT; exact rfl; exact rfl; omega) | (apply Ok.eqIF; exact rfl; exact rfl; omega)); exact rfl) | (first | (apply RT.step; exact rfl; intro _ _ _; (exact a_ok); exact rfl) | (apply RT.stepT; exact rfl; exact rfl; exact rfl; exact rfl; intro _ _ _; (exact a_ok); exact rfl) | (apply RT.stepF; exact rfl; exact rfl; exact rfl; exact rfl; exact rfl; exact rfl) | (apply RT.stepU; exact rfl; exact rfl; exact rfl; exact rfl; exact rfl) | (apply RT.one; apply OneT.effF; exact rfl; exact rfl; exact rfl; exact rfl; exact rfl; exact rfl) | (apply RT.one; apply OneT.effU; exact rfl; exact rfl; exact rfl; exact rfl; exact rfl))))
      apply RT.nil
      (repeat' (first | refine a_go ?_ | (with_reducible apply Fin.thenK; assumption) | (with_reducible (first | apply C.seqK | apply C.regionK); intro _ _) | (apply R.buildSlice0; exact rfl; intro bz) | (apply R.box; exact rfl; (simp only [Value.cells]; rfl); exact rfl; intro bx) | (apply R.alloc; (simp only [Value.cells]; rfl); exact rfl; intro ba) | (apply R.buildSlice; (exact a_prt); exact rfl; exact rfl; (exact a_fills); exact rfl; intro bl) | (refine a_sp ?_ ?_; (intro h; skip; rotate_left; intro h; skip; rotate_left)) | fail))
      (apply Fin.returnA (H2 := (rb, .cells [.slice A bs.length c, .int .i64 ↑at_, .int .i64 0].toArray 95 (0, 0)) :: H); assumption; (first | exact .inl rfl | exact .inr rfl); exact rfl; (exact a_res); (simp only [retv]; rfl); (exact a_arr))
      exact ⟨rfl, rfl, rfl⟩
  · have hE : endR bs at_ bad = bad := if_neg (fun h => hbad h.1)
    rw [hE] at hQ
    (repeat' (first | (apply RT.step; exact rfl; intro _ _ _; (apply Ok.move; exact rfl); exact rfl) | ((first | (apply RT.step; exact rfl; intro _ _ _) | (apply RT.stepT; exact rfl; exact rfl; exact rfl; exact rfl; intro _ _ _)); (first | (apply Ok.ltTr; exact rfl; exact rfl; omega) | (apply Ok.ltF; exact rfl; exact rfl; omega) | (apply Ok.gtTr; exact rfl; exact rfl; omega) | (apply Ok.gtF; exact rfl; exact rfl; omega) | (apply Ok.geTr; exact rfl; exact rfl; omega) | (apply Ok.geF; exact rfl; exact rfl; omega) | (apply Ok.leTr; exact rfl; exact rfl; omega) | (apply Ok.leF; exact rfl; exact rfl; omega) | (apply Ok.neIT; exact rfl; exact rfl; omega) | (apply Ok.eqIF; exact rfl; exact rfl; omega)); exact rfl) | (first | (apply RT.step; exact rfl; intro _ _ _; (exact a_ok); exact rfl) | (apply RT.stepT; exact rfl; exact rfl; exact rfl; exact rfl; intro _ _ _; (exact a_ok); exact rfl) | (apply RT.stepF; exact rfl; exact rfl; exact rfl; exact rfl; exact rfl; exact rfl) | (apply RT.stepU; exact rfl; exact rfl; exact rfl; exact rfl; exact rfl) | (apply RT.one; apply OneT.effF; exact rfl; exact rfl; exact rfl; exact rfl; exact rfl; exact rfl) | (apply RT.one; apply OneT.effU; exact rfl; exact rfl; exact rfl; exact rfl; exact rfl))))
    apply RT.nil
    (repeat' (first | refine a_go ?_ | (with_reducible apply Fin.thenK; assumption) | (with_reducible (first | apply C.seqK | apply C.regionK); intro _ _) | (apply R.buildSlice0; exact rfl; intro bz) | (apply R.box; exact rfl; (simp only [Value.cells]; rfl); exact rfl; intro bx) | (apply R.alloc; (simp only [Value.cells]; rfl); exact rfl; intro ba) | (apply R.buildSlice; (exact a_prt); exact rfl; exact rfl; (exact a_fills); exact rfl; intro bl) | (refine a_sp ?_ ?_; (intro h; skip; rotate_left; intro h; skip; rotate_left)) | fail))
    (apply Fin.returnA (H2 := (rb, .cells [.slice A bs.length c, .int .i64 ↑at_, .int .i64 bad].toArray 95 (0, 0)) :: H); assumption; (first | exact .inl rfl | exact .inr rfl); exact rfl; (exact a_res); (simp only [retv]; rfl); (exact a_arr))
    exact ⟨rfl, rfl, rfl⟩
end Go.Sx
end
section
namespace Go.Sx
open Go Go.Proofs Go.RowKit
attribute [local irreducible] C R Fin K Own OwnT Rd Pl Ok KOf RetOk OpsOf RP KP Res NoPanic KV KE RT KT OneT RS KS OneS
variable {M M' : Mem} {H H1 H2 : Hp}
theorem rrnum_K {rb : Nat} {v : Value} {bs : Txt} {at_ : Nat} {bad : Int} {most : Nat} (hb : PlB M v bs) (hl : bs.length ≤ 1099511627776) (ha : at_ ≤ bs.length) : K Try.prog 49 [.pointer (some ⟨rb, 0, none⟩), .int .u64 (most : Int)] M ((rb, rrdB v at_ bad) :: H) fun v' M' H' => v' = .int .u64 ((numRd bs most at_ bad).1 : Int) ∧ M' = M ∧ H' = (rb, rrdB v (numRd bs most at_ bad).2.1 (numRd bs most at_ bad).2.2) :: H := by
  refine K.enterK Try.func49 rfl rfl rfl ?_
  intro Q hNP hQ
  obtain ⟨A, c, rfl, h1, h2, h3⟩ := hb
  by_cases hbad : bad = 0
  rotate_left
  · have hbr : numRd bs most at_ bad = (0, at_, bad) := if_pos hbad
    rw [hbr] at hQ
    unfold rrdB at hQ ⊢
    (repeat' (first | (apply R.step; (apply Ok.move; exact rfl); exact rfl) | (apply R.step; (first | (apply Ok.ltTr; exact rfl; exact rfl; omega) | (apply Ok.ltF; exact rfl; exact rfl; omega) | (apply Ok.gtTr; exact rfl; exact rfl; omega) | (apply Ok.gtF; exact rfl; exact rfl; omega) | (apply Ok.geTr; exact rfl; exact rfl; omega) | (apply Ok.geF; exact rfl; exact rfl; omega) | (apply Ok.leTr; exact rfl; exact rfl; omega) | (apply Ok.leF; exact rfl; exact rfl; omega) | (apply Ok.neIT; exact rfl; exact rfl; omega) | (apply Ok.eqIF; exact rfl; exact rfl; omega)); exact rfl) | refine a_go ?_ | (with_reducible apply Fin.thenK; assumption) | (with_reducible (first | apply C.seqK | apply C.regionK); intro _ _) | (apply R.buildSlice0; exact rfl; intro bz) | (apply R.box; exact rfl; (simp only [Value.cells]; rfl); exact rfl; intro bx) | (apply R.alloc; (simp only [Value.cells]; rfl); exact rfl; intro ba) | (apply R.buildSlice; (exact a_prt); exact rfl; exact rfl; (exact a_fills); exact rfl; intro bl) | (refine a_sp ?_ ?_; (intro h; skip; rotate_left; intro h; skip; rotate_left)) | fail))
    (apply Fin.returnA (H2 := (rb, .cells [.slice A bs.length c, .int .i64 ↑at_, .int .i64 bad].toArray 95 (0, 0)) :: H); assumption; (first | exact .inl rfl | exact .inr rfl); exact rfl; (exact a_res); (simp only [retv]; rfl); (exact a_arr))
    exact ⟨rfl, rfl, rfl⟩
  subst hbad
  have hnr : numRd bs most at_ 0 = if (numR bs at_).2.1 = 0 ∧ most < (numR bs at_).1 then (0, at_, 12) else if (numR bs at_).2.1 ≠ 0 then (0, at_, (numR bs at_).2.1) else ((numR bs at_).1, (numR bs at_).2.2, 0) := if_neg (by simp)
  unfold rrdB at hQ ⊢
  (repeat' (first | refine a_go ?_ | (with_reducible apply Fin.thenK; assumption) | (with_reducible (first | apply C.seqK | apply C.regionK); intro _ _) | (apply R.buildSlice0; exact rfl; intro bz) | (apply R.box; exact rfl; (simp only [Value.cells]; rfl); exact rfl; intro bx) | (apply R.alloc; (simp only [Value.cells]; rfl); exact rfl; intro ba) | (apply R.buildSlice; (exact a_prt); exact rfl; exact rfl; (exact a_fills); exact rfl; intro bl) | (refine a_sp ?_ ?_; (intro h; skip; rotate_left; intro h; skip; rotate_left)) | fail))
  apply C.loop (fun y : NmL => (y.i : Int) = y.ii ∧ y.i < 10 ∧ y.n < 128 ^ y.i ∧ numR bs at_ = numGo bs at_ (10 - y.i) y.i y.n)
    (fun y => [(0, .pointer (some ⟨rb, 0, none⟩)), (1, .int .u64 (most : Int)), (5, .int .i64 (at_ : Int)), (6, .int .u64 (y.n : Int)), (7, .int .i64 y.ii)]) (fun _ => M) (fun _ => (rb, .cells [.slice A bs.length c, .int .i64 ↑at_, .int .i64 0].toArray 95 (0, 0)) :: H) (fun y => 10 - y.i) ⟨0, 0, 0⟩
  · exact ⟨rfl, by decide, by decide, rfl⟩
  · (exact a_subs)
  · exact rfl
  · exact rfl
  rintro ⟨i, ii, n⟩ ⟨hii, hi, hn, hr⟩
  dsimp only at hii hi hn hr ⊢
  by_cases hix : at_ + i < bs.length
  · obtain ⟨b0, o0, cc, e0, f0, hA, hM, hcell⟩ := h3.get (i := at_ + i) (v := bv bs[at_ + i]) (by rw [List.getElem?_map, List.getElem?_eq_getElem hix]; rfl)
    subst hA
    rw [show 10 - i = (9 - i) + 1 by omega] at hr
    unfold numGo at hr
    rw [List.getElem?_eq_getElem hix] at hr
    dsimp only at hr
    generalize bs[at_ + i] = x at hcell hr
    have hx := x.toNat_lt
    have hpw : 2 ^ (7 * i) = 128 ^ i := by rw [Nat.pow_mul]
    obtain ⟨p, hp128⟩ : ∃ p, p = 128 ^ i := ⟨_, rfl⟩
    have hx7 : x.toNat % 128 * p ≤ 127 * p := Nat.mul_le_mul_right _ (by omega)
    have hsucc : 128 ^ (i + 1) = p * 128 := by rw [Nat.pow_succ, hp128]
    have hp9 : i ≤ 8 → p * 128 ≤ 9223372036854775808 := fun h => by
      rw [← hsucc]
      exact Nat.le_trans (Nat.pow_le_pow_right (by decide) (show i + 1 ≤ 9 by omega)) (by decide)
    have hp10 : i = 9 → p = 9223372036854775808 := fun h => by rw [hp128, h]
    rw [← hp128] at hn hr
    have hbig : ¬ (i = 9 ∧ 1 < x.toNat) → n + x.toNat % 128 * p ≤ 18446744073709551615 := fun h => by
      by_cases h9 : i = 9
      · have h1 := hp10 h9
        have h2 : x.toNat % 128 ≤ 1 := by omega
        have h3 : x.toNat % 128 * p ≤ 1 * p := Nat.mul_le_mul_right _ h2
        omega
      · have := hp9 (by omega)
        omega
    have e1 : o0 + ((at_ : Int) + ii).toNat * 1 = o0 + (at_ + i) := by omega
    have e128 : (x.toNat : Int) % 128 = ((x.toNat % 128 : Nat) : Int) := by omega
    by_cases hf9 : i = 9 ∧ 1 < x.toNat
    · rw [if_pos hf9] at hr
      have hnz : numRd bs most at_ 0 = (0, at_, 11) := by
        rw [hnr, hr]
        rfl
      rw [hnz] at hQ
      have hi9 : ii = 9 := by omega
      (repeat' (first | (apply R.step; (apply Ok.move; exact rfl); exact rfl) | (apply R.step; (first | (apply Ok.loadP; exact rfl; exact rfl; exact hM; rw [e1]; exact hcell) | (apply Ok.eqIR; exact rfl; exact rfl; exact hi9) | (apply Ok.geF; exact rfl; exact rfl; omega) | (apply Ok.gtTr; exact rfl; exact rfl; omega)); exact rfl) | refine a_go ?_ | (with_reducible apply Fin.thenK; assumption) | (with_reducible (first | apply C.seqK | apply C.regionK); intro _ _) | (apply R.buildSlice0; exact rfl; intro bz) | (apply R.box; exact rfl; (simp only [Value.cells]; rfl); exact rfl; intro bx) | (apply R.alloc; (simp only [Value.cells]; rfl); exact rfl; intro ba) | (apply R.buildSlice; (exact a_prt); exact rfl; exact rfl; (exact a_fills); exact rfl; intro bl) | (refine a_sp ?_ ?_; (intro h; skip; rotate_left; intro h; skip; rotate_left)) | fail))
      (apply R.call; (exact a_evs); exact rfl; exact wrong_K (at_ := at_) (at2 := at_) (bad := 0) (e := 11); rintro _ M _ ⟨rfl, rfl, rfl⟩)
      (repeat' (first | refine a_go ?_ | (with_reducible apply Fin.thenK; assumption) | (with_reducible (first | apply C.seqK | apply C.regionK); intro _ _) | (apply R.buildSlice0; exact rfl; intro bz) | (apply R.box; exact rfl; (simp only [Value.cells]; rfl); exact rfl; intro bx) | (apply R.alloc; (simp only [Value.cells]; rfl); exact rfl; intro ba) | (apply R.buildSlice; (exact a_prt); exact rfl; exact rfl; (exact a_fills); exact rfl; intro bl) | (refine a_sp ?_ ?_; (intro h; skip; rotate_left; intro h; skip; rotate_left)) | fail))
      (apply Fin.returnA (H2 := (rb, rrdB (.slice (some ⟨b0, o0, none⟩) bs.length c) at_ 11) :: H); assumption; (first | exact .inl rfl | exact .inr rfl); exact rfl; (exact a_res); (simp only [retv]; rfl); (exact a_arr))
      exact ⟨rfl, rfl, rfl⟩
    · rw [if_neg hf9] at hr
      have hbb := hbig hf9
      (repeat' (first | (apply R.step; (exact a_ok); exact rfl) | (first | (with_reducible first | apply R.nil | apply C.ret | apply C.block | apply C.skip | apply C.exit | apply Fin.thenRet | apply Fin.thenExit | apply Fin.blockNormal | apply Fin.blockRet | apply Fin.blockExit) | (with_reducible apply Fin.thenK; assumption) | (with_reducible apply C.seqR; intro _ _) | (with_reducible apply C.regionK; intro _ _) | (with_reducible apply Fin.blockOther; exact rfl)) | (first | (apply R.store; exact rfl; exact rfl; exact rfl; (exact a_at); (exact a_blit); exact rfl; (focus (simp [Value.oneCell']; done))) | (apply R.buildSlice0; exact rfl; intro bz) | (apply R.box; exact rfl; (simp only [Value.cells]; rfl); exact rfl; intro bx) | (apply R.alloc; (simp only [Value.cells]; rfl); exact rfl; intro ba) | (apply R.buildSlice; (exact a_prt); exact rfl; exact rfl; (exact a_fills); exact rfl; intro bl)) | (first | (apply R.guardT; assumption; exact rfl; exact rfl; exact rfl) | (apply R.guardF; assumption; exact rfl; exact rfl; exact rfl; exact rfl; exact rfl) | (apply R.guardU; assumption; exact rfl; exact rfl; exact rfl; exact rfl) | (apply R.guardDec; assumption; exact rfl; exact rfl; (intro h; skip; rotate_left; intro h; skip; rotate_left)) | (apply R.guardBeq; assumption; exact rfl; exact rfl; (intro h; skip; rotate_left; intro h; skip; rotate_left)) | (apply R.guardBne; assumption; exact rfl; exact rfl; (intro h; skip; rotate_left; intro h; skip; rotate_left)) | (apply R.guardNDec; assumption; exact rfl; exact rfl; (intro h; skip; rotate_left; intro h; skip; rotate_left)) | (apply R.guardNot; assumption; exact rfl; exact rfl; (intro h; skip; rotate_left; intro h; skip; rotate_left)) | (apply R.guardC; assumption; exact rfl; exact rfl; (intro h; skip; rotate_left; intro h; skip; rotate_left)))))
      (apply C.seqK; intro _ _)
      (repeat' (first | (apply R.step; (exact a_ok); exact rfl) | (first | (with_reducible first | apply R.nil | apply C.ret | apply C.block | apply C.skip | apply C.exit | apply Fin.thenRet | apply Fin.thenExit | apply Fin.blockNormal | apply Fin.blockRet | apply Fin.blockExit) | (with_reducible apply Fin.thenK; assumption) | (with_reducible apply C.seqR; intro _ _) | (with_reducible apply C.regionK; intro _ _) | (with_reducible apply Fin.blockOther; exact rfl)) | (first | (apply R.store; exact rfl; exact rfl; exact rfl; (exact a_at); (exact a_blit); exact rfl; (focus (simp [Value.oneCell']; done))) | (apply R.buildSlice0; exact rfl; intro bz) | (apply R.box; exact rfl; (simp only [Value.cells]; rfl); exact rfl; intro bx) | (apply R.alloc; (simp only [Value.cells]; rfl); exact rfl; intro ba) | (apply R.buildSlice; (exact a_prt); exact rfl; exact rfl; (exact a_fills); exact rfl; intro bl)) | (first | (apply R.guardT; assumption; exact rfl; exact rfl; exact rfl) | (apply R.guardF; assumption; exact rfl; exact rfl; exact rfl; exact rfl; exact rfl) | (apply R.guardU; assumption; exact rfl; exact rfl; exact rfl; exact rfl) | (apply R.guardDec; assumption; exact rfl; exact rfl; (intro h; skip; rotate_left; intro h; skip; rotate_left)) | (apply R.guardBeq; assumption; exact rfl; exact rfl; (intro h; skip; rotate_left; intro h; skip; rotate_left)) | (apply R.guardBne; assumption; exact rfl; exact rfl; (intro h; skip; rotate_left; intro h; skip; rotate_left)) | (apply R.guardNDec; assumption; exact rfl; exact rfl; (intro h; skip; rotate_left; intro h; skip; rotate_left)) | (apply R.guardNot; assumption; exact rfl; exact rfl; (intro h; skip; rotate_left; intro h; skip; rotate_left)) | (apply R.guardC; assumption; exact rfl; exact rfl; (intro h; skip; rotate_left; intro h; skip; rotate_left)))))
      (apply C.seqK; intro _ _)
      (repeat' (first | (apply R.step; (exact a_ok); exact rfl) | (first | (with_reducible first | apply R.nil | apply C.ret | apply C.block | apply C.skip | apply C.exit | apply Fin.thenRet | apply Fin.thenExit | apply Fin.blockNormal | apply Fin.blockRet | apply Fin.blockExit) | (with_reducible apply Fin.thenK; assumption) | (with_reducible apply C.seqR; intro _ _) | (with_reducible apply C.regionK; intro _ _) | (with_reducible apply Fin.blockOther; exact rfl)) | (first | (apply R.store; exact rfl; exact rfl; exact rfl; (exact a_at); (exact a_blit); exact rfl; (focus (simp [Value.oneCell']; done))) | (apply R.buildSlice0; exact rfl; intro bz) | (apply R.box; exact rfl; (simp only [Value.cells]; rfl); exact rfl; intro bx) | (apply R.alloc; (simp only [Value.cells]; rfl); exact rfl; intro ba) | (apply R.buildSlice; (exact a_prt); exact rfl; exact rfl; (exact a_fills); exact rfl; intro bl)) | (first | (apply R.guardT; assumption; exact rfl; exact rfl; exact rfl) | (apply R.guardF; assumption; exact rfl; exact rfl; exact rfl; exact rfl; exact rfl) | (apply R.guardU; assumption; exact rfl; exact rfl; exact rfl; exact rfl) | (apply R.guardDec; assumption; exact rfl; exact rfl; (intro h; skip; rotate_left; intro h; skip; rotate_left)) | (apply R.guardBeq; assumption; exact rfl; exact rfl; (intro h; skip; rotate_left; intro h; skip; rotate_left)) | (apply R.guardBne; assumption; exact rfl; exact rfl; (intro h; skip; rotate_left; intro h; skip; rotate_left)) | (apply R.guardNDec; assumption; exact rfl; exact rfl; (intro h; skip; rotate_left; intro h; skip; rotate_left)) | (apply R.guardNot; assumption; exact rfl; exact rfl; (intro h; skip; rotate_left; intro h; skip; rotate_left)) | (apply R.guardC; assumption; exact rfl; exact rfl; (intro h; skip; rotate_left; intro h; skip; rotate_left)))))
      (apply C.condDec; exact rfl; (intro h; exfalso; omega); intro _)
      (repeat' (first | (apply R.step; (exact a_ok); exact rfl) | (first | (with_reducible first | apply R.nil | apply C.ret | apply C.block | apply C.skip | apply C.exit | apply Fin.thenRet | apply Fin.thenExit | apply Fin.blockNormal | apply Fin.blockRet | apply Fin.blockExit) | (with_reducible apply Fin.thenK; assumption) | (with_reducible apply C.seqR; intro _ _) | (with_reducible apply C.regionK; intro _ _) | (with_reducible apply Fin.blockOther; exact rfl)) | (first | (apply R.store; exact rfl; exact rfl; exact rfl; (exact a_at); (exact a_blit); exact rfl; (focus (simp [Value.oneCell']; done))) | (apply R.buildSlice0; exact rfl; intro bz) | (apply R.box; exact rfl; (simp only [Value.cells]; rfl); exact rfl; intro bx) | (apply R.alloc; (simp only [Value.cells]; rfl); exact rfl; intro ba) | (apply R.buildSlice; (exact a_prt); exact rfl; exact rfl; (exact a_fills); exact rfl; intro bl)) | (first | (apply R.guardT; assumption; exact rfl; exact rfl; exact rfl) | (apply R.guardF; assumption; exact rfl; exact rfl; exact rfl; exact rfl; exact rfl) | (apply R.guardU; assumption; exact rfl; exact rfl; exact rfl; exact rfl) | (apply R.guardDec; assumption; exact rfl; exact rfl; (intro h; skip; rotate_left; intro h; skip; rotate_left)) | (apply R.guardBeq; assumption; exact rfl; exact rfl; (intro h; skip; rotate_left; intro h; skip; rotate_left)) | (apply R.guardBne; assumption; exact rfl; exact rfl; (intro h; skip; rotate_left; intro h; skip; rotate_left)) | (apply R.guardNDec; assumption; exact rfl; exact rfl; (intro h; skip; rotate_left; intro h; skip; rotate_left)) | (apply R.guardNot; assumption; exact rfl; exact rfl; (intro h; skip; rotate_left; intro h; skip; rotate_left)) | (apply R.guardC; assumption; exact rfl; exact rfl; (intro h; skip; rotate_left; intro h; skip; rotate_left)))))
      (apply R.step; (apply Ok.loadP; exact rfl; exact rfl; exact hM; rw [e1]; exact hcell); exact rfl)
      (repeat' (first | (apply R.step; (exact a_ok); exact rfl) | (first | (with_reducible first | apply R.nil | apply C.ret | apply C.block | apply C.skip | apply C.exit | apply Fin.thenRet | apply Fin.thenExit | apply Fin.blockNormal | apply Fin.blockRet | apply Fin.blockExit) | (with_reducible apply Fin.thenK; assumption) | (with_reducible apply C.seqR; intro _ _) | (with_reducible apply C.regionK; intro _ _) | (with_reducible apply Fin.blockOther; exact rfl)) | (first | (apply R.store; exact rfl; exact rfl; exact rfl; (exact a_at); (exact a_blit); exact rfl; (focus (simp [Value.oneCell']; done))) | (apply R.buildSlice0; exact rfl; intro bz) | (apply R.box; exact rfl; (simp only [Value.cells]; rfl); exact rfl; intro bx) | (apply R.alloc; (simp only [Value.cells]; rfl); exact rfl; intro ba) | (apply R.buildSlice; (exact a_prt); exact rfl; exact rfl; (exact a_fills); exact rfl; intro bl)) | (first | (apply R.guardT; assumption; exact rfl; exact rfl; exact rfl) | (apply R.guardF; assumption; exact rfl; exact rfl; exact rfl; exact rfl; exact rfl) | (apply R.guardU; assumption; exact rfl; exact rfl; exact rfl; exact rfl) | (apply R.guardDec; assumption; exact rfl; exact rfl; (intro h; skip; rotate_left; intro h; skip; rotate_left)) | (apply R.guardBeq; assumption; exact rfl; exact rfl; (intro h; skip; rotate_left; intro h; skip; rotate_left)) | (apply R.guardBne; assumption; exact rfl; exact rfl; (intro h; skip; rotate_left; intro h; skip; rotate_left)) | (apply R.guardNDec; assumption; exact rfl; exact rfl; (intro h; skip; rotate_left; intro h; skip; rotate_left)) | (apply R.guardNot; assumption; exact rfl; exact rfl; (intro h; skip; rotate_left; intro h; skip; rotate_left)) | (apply R.guardC; assumption; exact rfl; exact rfl; (intro h; skip; rotate_left; intro h; skip; rotate_left)))))
      apply C.seqCut (X := Unit) (fun _ => True) (fun _ => [(0, .pointer (some ⟨rb, 0, none⟩)), (1, .int .u64 (most : Int)), (5, .int .i64 (at_ : Int)), (6, .int .u64 (n : Int)), (7, .int .i64 ii), (8, bv x)]) (fun _ => M) (fun _ => (rb, .cells [.slice (some ⟨b0, o0, none⟩) bs.length c, .int .i64 ↑at_, .int .i64 0].toArray 95 (0, 0)) :: H)
      · (repeat' (first | refine a_go ?_ | (with_reducible apply Fin.thenK; assumption) | (with_reducible (first | apply C.seqK | apply C.regionK); intro _ _) | (apply R.buildSlice0; exact rfl; intro bz) | (apply R.box; exact rfl; (simp only [Value.cells]; rfl); exact rfl; intro bx) | (apply R.alloc; (simp only [Value.cells]; rfl); exact rfl; intro ba) | (apply R.buildSlice; (exact a_prt); exact rfl; exact rfl; (exact a_fills); exact rfl; intro bl) | (refine a_sp ?_ ?_; (intro h; skip; rotate_left; intro h; skip; rotate_left)) | fail))
        any_goals (exfalso; omega)
        all_goals (refine Fin.join () trivial ?_ rfl rfl; (exact a_subs))
      · intro _ _
        generalize hq : n + x.toNat % 128 * p = q at hr hbb
        have eqq : (n : Int) + ((x.toNat % 128 * p : Nat) : Int) = (q : Int) := by omega
        have eat : (at_ : Int) + ii + 1 = ((at_ + i + 1 : Nat) : Int) := by omega
        have hok : ¬ 128 ≤ x.toNat → ¬ (x.toNat = 0 ∧ 0 < i) → numR bs at_ = (q, 0, at_ + i + 1) := fun h1 h2 => by
          rw [hr, if_neg h1, if_neg h2]
        have hlong : numR bs at_ = (q, 0, at_ + i + 1) → most < q → numRd bs most at_ 0 = (0, at_, 12) := fun h1 h2 => by
          rw [hnr, h1]
          exact if_pos ⟨rfl, h2⟩
        have hfine : numR bs at_ = (q, 0, at_ + i + 1) → ¬ most < q → numRd bs most at_ 0 = (q, at_ + i + 1, 0) := fun h1 h2 => by
          rw [hnr, h1]
          exact (if_neg (fun h => h2 h.2)).trans (if_neg (fun h => h rfl))
        (repeat' (first | (apply R.step; (apply Ok.move; exact rfl); exact rfl) | (apply R.step; (first | (rw [e128]; apply Ok.convB; exact rfl; apply wu64; omega; omega) | (apply Ok.shlUN (7 * i) p; exact rfl; exact rfl; omega; omega; (rw [hp128]; exact hpw); omega) | (apply Ok.addQ (q : Int); exact rfl; exact rfl; exact eqq; apply wu64; omega; omega) | (apply Ok.addQ ((at_ + i + 1 : Nat) : Int); exact rfl; exact rfl; exact eat; apply w64; omega; omega)); exact rfl) | refine a_go ?_ | (with_reducible apply Fin.thenK; assumption) | (with_reducible (first | apply C.seqK | apply C.regionK); intro _ _) | (apply R.buildSlice0; exact rfl; intro bz) | (apply R.box; exact rfl; (simp only [Value.cells]; rfl); exact rfl; intro bx) | (apply R.alloc; (simp only [Value.cells]; rfl); exact rfl; intro ba) | (apply R.buildSlice; (exact a_prt); exact rfl; exact rfl; (exact a_fills); exact rfl; intro bl) | (refine a_sp ?_ ?_; (intro h; skip; rotate_left; intro h; skip; rotate_left)) | fail))
        · have h : (128 : Int) ≤ (x.toNat : Int) := by assumption
          have hi9 : i ≠ 9 := fun h9 => hf9 ⟨h9, by omega⟩
          refine Fin.again (⟨i + 1, ii + 1, q⟩ : NmL) ⟨by dsimp only; omega, by dsimp only; omega, by dsimp only; rw [hsucc]; omega, by dsimp only; rw [hr, if_pos (by omega), show 10 - (i + 1) = 9 - i by omega]⟩ (by dsimp only; omega) ?_ rfl rfl
          (exact a_subs)
        · have h1 : ¬ (128 : Int) ≤ (x.toNat : Int) := by assumption
          have h2 : (x.toNat : Int) = 0 := by assumption
          have h3 : 0 < ii := by assumption
          have hz : numR bs at_ = (0, 11, 0) := by rw [hr, if_neg (by omega), if_pos ⟨by omega, by omega⟩]
          have hnz : numRd bs most at_ 0 = (0, at_, 11) := by
            rw [hnr, hz]
            rfl
          rw [hnz] at hQ
          (apply R.call; (exact a_evs); exact rfl; exact wrong_K (at_ := at_) (at2 := at_) (bad := 0) (e := 11); rintro _ M _ ⟨rfl, rfl, rfl⟩)
          (repeat' (first | refine a_go ?_ | (with_reducible apply Fin.thenK; assumption) | (with_reducible (first | apply C.seqK | apply C.regionK); intro _ _) | (apply R.buildSlice0; exact rfl; intro bz) | (apply R.box; exact rfl; (simp only [Value.cells]; rfl); exact rfl; intro bx) | (apply R.alloc; (simp only [Value.cells]; rfl); exact rfl; intro ba) | (apply R.buildSlice; (exact a_prt); exact rfl; exact rfl; (exact a_fills); exact rfl; intro bl) | (refine a_sp ?_ ?_; (intro h; skip; rotate_left; intro h; skip; rotate_left)) | fail))
          (apply Fin.returnA (H2 := (rb, rrdB (.slice (some ⟨b0, o0, none⟩) bs.length c) at_ 11) :: H); assumption; (first | exact .inl rfl | exact .inr rfl); exact rfl; (exact a_res); (simp only [retv]; rfl); (exact a_arr))
          exact ⟨rfl, rfl, rfl⟩
        · have h1 : ¬ (128 : Int) ≤ (x.toNat : Int) := by assumption
          have h2 : ¬ 0 < ii := by assumption
          have h3 : (most : Int) < (q : Int) := by assumption
          have hnz := hlong (hok (by omega) (by omega)) (by omega)
          rw [hnz] at hQ
          (apply R.call; (exact a_evs); exact rfl; exact wrong_K (at_ := at_) (at2 := at_) (bad := 0) (e := 12); rintro _ M _ ⟨rfl, rfl, rfl⟩)
          (repeat' (first | refine a_go ?_ | (with_reducible apply Fin.thenK; assumption) | (with_reducible (first | apply C.seqK | apply C.regionK); intro _ _) | (apply R.buildSlice0; exact rfl; intro bz) | (apply R.box; exact rfl; (simp only [Value.cells]; rfl); exact rfl; intro bx) | (apply R.alloc; (simp only [Value.cells]; rfl); exact rfl; intro ba) | (apply R.buildSlice; (exact a_prt); exact rfl; exact rfl; (exact a_fills); exact rfl; intro bl) | (refine a_sp ?_ ?_; (intro h; skip; rotate_left; intro h; skip; rotate_left)) | fail))
          (apply Fin.returnA (H2 := (rb, rrdB (.slice (some ⟨b0, o0, none⟩) bs.length c) at_ 12) :: H); assumption; (first | exact .inl rfl | exact .inr rfl); exact rfl; (exact a_res); (simp only [retv]; rfl); (exact a_arr))
          exact ⟨rfl, rfl, rfl⟩
        · have h1 : ¬ (128 : Int) ≤ (x.toNat : Int) := by assumption
          have h2 : ¬ 0 < ii := by assumption
          have h3 : ¬ (most : Int) < (q : Int) := by assumption
          have hnz := hfine (hok (by omega) (by omega)) (by omega)
          rw [hnz] at hQ
          (apply Fin.returnA (H2 := (rb, rrdB (.slice (some ⟨b0, o0, none⟩) bs.length c) (at_ + i + 1) 0) :: H); assumption; (first | exact .inl rfl | exact .inr rfl); exact rfl; (exact a_res); (simp only [retv]; rfl); (exact a_arr))
          exact ⟨rfl, rfl, rfl⟩
        · have h1 : ¬ (128 : Int) ≤ (x.toNat : Int) := by assumption
          have h2 : ¬ (x.toNat : Int) = 0 := by assumption
          have h3 : (most : Int) < (q : Int) := by assumption
          have hnz := hlong (hok (by omega) (by omega)) (by omega)
          rw [hnz] at hQ
          (apply R.call; (exact a_evs); exact rfl; exact wrong_K (at_ := at_) (at2 := at_) (bad := 0) (e := 12); rintro _ M _ ⟨rfl, rfl, rfl⟩)
          (repeat' (first | refine a_go ?_ | (with_reducible apply Fin.thenK; assumption) | (with_reducible (first | apply C.seqK | apply C.regionK); intro _ _) | (apply R.buildSlice0; exact rfl; intro bz) | (apply R.box; exact rfl; (simp only [Value.cells]; rfl); exact rfl; intro bx) | (apply R.alloc; (simp only [Value.cells]; rfl); exact rfl; intro ba) | (apply R.buildSlice; (exact a_prt); exact rfl; exact rfl; (exact a_fills); exact rfl; intro bl) | (refine a_sp ?_ ?_; (intro h; skip; rotate_left; intro h; skip; rotate_left)) | fail))
          (apply Fin.returnA (H2 := (rb, rrdB (.slice (some ⟨b0, o0, none⟩) bs.length c) at_ 12) :: H); assumption; (first | exact .inl rfl | exact .inr rfl); exact rfl; (exact a_res); (simp only [retv]; rfl); (exact a_arr))
          exact ⟨rfl, rfl, rfl⟩
        · have h1 : ¬ (128 : Int) ≤ (x.toNat : Int) := by assumption
          have h2 : ¬ (x.toNat : Int) = 0 := by assumption
          have h3 : ¬ (most : Int) < (q : Int) := by assumption
          have hnz := hfine (hok (by omega) (by omega)) (by omega)
          rw [hnz] at hQ
          (apply Fin.returnA (H2 := (rb, rrdB (.slice (some ⟨b0, o0, none⟩) bs.length c) (at_ + i + 1) 0) :: H); assumption; (first | exact .inl rfl | exact .inr rfl); exact rfl; (exact a_res); (simp only [retv]; rfl); (exact a_arr))
          exact ⟨rfl, rfl, rfl⟩
  · have hz : numR bs at_ = (0, 10, 0) := by
      rw [hr, show 10 - i = (9 - i) + 1 by omega]
      unfold numGo
      rw [List.getElem?_eq_none (by omega)]
    have hnz : numRd bs most at_ 0 = (0, at_, 10) := by
      rw [hnr, hz]
      rfl
    rw [hnz] at hQ
    (repeat' (first | (apply R.step; (apply Ok.move; exact rfl); exact rfl) | (apply R.step; (first | (apply Ok.ltTr; exact rfl; exact rfl; omega) | (apply Ok.ltF; exact rfl; exact rfl; omega) | (apply Ok.gtTr; exact rfl; exact rfl; omega) | (apply Ok.gtF; exact rfl; exact rfl; omega) | (apply Ok.geTr; exact rfl; exact rfl; omega) | (apply Ok.geF; exact rfl; exact rfl; omega) | (apply Ok.leTr; exact rfl; exact rfl; omega) | (apply Ok.leF; exact rfl; exact rfl; omega) | (apply Ok.neIT; exact rfl; exact rfl; omega) | (apply Ok.eqIF; exact rfl; exact rfl; omega)); exact rfl) | refine a_go ?_ | (with_reducible apply Fin.thenK; assumption) | (with_reducible (first | apply C.seqK | apply C.regionK); intro _ _) | (apply R.buildSlice0; exact rfl; intro bz) | (apply R.box; exact rfl; (simp only [Value.cells]; rfl); exact rfl; intro bx) | (apply R.alloc; (simp only [Value.cells]; rfl); exact rfl; intro ba) | (apply R.buildSlice; (exact a_prt); exact rfl; exact rfl; (exact a_fills); exact rfl; intro bl) | (refine a_sp ?_ ?_; (intro h; skip; rotate_left; intro h; skip; rotate_left)) | fail))
    (apply R.call; (exact a_evs); exact rfl; exact wrong_K (at_ := at_) (at2 := at_) (bad := 0) (e := 10); rintro _ M _ ⟨rfl, rfl, rfl⟩)
    (repeat' (first | refine a_go ?_ | (with_reducible apply Fin.thenK; assumption) | (with_reducible (first | apply C.seqK | apply C.regionK); intro _ _) | (apply R.buildSlice0; exact rfl; intro bz) | (apply R.box; exact rfl; (simp only [Value.cells]; rfl); exact rfl; intro bx) | (apply R.alloc; (simp only [Value.cells]; rfl); exact rfl; intro ba) | (apply R.buildSlice; (exact a_prt); exact rfl; exact rfl; (exact a_fills); exact rfl; intro bl) | (refine a_sp ?_ ?_; (intro h; skip; rotate_left; intro h; skip; rotate_left)) | fail))
    (apply Fin.returnA (H2 := (rb, rrdB (.slice A bs.length c) at_ 10) :: H); assumption; (first | exact .inl rfl | exact .inr rfl); exact rfl; (exact a_res); (simp only [retv]; rfl); (exact a_arr))
    exact ⟨rfl, rfl, rfl⟩
end Go.Sx
end
section
namespace Go.Sx
open Go Go.Proofs Go.RowKit
attribute [local irreducible] C R Fin K Own Rd Pl Ok KOf RetOk OpsOf RP KP Res NoPanic
variable {M M' : Mem} {H H1 H2 : Hp}
theorem rsum_K {A : Option Addr} {cap : Nat} {bs : List UInt8} (hpl : Pl M A (bs.map bv)) (hb : bs.length ≤ 140737488351232) : K Try.prog 42 [.slice A bs.length cap] M H fun v M' H' => v = wv (sumS bs) ∧ M' = M ∧ H' = H := by
  refine K.enterK Try.func42 rfl rfl rfl ?_
  intro Q hNP hQ
  (repeat' (first | refine a_go ?_ | (with_reducible apply Fin.thenK; assumption) | (with_reducible (first | apply C.seqK | apply C.regionK); intro _ _) | (apply R.buildSlice0; exact rfl; intro bz) | (apply R.box; exact rfl; (simp only [Value.cells]; rfl); exact rfl; intro bx) | (apply R.alloc; (simp only [Value.cells]; rfl); exact rfl; intro ba) | (apply R.buildSlice; (exact a_prt); exact rfl; exact rfl; (exact a_fills); exact rfl; intro bl) | (refine a_sp ?_ ?_; (intro h; skip; rotate_left; intro h; skip; rotate_left)) | fail))
  apply C.loop (fun x : SumL => 0 ≤ x.i ∧ x.i ≤ bs.length ∧ x.h < 4294967296 ∧ (bs.drop x.i.toNat).foldl byteS x.h = bs.foldl byteS 4294967295)
    (fun x => [(0, .slice A bs.length cap), (3, wv x.h), (4, .int .i64 x.i)]) (fun _ => M) (fun _ => H) (fun x => (bs.length - x.i).toNat) ⟨0, 4294967295⟩
  · exact ⟨Int.le_refl 0, Int.natCast_nonneg _, by decide, rfl⟩
  · (exact a_subs)
  · exact rfl
  · exact rfl
  rintro ⟨i, z⟩ ⟨hi, hi2, hh, hs⟩
  dsimp only at hi hi2 hh hs ⊢
  (repeat' (first | refine a_go ?_ | (with_reducible apply Fin.thenK; assumption) | (with_reducible (first | apply C.seqK | apply C.regionK); intro _ _) | (apply R.buildSlice0; exact rfl; intro bz) | (apply R.box; exact rfl; (simp only [Value.cells]; rfl); exact rfl; intro bx) | (apply R.alloc; (simp only [Value.cells]; rfl); exact rfl; intro ba) | (apply R.buildSlice; (exact a_prt); exact rfl; exact rfl; (exact a_fills); exact rfl; intro bl) | (refine a_sp ?_ ?_; (intro h; skip; rotate_left; intro h; skip; rotate_left)) | fail))
  · have hlt : i < bs.length := by assumption
    obtain ⟨b0, o0, c0, e0, f0, rfl, hat, hcell⟩ := hpl.cell (by simp; omega)
    (apply R.step; (apply Ok.indexAddr; exact rfl; exact rfl; omega; omega); exact rfl)
    (apply R.step; (apply Ok.loadP; exact rfl; exact rfl; exact hat; rw [Nat.mul_one]; exact hcell _ _ (bv_at (o := i.toNat) (by omega))); exact rfl)
    have hbl : bs[i.toNat].toNat < 256 := bs[i.toNat].toNat_lt
    have hdrop : bs.drop i.toNat = bs[i.toNat] :: bs.drop (i.toNat + 1) := List.drop_eq_getElem_cons (by omega)
    rw [hdrop, List.foldl_cons] at hs
    generalize bs[i.toNat] = b at hbl hs
    (repeat' (first | refine a_go ?_ | (with_reducible apply Fin.thenK; assumption) | (with_reducible (first | apply C.seqK | apply C.regionK); intro _ _) | (apply R.buildSlice0; exact rfl; intro bz) | (apply R.box; exact rfl; (simp only [Value.cells]; rfl); exact rfl; intro bx) | (apply R.alloc; (simp only [Value.cells]; rfl); exact rfl; intro ba) | (apply R.buildSlice; (exact a_prt); exact rfl; exact rfl; (exact a_fills); exact rfl; intro bl) | (refine a_sp ?_ ?_; (intro h; skip; rotate_left; intro h; skip; rotate_left)) | fail))
    apply C.loop (fun y : SumL => 0 ≤ y.i ∧ y.i ≤ 8 ∧ y.h < 4294967296 ∧ bitsS (8 - y.i.toNat) y.h = byteS z b)
      (fun y => [(0, .slice (some ⟨b0, o0, none⟩) bs.length cap), (3, wv y.h), (4, .int .i64 i), (5, .int .i64 y.i)]) (fun _ => M) (fun _ => H) (fun y => (8 - y.i).toNat) ⟨0, z ^^^ b.toNat⟩
    · exact ⟨Int.le_refl 0, by dsimp only; omega, xor_lt hh (by omega), rfl⟩
    · (exact a_subs)
    · exact rfl
    · exact rfl
    rintro ⟨j, g⟩ ⟨hj, hj2, hg, hb3⟩
    dsimp only at hj hj2 hg hb3 ⊢
    (repeat' (first | refine a_go ?_ | (with_reducible apply Fin.thenK; assumption) | (with_reducible (first | apply C.seqK | apply C.regionK); intro _ _) | (apply R.buildSlice0; exact rfl; intro bz) | (apply R.box; exact rfl; (simp only [Value.cells]; rfl); exact rfl; intro bx) | (apply R.alloc; (simp only [Value.cells]; rfl); exact rfl; intro ba) | (apply R.buildSlice; (exact a_prt); exact rfl; exact rfl; (exact a_fills); exact rfl; intro bl) | (refine a_sp ?_ ?_; (intro h; skip; rotate_left; intro h; skip; rotate_left)) | fail))
    · refine Fin.again (⟨j + 1, g / 2 ^^^ 2197175160⟩ : SumL) ⟨by dsimp only; omega, by dsimp only; omega, xor_lt (by omega) (by decide), ?_⟩ (by dsimp only; omega) ?_ rfl rfl
      · dsimp only
        have h1 : ((g &&& 1 : Nat) : Int) = 1 := by assumption
        rw [← hb3, show 8 - j.toNat = (8 - (j + 1).toNat) + 1 by omega, bitsS]
        unfold bitS
        rw [if_pos (by rw [Nat.and_one_is_mod] at h1; omega)]
      · dsimp only
        (exact a_subs)
    · refine Fin.again (⟨j + 1, g / 2⟩ : SumL) ⟨by dsimp only; omega, by dsimp only; omega, by dsimp only; omega, ?_⟩ (by dsimp only; omega) ?_ rfl rfl
      · dsimp only
        have h1 : ((g &&& 1 : Nat) : Int) ≠ 1 := by assumption
        rw [← hb3, show 8 - j.toNat = (8 - (j + 1).toNat) + 1 by omega, bitsS]
        unfold bitS
        rw [if_neg (by rw [Nat.and_one_is_mod] at h1; omega)]
      · dsimp only
        (exact a_subs)
    · refine Fin.again (⟨i + 1, g⟩ : SumL) ⟨by dsimp only; omega, by dsimp only; omega, hg, ?_⟩ (by dsimp only; omega) ?_ rfl rfl
      · dsimp only
        have h1 : ¬ j < 8 := by assumption
        have h8 : j = 8 := by omega
        subst h8
        have h9 : g = byteS z b := hb3
        rw [h9, show (i + 1).toNat = i.toNat + 1 by omega]
        exact hs
      · dsimp only
        (exact a_subs)
  · (refine Fin.rt ?_)
    refine ⟨?_, rfl, rfl⟩
    have h1 : ¬ i < bs.length := by assumption
    rw [List.drop_of_length_le (by omega)] at hs
    unfold sumS
    rw [← hs, Nat.xor_comm]
    rfl
end Go.Sx
end
section
namespace Go.Sx
open Go.Proofs Go.RowKit
attribute [local irreducible] C R Fin K Own Rd Pl Ok KOf RetOk OpsOf RP KP Res NoPanic KV
variable {M : Mem} {H : Hp}
theorem rframe_K {A : Option Addr} {cap : Nat} {bs : List UInt8} (hpl : Pl M A (bs.map bv)) (hb : bs.length ≤ 140737488351232) : K Try.prog 17 [.slice A bs.length cap] M H fun v M' H' =>
    ∃ hp, Own 5 1 v (frameS bs).length ((frameS bs).map bv) hp ∧ M' = M ∧ H' = hp ++ H := by
  refine K.enterK Try.func17 rfl rfl rfl ?_
  intro Q hNP hQ
  (repeat' (first | refine a_go ?_ | (with_reducible apply Fin.thenK; assumption) | (with_reducible (first | apply C.seqK | apply C.regionK); intro _ _) | (apply R.buildSlice0; exact rfl; intro bz) | (apply R.box; exact rfl; (simp only [Value.cells]; rfl); exact rfl; intro bx) | (apply R.alloc; (simp only [Value.cells]; rfl); exact rfl; intro ba) | (apply R.buildSlice; (exact a_prt); exact rfl; exact rfl; (exact a_fills); exact rfl; intro bl) | (refine a_sp ?_ ?_; (intro h; skip; rotate_left; intro h; skip; rotate_left)) | fail))
  · have h1 : 65536 < (bs.length : Int) := by assumption
    (apply Fin.returnA (H2 := [] ++ H); assumption; (first | exact .inl rfl | exact .inr rfl); exact rfl; (exact a_res); (simp only [retv]; rfl); (exact a_arr))
    have e : frameS bs = [] := if_pos (by omega)
    rw [e]
    exact ⟨[], Own.nil _ 1, rfl, rfl⟩
  have hle : ¬ 65536 < (bs.length : Int) := by assumption
  (apply R.call; (exact a_evs); exact rfl); exact rsum_K hpl hb; rintro _ M H ⟨rfl, rfl, rfl⟩
  (repeat' (first | (apply R.step; (apply Ok.move; exact rfl); exact rfl) | (apply R.step; (first | (apply Ok.shrIN 8 256; exact rfl; exact rfl; decide; decide) | (apply Ok.shrIN 16 65536; exact rfl; exact rfl; decide; decide) | (apply Ok.shrIN 24 16777216; exact rfl; exact rfl; decide; decide) | (apply Ok.convLI; exact rfl) | (apply Ok.convL; exact rfl)); exact rfl) | refine a_go ?_ | (with_reducible apply Fin.thenK; assumption) | (with_reducible (first | apply C.seqK | apply C.regionK); intro _ _) | (apply R.buildSlice0; exact rfl; intro bz) | (apply R.box; exact rfl; (simp only [Value.cells]; rfl); exact rfl; intro bx) | (apply R.alloc; (simp only [Value.cells]; rfl); exact rfl; intro ba) | (apply R.buildSlice; (exact a_prt); exact rfl; exact rfl; (exact a_fills); exact rfl; intro bl) | (refine a_sp ?_ ?_; (intro h; skip; rotate_left; intro h; skip; rotate_left)) | fail))
  have ho8 : Own 5 1 (.slice (some ⟨bl, 0, none⟩) 8 8) 8 ((layS bs.length ++ layS (sumS bs)).map bv) [(bl, .cells ((layS bs.length ++ layS (sumS bs)).map bv).toArray 5 (0, 0))] := Own.of_cells (xs := (layS bs.length ++ layS (sumS bs)).map bv) (by show 8 ≤ maxLen; unfold maxLen; omega)
  (apply R.append; exact rfl; exact rfl; exact ho8; exact Tk.one _ _ _; exact hpl.rd; (focus (simp; done)); exact bv_one _; (show (8 + bs.length) * 1 ≤ _; omega); exact rfl; decide; decide; exact rfl; rintro v4 hp4 hown4)
  (repeat' (first | refine a_go ?_ | (with_reducible apply Fin.thenK; assumption) | (with_reducible (first | apply C.seqK | apply C.regionK); intro _ _) | (apply R.buildSlice0; exact rfl; intro bz) | (apply R.box; exact rfl; (simp only [Value.cells]; rfl); exact rfl; intro bx) | (apply R.alloc; (simp only [Value.cells]; rfl); exact rfl; intro ba) | (apply R.buildSlice; (exact a_prt); exact rfl; exact rfl; (exact a_fills); exact rfl; intro bl) | (refine a_sp ?_ ?_; (intro h; skip; rotate_left; intro h; skip; rotate_left)) | fail))
  (apply Fin.returnA (H2 := hp4 ++ H); assumption; (first | exact .inl rfl | exact .inr rfl); exact rfl; (exact a_res); (simp only [retv]; rfl); (exact a_arr))
  have e : frameS bs = layS bs.length ++ layS (sumS bs) ++ bs := if_neg (by omega)
  rw [e]
  refine ⟨hp4, ?_, rfl, rfl⟩
  rw [List.length_append, List.map_append]
  exact hown4
structure RlX where
  at_ : Nat
  ai : Int
  M : Mem
  ov : Value
  vs : List Value
  pre : List (List UInt8)
  hrow : Hp
set_option maxHeartbeats 4000000 in
theorem rlist_K {A : Option Addr} {cap : Nat} {bs : List UInt8} (hpl : Pl M A (bs.map bv)) (hc : bs.length ≤ cap) (hb : cap ≤ 9223372036854775807) (hsm : bs.length ≤ 2147483648) : K Try.prog 48 [.slice A bs.length cap] M H fun v M' H' =>
    ∃ ov, v = .tuple #[ov, .int .i64 (endS (framesF bs.length bs))] ∧ PlL M' ov (framesF bs.length bs) ∧ M.le M' ∧ H' = H := by
  refine K.enterK Try.func48 rfl rfl rfl ?_
  intro Q hNP hQ
  (repeat' (first | refine a_go ?_ | (with_reducible apply Fin.thenK; assumption) | (with_reducible (first | apply C.seqK | apply C.regionK); intro _ _) | (apply R.buildSlice0; exact rfl; intro bz) | (apply R.box; exact rfl; (simp only [Value.cells]; rfl); exact rfl; intro bx) | (apply R.alloc; (simp only [Value.cells]; rfl); exact rfl; intro ba) | (apply R.buildSlice; (exact a_prt); exact rfl; exact rfl; (exact a_fills); exact rfl; intro bl) | (refine a_sp ?_ ?_; (intro h; skip; rotate_left; intro h; skip; rotate_left)) | fail))
  apply C.loop (fun x : RlX => (x.at_ : Int) = x.ai ∧ x.at_ ≤ bs.length ∧ M.le x.M ∧ PlV x.M x.vs x.pre ∧ Own 29 1 x.ov x.pre.length x.vs x.hrow ∧ framesF bs.length bs = x.pre ++ framesF (bs.drop x.at_).length (bs.drop x.at_) ∧ endS x.pre = x.at_)
    (fun x => [(0, .slice A bs.length cap), (4, x.ov), (5, .int .i64 x.ai)]) (fun x => x.M) (fun x => x.hrow ++ H) (fun x => bs.length - x.at_) ⟨0, 0, M, .slice none 0 0, [], [], []⟩
  · exact ⟨rfl, Nat.zero_le _, Mem.le_refl _, PlV.nil, Own.nil _ 1, rfl, rfl⟩
  · (exact a_subs)
  · exact rfl
  · exact rfl
  rintro ⟨at_, ai, M1, ov, vs, pre, hrow⟩ ⟨hai, hat, hM1, hvs, how, hfr, hend⟩
  dsimp only at hai hat hM1 hvs how hfr hend ⊢
  obtain ⟨AO, capO, rfl, hoc, _⟩ := how.form
  have fin : wholeS (bs.drop at_) = none → ∀ M2, M1.le M2 → In M2 hrow → ∃ ov, Value.tuple #[.slice AO pre.length capO, .int .i64 ai] = .tuple #[ov, .int .i64 (endS (framesF bs.length bs))] ∧ PlL M2 ov (framesF bs.length bs) ∧ M.le M2 ∧ H = H := by
    intro hw M2 hM2 hin
    rw [hfr, framesF_none hw, List.append_nil, hend, hai]
    exact ⟨_, rfl, Own.plL how hin (hvs.mono hM2), hM1.trans_ hM2, rfl⟩
  (repeat' (first | refine a_go ?_ | (with_reducible apply Fin.thenK; assumption) | (with_reducible (first | apply C.seqK | apply C.regionK); intro _ _) | (apply R.buildSlice0; exact rfl; intro bz) | (apply R.box; exact rfl; (simp only [Value.cells]; rfl); exact rfl; intro bx) | (apply R.alloc; (simp only [Value.cells]; rfl); exact rfl; intro ba) | (apply R.buildSlice; (exact a_prt); exact rfl; exact rfl; (exact a_fills); exact rfl; intro bl) | (refine a_sp ?_ ?_; (intro h; skip; rotate_left; intro h; skip; rotate_left)) | fail))
  · have h8 : 8 ≤ (bs.length : Int) - ai := by assumption
    obtain ⟨x0, x1, x2, x3, x4, x5, x6, x7, rest, hdr⟩ : ∃ x0 x1 x2 x3 x4 x5 x6 x7 rest, bs.drop at_ = x0 :: x1 :: x2 :: x3 :: x4 :: x5 :: x6 :: x7 :: rest := by
      have : 8 ≤ (bs.drop at_).length := by simp; omega
      match hd : bs.drop at_, this with
      | x0 :: x1 :: x2 :: x3 :: x4 :: x5 :: x6 :: x7 :: rest, _ => exact ⟨x0, x1, x2, x3, x4, x5, x6, x7, rest, rfl⟩
    obtain ⟨b0, o0, c0, e0, f0, rfl, hat0, hcell⟩ := (hpl.mono hM1).cell (by simp; omega)
    have hget : ∀ k x, (bs.drop at_)[k]? = some x → c0[o0 + (at_ + k)]? = some (bv x) := by
      intro k x hx
      rw [List.getElem?_drop] at hx
      exact hcell _ _ (by rw [List.getElem?_map, hx]; rfl)
    rw [hdr] at hget
    have g0 := hget 0 x0 rfl
    have g1 := hget 1 x1 rfl
    have g2 := hget 2 x2 rfl
    have g3 := hget 3 x3 rfl
    have g4 := hget 4 x4 rfl
    have g5 := hget 5 x5 rfl
    have g6 := hget 6 x6 rfl
    have g7 := hget 7 x7 rfl
    have l0 : x0.toNat < 256 := x0.toNat_lt
    have l1 : x1.toNat < 256 := x1.toNat_lt
    have l2 : x2.toNat < 256 := x2.toNat_lt
    have l3 : x3.toNat < 256 := x3.toNat_lt
    have n0 : Unit → o0 + ai.toNat * 1 = o0 + (at_ + 0) := fun _ => by omega
    have n1 : Unit → o0 + (ai + 1).toNat * 1 = o0 + (at_ + 1) := fun _ => by omega
    have n2 : Unit → o0 + (ai + 2).toNat * 1 = o0 + (at_ + 2) := fun _ => by omega
    have n3 : Unit → o0 + (ai + 3).toNat * 1 = o0 + (at_ + 3) := fun _ => by omega
    have n4 : Unit → o0 + (ai + 4).toNat * 1 = o0 + (at_ + 4) := fun _ => by omega
    have n5 : Unit → o0 + (ai + 5).toNat * 1 = o0 + (at_ + 5) := fun _ => by omega
    have n6 : Unit → o0 + (ai + 6).toNat * 1 = o0 + (at_ + 6) := fun _ => by omega
    have n7 : Unit → o0 + (ai + 7).toNat * 1 = o0 + (at_ + 7) := fun _ => by omega
    (apply C.regionO (ks := [1, 1, 1, 1, 1, 1, 1, 1, 1, 1, 1, 1, 1, 1, 1, 1, 1, 1, 1, 1, 1, 1, 1, 1, 1, 1, 1, 1, 1, 1]) (is := [0, 1, 2, 3, 4, 5, 6, 7, 8, 9, 10, 11, 12, 13, 14, 15, 16, 17, 18, 19, 20, 21, 22, 23, 24, 25, 26, 27, 28, 29]) (Hs := []); exact Mix.h; (first | exact Arr.all _ | (exact a_arr)); (exact a_np); (exact a_picked); kernel_rfl; intro _ e; subst e)
    (repeat' (first | (apply RP.step; intro _ _ _; (apply Ok.move; exact rfl); exact rfl) | (apply RP.step; intro _ _ hM; (first | (apply Ok.indexAddr; exact rfl; exact rfl; omega; omega) | (apply Ok.loadP; exact rfl; exact rfl; exact hM.2.2 _ _ hat0; (first | (rw [n0 ()]; exact g0) | (rw [n1 ()]; exact g1) | (rw [n2 ()]; exact g2) | (rw [n3 ()]; exact g3))) | (apply Ok.shlIN 8 256; exact rfl; exact rfl; decide; decide; omega) | (apply Ok.shlIN 16 65536; exact rfl; exact rfl; decide; decide; omega) | (apply Ok.shlIN 24 16777216; exact rfl; exact rfl; decide; decide; omega)); exact rfl) | (first | (apply RP.step; intro _ _ _; (exact a_ok); exact rfl) | (apply RP.stepT; exact rfl; exact rfl; exact rfl; intro _ _ _; (exact a_ok); exact rfl) | (apply RP.stepF; exact rfl; exact rfl; exact rfl; exact rfl; exact rfl) | (apply RP.effF; exact rfl; exact rfl; exact rfl; exact rfl; exact rfl)) | (apply RP.callQ; (exact a_evs); exact rfl)))
    apply RP.nil
    generalize hn : (x0.toNat : Int) + ((x1.toNat * 256 : Nat) : Int) + ((x2.toNat * 65536 : Nat) : Int) + ((x3.toNat * 16777216 : Nat) : Int) = n
    have hrs : (readS (bs.drop at_) : Int) = n := by
      rw [hdr, ← hn]
      show ((x0.toNat + x1.toNat * 256 + x2.toNat * 65536 + x3.toNat * 16777216 : Nat) : Int) = _
      omega
    have hn0 : 0 ≤ n := by omega
    have hdl : (bs.drop at_).length = bs.length - at_ := List.length_drop ..
    (repeat' (first | refine a_go ?_ | (with_reducible apply Fin.thenK; assumption) | (with_reducible (first | apply C.seqK | apply C.regionK); intro _ _) | (apply R.buildSlice0; exact rfl; intro bz) | (apply R.box; exact rfl; (simp only [Value.cells]; rfl); exact rfl; intro bx) | (apply R.alloc; (simp only [Value.cells]; rfl); exact rfl; intro ba) | (apply R.buildSlice; (exact a_prt); exact rfl; exact rfl; (exact a_fills); exact rfl; intro bl) | (refine a_sp ?_ ?_; (intro h; skip; rotate_left; intro h; skip; rotate_left)) | fail))
    · have h1 : 65536 < n := by assumption
      apply Fin.ice (hp := hrow) (Arr.all _)
      intro M2 hM2 hin
      have hw : wholeS (bs.drop at_) = none := by unfold wholeS; rw [if_neg (by omega), if_pos (by omega)]
      (refine Fin.rt ?_)
      exact fin hw M2 hM2 hin
    · have h1 : (bs.length : Int) - ai - 8 < n := by assumption
      apply Fin.ice (hp := hrow) (Arr.all _)
      intro M2 hM2 hin
      have hw : wholeS (bs.drop at_) = none := by
        unfold wholeS
        rw [if_neg (by omega), if_pos (by have : (bs.drop at_).length - 8 < 4294967296 := by omega
                                          rw [Nat.mod_eq_of_lt this]; omega)]
      (refine Fin.rt ?_)
      exact fin hw M2 hM2 hin
    have h1 : ¬ 65536 < n := by assumption
    have h2 : ¬ (bs.length : Int) - ai - 8 < n := by assumption
    (apply R.step; (apply Ok.sliceLoHi; exact rfl; exact rfl; exact rfl; omega; omega; omega); exact rfl)
    obtain ⟨nn, rfl⟩ := Int.eq_ofNat_of_zero_le hn0
    have hrn : readS (bs.drop at_) = nn := by omega
    have hxl : ((bs.drop (at_ + 8)).take nn).length = nn := by simp; omega
    have ea : (ai + 8).toNat = at_ + 8 := by omega
    have eb : (ai + 8 + (nn : Int)).toNat - (at_ + 8) = nn := by omega
    rw [ea, eb]
    have hpx : Pl M1 (adv (some ⟨b0, o0, none⟩) (at_ + 8) 1 cap) (((bs.drop (at_ + 8)).take nn).map bv) := Pl.cutTake nn (hpl.mono hM1) hc
    have hwS : wholeS (bs.drop at_) = if sumS ((bs.drop (at_ + 8)).take nn) = readS (x4 :: x5 :: x6 :: x7 :: rest) then some ((bs.drop (at_ + 8)).take nn) else none := by
      have e8 : (bs.drop at_).drop 8 = bs.drop (at_ + 8) := List.drop_drop ..
      have e4 : (bs.drop at_).drop 4 = x4 :: x5 :: x6 :: x7 :: rest := by rw [hdr]; rfl
      unfold wholeS
      rw [if_neg (by omega), if_neg (by have : (bs.drop at_).length - 8 < 4294967296 := by omega
                                        rw [Nat.mod_eq_of_lt this]; omega), hrn, e8, e4]
    generalize hX : (bs.drop (at_ + 8)).take nn = X at hxl hpx hwS
    generalize adv (some ⟨b0, o0, none⟩) (at_ + 8) 1 cap = AX at hpx ⊢
    have hsl := sumS_lt X
    (repeat' (first | refine a_go ?_ | (with_reducible apply Fin.thenK; assumption) | (with_reducible (first | apply C.seqK | apply C.regionK); intro _ _) | (apply R.buildSlice0; exact rfl; intro bz) | (apply R.box; exact rfl; (simp only [Value.cells]; rfl); exact rfl; intro bx) | (apply R.alloc; (simp only [Value.cells]; rfl); exact rfl; intro ba) | (apply R.buildSlice; (exact a_prt); exact rfl; exact rfl; (exact a_fills); exact rfl; intro bl) | (refine a_sp ?_ ?_; (intro h; skip; rotate_left; intro h; skip; rotate_left)) | fail))
    ((apply R.call; (exact a_evs); exact rfl); rw [show (Value.slice AX nn (cap - (at_ + 8))) = .slice AX X.length (cap - (at_ + 8)) by rw [hxl]]; exact rsum_K hpx (by omega); rintro _ M1 H ⟨rfl, rfl, rfl⟩)
    generalize hS : sumS X = sX at hsl hwS
    have hfour := readS_four (x0 := x4) (x1 := x5) (x2 := x6) (x3 := x7) (rest := rest) hsl
    have hmis : ¬ (x4 = UInt8.ofNat sX ∧ x5 = UInt8.ofNat (sX / 256) ∧ x6 = UInt8.ofNat (sX / 65536) ∧ x7 = UInt8.ofNat (sX / 16777216)) → wholeS (bs.drop at_) = none := fun h => by
      rw [hwS, if_neg]; intro e; exact h (hfour.1 e.symm)
    (repeat' (first | (apply R.step; (apply Ok.move; exact rfl); exact rfl) | (apply R.step; (first | (apply Ok.indexAddr; exact rfl; exact rfl; omega; omega) | (apply Ok.loadP; exact rfl; exact rfl; exact hat0; (first | (rw [n4 ()]; exact g4) | (rw [n5 ()]; exact g5) | (rw [n6 ()]; exact g6) | (rw [n7 ()]; exact g7)))); exact rfl) | refine a_go ?_ | (with_reducible apply Fin.thenK; assumption) | (with_reducible (first | apply C.seqK | apply C.regionK); intro _ _) | (apply R.buildSlice0; exact rfl; intro bz) | (apply R.box; exact rfl; (simp only [Value.cells]; rfl); exact rfl; intro bx) | (apply R.alloc; (simp only [Value.cells]; rfl); exact rfl; intro ba) | (apply R.buildSlice; (exact a_prt); exact rfl; exact rfl; (exact a_fills); exact rfl; intro bl) | (refine a_sp ?_ ?_; (intro h; skip; rotate_left; intro h; skip; rotate_left)) | fail))
    rotate_left 4
    · have e4 : (x4.toNat : Int) = (UInt8.ofNat sX).toNat := by assumption
      have e5 : (x5.toNat : Int) = (UInt8.ofNat (sX / 256)).toNat := by assumption
      have e6 : (x6.toNat : Int) = (UInt8.ofNat (sX / 65536)).toNat := by assumption
      have e7 : (x7.toNat : Int) = (UInt8.ofNat (sX / 16777216)).toNat := by assumption
      have hw : wholeS (bs.drop at_) = some X := by
        rw [hwS, if_pos (hfour.2 ⟨UInt8.toNat_inj.1 (by omega), UInt8.toNat_inj.1 (by omega), UInt8.toNat_inj.1 (by omega), UInt8.toNat_inj.1 (by omega)⟩).symm]
      have hfr2 := framesF_some hw
      rw [List.drop_drop] at hfr2
      (apply R.append (news := X.map bv); exact rfl; exact rfl; exact Own.empty; (exact a_tk); exact hpx.rd; (focus (simp; omega)); exact bv_one _; omega; exact rfl; decide; decide; exact rfl; rintro v1 hp1 hown1)
      have hown : Own 5 1 v1 X.length (X.map bv) hp1 := by
        have := hown1
        rw [hxl]
        simpa using this
      clear hown1
      obtain ⟨Av, cv, rfl, _, _⟩ := hown.form
      (repeat' (first | refine a_go ?_ | (with_reducible apply Fin.thenK; assumption) | (with_reducible (first | apply C.seqK | apply C.regionK); intro _ _) | (apply R.buildSlice0; exact rfl; intro bz) | (apply R.box; exact rfl; (simp only [Value.cells]; rfl); exact rfl; intro bx) | (apply R.alloc; (simp only [Value.cells]; rfl); exact rfl; intro ba) | (apply R.buildSlice; (exact a_prt); exact rfl; exact rfl; (exact a_fills); exact rfl; intro bl) | (refine a_sp ?_ ?_; (intro h; skip; rotate_left; intro h; skip; rotate_left)) | fail))
      have hpl8 : endS pre ≤ bs.length := by omega
      have hpl9 := endS_len pre
      (apply R.append (news := [.slice Av X.length cv]); exact rfl; exact rfl; exact how; (exact a_tk); exact Rd.at_ (l := [.slice Av X.length cv]) (by (exact a_at)) (fun j u h => by rw [Nat.zero_add]; exact h); exact rfl; (intro u hu; simp only [List.mem_singleton] at hu; subst hu; rfl); omega; exact rfl; decide; decide; exact rfl; rintro ov2 hrow2 how2)
      (repeat' (first | refine a_go ?_ | (with_reducible apply Fin.thenK; assumption) | (with_reducible (first | apply C.seqK | apply C.regionK); intro _ _) | (apply R.buildSlice0; exact rfl; intro bz) | (apply R.box; exact rfl; (simp only [Value.cells]; rfl); exact rfl; intro bx) | (apply R.alloc; (simp only [Value.cells]; rfl); exact rfl; intro ba) | (apply R.buildSlice; (exact a_prt); exact rfl; exact rfl; (exact a_fills); exact rfl; intro bl) | (refine a_sp ?_ ?_; (intro h; skip; rotate_left; intro h; skip; rotate_left)) | fail))
      apply Fin.ice (hp := hp1) (H1 := hrow2 ++ H) (by (exact a_arr))
      intro M2 hM2 hin
      refine Fin.again (⟨at_ + (8 + X.length), ai + 8 + nn, M2, ov2, vs ++ [.slice Av X.length cv], pre ++ [X], hrow2⟩ : RlX) ⟨by dsimp only; omega, by dsimp only; omega, hM1.trans_ hM2, (hvs.mono hM2).snoc (hown.plB hin), ?_, ?_, ?_⟩ (by dsimp only; omega) ?_ rfl rfl
      · dsimp only
        rw [List.length_append]
        exact how2
      · dsimp only
        rw [hfr, hfr2, List.append_assoc]
        rfl
      · dsimp only
        rw [endS_append, hend]
        simp [endS]
      · dsimp only
        (exact a_subs)
    all_goals
      apply Fin.ice (hp := hrow) (Arr.all _)
      intro M2 hM2 hin
      have hw : wholeS (bs.drop at_) = none := hmis (by
        rintro ⟨e4, e5, e6, e7⟩
        first
          | exact (by assumption : (x4.toNat : Int) ≠ (UInt8.ofNat sX).toNat) (by rw [e4])
          | exact (by assumption : (x5.toNat : Int) ≠ (UInt8.ofNat (sX / 256)).toNat) (by rw [e5])
          | exact (by assumption : (x6.toNat : Int) ≠ (UInt8.ofNat (sX / 65536)).toNat) (by rw [e6])
          | exact (by assumption : (x7.toNat : Int) ≠ (UInt8.ofNat (sX / 16777216)).toNat) (by rw [e7]))
      (refine Fin.rt ?_)
      exact fin hw M2 hM2 hin
  · apply Fin.ice (hp := hrow) (Arr.all _)
    intro M2 hM2 hin
    have hw : wholeS (bs.drop at_) = none := if_pos (by simp; omega)
    (refine Fin.rt ?_)
    exact fin hw M2 hM2 hin
end Go.Sx
end
section
namespace Go.Sx
open Go Go.Proofs Go.RowKit
attribute [local irreducible] C R Fin K Own OwnT Rd Pl Ok KOf RetOk OpsOf RP KP Res NoPanic KV KE MapS ItS EntS FsO FsR RowD PlD DkO PlFs RT KT OneT RS KS OneS RdO
variable {M M' : Mem} {H H1 H2 : Hp}
theorem rframe_KF {A : Option Addr} {cap m : Nat} {bs : List UInt8} (hpl : Pl M A (bs.map bv)) (hm : bs.length = m) (hb : m ≤ 140737488351232) : K Try.prog 17 [.slice A m cap] M H fun v M' H' =>
    PlB M' v (frameS bs) ∧ M.le M' ∧ H' = H := by
  subst hm
  refine (rframe_K hpl hb).freezeT ?_
  rintro v M' H' ⟨hp, h1, rfl, rfl⟩
  exact ⟨hp, _, Arr.all _, fun M2 hM2 hin => ⟨h1.plB hin, hM2, rfl⟩⟩
theorem here_K {rb : Nat} {d : Dk} {hp : Hp} {n : Txt} (ho : RdO M rb d hp) (hl : d.now.length ≤ 1000000) : K Try.prog 45 [.pointer (some ⟨rb, 0, none⟩), str n] M (hp ++ H) fun v' M' H' => v' = .bool (readD d n).isSome ∧ M' = M ∧ H' = hp ++ H := by
  refine K.enterK Try.func45 rfl rfl rfl ?_
  intro Q hNP hQ
  (repeat' (first | refine a_go ?_ | (with_reducible apply Fin.thenK; assumption) | (with_reducible (first | apply C.seqK | apply C.regionK); intro _ _) | (apply R.buildSlice0; exact rfl; intro bz) | (apply R.box; exact rfl; (simp only [Value.cells]; rfl); exact rfl; intro bx) | (apply R.alloc; (simp only [Value.cells]; rfl); exact rfl; intro ba) | (apply R.buildSlice; (exact a_prt); exact rfl; exact rfl; (exact a_fills); exact rfl; intro bl) | (refine a_sp ?_ ?_; (intro h; skip; rotate_left; intro h; skip; rotate_left)) | fail))
  (apply R.call; (exact a_evs); exact rfl; exact rread_KD (n := n) ho hl; rintro _ M _ ⟨v, rfl, hb, rfl, rfl⟩)
  obtain ⟨A, c, rfl, _⟩ := hb
  (repeat' (first | refine a_go ?_ | (with_reducible apply Fin.thenK; assumption) | (with_reducible (first | apply C.seqK | apply C.regionK); intro _ _) | (apply R.buildSlice0; exact rfl; intro bz) | (apply R.box; exact rfl; (simp only [Value.cells]; rfl); exact rfl; intro bx) | (apply R.alloc; (simp only [Value.cells]; rfl); exact rfl; intro ba) | (apply R.buildSlice; (exact a_prt); exact rfl; exact rfl; (exact a_fills); exact rfl; intro bl) | (refine a_sp ?_ ?_; (intro h; skip; rotate_left; intro h; skip; rotate_left)) | fail))
  (apply Fin.returnA (H2 := hp ++ H); assumption; (first | exact .inl rfl | exact .inr rfl); exact rfl; (exact a_res); (simp only [retv]; rfl); (exact a_arr))
  exact ⟨rfl, rfl, rfl⟩
theorem opD_ps2 (d : Dk) (e : Int) (x : De) : szD (opD e d x) ≤ szD d + 1 := by
  unfold opD szD
  split
  · show (cntD d).S.length + (d.ps ++ [x]).length ≤ _
    rw [cntD_S, List.length_append]
    exact Nat.le_refl _
  · rw [cntD_S, cntD_ps]
    omega
end Go.Sx
end
section
namespace Go.Sx
open Go Go.Proofs Go.RowKit
attribute [local irreducible] C R Fin K Own OwnT Rd Pl Ok KOf RetOk OpsOf RP KP Res NoPanic KV KE MapS ItS EntS FsO FsR RowD PlD DkO PlFs RT KT OneT RS KS OneS RdO
variable {M M' : Mem} {H H1 H2 : Hp}
theorem rlist_Km {A : Option Addr} {cap m : Nat} {bs : List UInt8} (hpl : Pl M A (bs.map bv)) (hm : bs.length = m) (hc : m ≤ cap) (hb : cap ≤ 9223372036854775807) (hsm : m ≤ 2147483648) : K Try.prog 48 [.slice A m cap] M H fun v M' H' =>
    ∃ ov, v = .tuple #[ov, .int .i64 (endS (framesF bs.length bs))] ∧ PlL M' ov (framesF bs.length bs) ∧ M.le M' ∧ H' = H := by
  subst hm
  exact rlist_K hpl hc hb hsm
end Go.Sx
end
section
namespace Go.Sx
open Go Go.Proofs Go.RowKit
attribute [local irreducible] C R Fin K Own OwnT Rd Pl Ok KOf RetOk OpsOf RP KP Res NoPanic KV KE MapS ItS EntS FsO FsR RowD PlD DkO RT KT OneT RS KS OneS
variable {M M' : Mem} {H H1 H2 : Hp}
structure RpX where
  M : Mem
  hp : Hp
theorem rnumber5_K {n : Nat} : K Try.prog 78 [.bool true, .int .u64 (n : Int)] M H fun v' M' H' => v' = .bool (decide (1 ≤ n ∧ n ≤ 72057594037927935)) ∧ M' = M ∧ H' = H := by
  refine K.enterK Try.func78 rfl rfl rfl ?_
  intro Q hNP hQ
  by_cases h1 : 1 ≤ n
  · by_cases h2 : n ≤ 72057594037927935
    · rw [decide_eq_true ⟨h1, h2⟩] at hQ
      (repeat' (first | (apply R.step; (apply Ok.move; exact rfl); exact rfl) | (apply R.step; (first | (apply Ok.ltTr; exact rfl; exact rfl; omega) | (apply Ok.ltF; exact rfl; exact rfl; omega) | (apply Ok.gtTr; exact rfl; exact rfl; omega) | (apply Ok.gtF; exact rfl; exact rfl; omega) | (apply Ok.geTr; exact rfl; exact rfl; omega) | (apply Ok.geF; exact rfl; exact rfl; omega) | (apply Ok.leTr; exact rfl; exact rfl; omega) | (apply Ok.leF; exact rfl; exact rfl; omega) | (apply Ok.neIT; exact rfl; exact rfl; omega) | (apply Ok.eqIF; exact rfl; exact rfl; omega)); exact rfl) | refine a_go ?_ | (with_reducible apply Fin.thenK; assumption) | (with_reducible (first | apply C.seqK | apply C.regionK); intro _ _) | (apply R.buildSlice0; exact rfl; intro bz) | (apply R.box; exact rfl; (simp only [Value.cells]; rfl); exact rfl; intro bx) | (apply R.alloc; (simp only [Value.cells]; rfl); exact rfl; intro ba) | (apply R.buildSlice; (exact a_prt); exact rfl; exact rfl; (exact a_fills); exact rfl; intro bl) | (refine a_sp ?_ ?_; (intro h; skip; rotate_left; intro h; skip; rotate_left)) | fail))
      all_goals (first | (exfalso; omega) | skip)
      (apply Fin.returnA (H2 := H); assumption; (first | exact .inl rfl | exact .inr rfl); exact rfl; (exact a_res); (simp only [retv]; rfl); (exact a_arr))
      exact ⟨rfl, rfl, rfl⟩
    · rw [decide_eq_false (fun h => h2 h.2)] at hQ
      (repeat' (first | (apply R.step; (apply Ok.move; exact rfl); exact rfl) | (apply R.step; (first | (apply Ok.ltTr; exact rfl; exact rfl; omega) | (apply Ok.ltF; exact rfl; exact rfl; omega) | (apply Ok.gtTr; exact rfl; exact rfl; omega) | (apply Ok.gtF; exact rfl; exact rfl; omega) | (apply Ok.geTr; exact rfl; exact rfl; omega) | (apply Ok.geF; exact rfl; exact rfl; omega) | (apply Ok.leTr; exact rfl; exact rfl; omega) | (apply Ok.leF; exact rfl; exact rfl; omega) | (apply Ok.neIT; exact rfl; exact rfl; omega) | (apply Ok.eqIF; exact rfl; exact rfl; omega)); exact rfl) | refine a_go ?_ | (with_reducible apply Fin.thenK; assumption) | (with_reducible (first | apply C.seqK | apply C.regionK); intro _ _) | (apply R.buildSlice0; exact rfl; intro bz) | (apply R.box; exact rfl; (simp only [Value.cells]; rfl); exact rfl; intro bx) | (apply R.alloc; (simp only [Value.cells]; rfl); exact rfl; intro ba) | (apply R.buildSlice; (exact a_prt); exact rfl; exact rfl; (exact a_fills); exact rfl; intro bl) | (refine a_sp ?_ ?_; (intro h; skip; rotate_left; intro h; skip; rotate_left)) | fail))
      all_goals (first | (exfalso; omega) | skip)
      (apply Fin.returnA (H2 := H); assumption; (first | exact .inl rfl | exact .inr rfl); exact rfl; (exact a_res); (simp only [retv]; rfl); (exact a_arr))
      exact ⟨rfl, rfl, rfl⟩
  · rw [decide_eq_false (fun h => h1 h.1)] at hQ
    (repeat' (first | (apply R.step; (apply Ok.move; exact rfl); exact rfl) | (apply R.step; (first | (apply Ok.ltTr; exact rfl; exact rfl; omega) | (apply Ok.ltF; exact rfl; exact rfl; omega) | (apply Ok.gtTr; exact rfl; exact rfl; omega) | (apply Ok.gtF; exact rfl; exact rfl; omega) | (apply Ok.geTr; exact rfl; exact rfl; omega) | (apply Ok.geF; exact rfl; exact rfl; omega) | (apply Ok.leTr; exact rfl; exact rfl; omega) | (apply Ok.leF; exact rfl; exact rfl; omega) | (apply Ok.neIT; exact rfl; exact rfl; omega) | (apply Ok.eqIF; exact rfl; exact rfl; omega)); exact rfl) | refine a_go ?_ | (with_reducible apply Fin.thenK; assumption) | (with_reducible (first | apply C.seqK | apply C.regionK); intro _ _) | (apply R.buildSlice0; exact rfl; intro bz) | (apply R.box; exact rfl; (simp only [Value.cells]; rfl); exact rfl; intro bx) | (apply R.alloc; (simp only [Value.cells]; rfl); exact rfl; intro ba) | (apply R.buildSlice; (exact a_prt); exact rfl; exact rfl; (exact a_fills); exact rfl; intro bl) | (refine a_sp ?_ ?_; (intro h; skip; rotate_left; intro h; skip; rotate_left)) | fail))
    all_goals (first | (exfalso; omega) | skip)
    (apply Fin.returnA (H2 := H); assumption; (first | exact .inl rfl | exact .inr rfl); exact rfl; (exact a_res); (simp only [retv]; rfl); (exact a_arr))
    exact ⟨rfl, rfl, rfl⟩
theorem r4set_K {n : Int} : K Try.prog 79 [.int .i64 n] M H fun v M' H' => v = .bool (decide (0 ≤ n ∧ n ≤ 254 ∧ n % 2 = 0)) ∧ M' = M ∧ H' = H := by
  refine K.enterK Try.func79 rfl rfl rfl ?_
  intro Q hNP hQ
  (repeat' (first | (apply R.step; (apply Ok.move; exact rfl); exact rfl) | (apply R.step; (apply Ok.and1; exact rfl; exact rfl); exact rfl) | refine a_go ?_ | (with_reducible apply Fin.thenK; assumption) | (with_reducible (first | apply C.seqK | apply C.regionK); intro _ _) | (apply R.buildSlice0; exact rfl; intro bz) | (apply R.box; exact rfl; (simp only [Value.cells]; rfl); exact rfl; intro bx) | (apply R.alloc; (simp only [Value.cells]; rfl); exact rfl; intro ba) | (apply R.buildSlice; (exact a_prt); exact rfl; exact rfl; (exact a_fills); exact rfl; intro bl) | (refine a_sp ?_ ?_; (intro h; skip; rotate_left; intro h; skip; rotate_left)) | fail))
  all_goals (refine Fin.rt ?_)
  all_goals (refine ⟨?_, rfl, rfl⟩; (first | apply bo_t | apply bo_f | apply bo_))
  all_goals omega
theorem rbase5_K {i t : Nat} {c : Int} : K Try.prog 73 [.agg #[.int .u64 (i : Int), .int .u64 (t : Int), .int .i64 c]] M H fun v' M' H' => v' = .bool (decide (0 < c ∧ c ≤ 254 ∧ c % 2 = 0 ∧ (1 ≤ i ∧ i ≤ 72057594037927935) ∧ (1 ≤ t ∧ t ≤ 72057594037927935))) ∧ M' = M ∧ H' = H := by
  refine K.enterK Try.func73 rfl rfl rfl ?_
  intro Q hNP hQ
  by_cases h4 : 1 ≤ i ∧ i ≤ 72057594037927935
  rotate_left
  · rw [decide_eq_false (fun h : 0 < c ∧ c ≤ 254 ∧ c % 2 = 0 ∧ (1 ≤ i ∧ i ≤ 72057594037927935) ∧ (1 ≤ t ∧ t ≤ 72057594037927935) => by (obtain ⟨g1, g2, g3, ⟨g4, g5⟩, ⟨g6, g7⟩⟩ := h; omega))] at hQ
    (repeat' (first | (apply R.step; (apply Ok.move; exact rfl); exact rfl) | (apply R.step; (first | (apply Ok.ltTr; exact rfl; exact rfl; omega) | (apply Ok.ltF; exact rfl; exact rfl; omega) | (apply Ok.gtTr; exact rfl; exact rfl; omega) | (apply Ok.gtF; exact rfl; exact rfl; omega) | (apply Ok.geTr; exact rfl; exact rfl; omega) | (apply Ok.geF; exact rfl; exact rfl; omega) | (apply Ok.leTr; exact rfl; exact rfl; omega) | (apply Ok.leF; exact rfl; exact rfl; omega) | (apply Ok.neIT; exact rfl; exact rfl; omega) | (apply Ok.eqIF; exact rfl; exact rfl; omega)); exact rfl) | refine a_go ?_ | (with_reducible apply Fin.thenK; assumption) | (with_reducible (first | apply C.seqK | apply C.regionK); intro _ _) | (apply R.buildSlice0; exact rfl; intro bz) | (apply R.box; exact rfl; (simp only [Value.cells]; rfl); exact rfl; intro bx) | (apply R.alloc; (simp only [Value.cells]; rfl); exact rfl; intro ba) | (apply R.buildSlice; (exact a_prt); exact rfl; exact rfl; (exact a_fills); exact rfl; intro bl) | (refine a_sp ?_ ?_; (intro h; skip; rotate_left; intro h; skip; rotate_left)) | fail))
    (apply R.call; (exact a_evs); exact rfl; exact rnumber5_K (n := i); rintro _ M _ ⟨rfl, rfl, rfl⟩)
    rw [decide_eq_false h4]
    (repeat' (first | (apply R.step; (apply Ok.move; exact rfl); exact rfl) | (apply R.step; (first | (apply Ok.ltTr; exact rfl; exact rfl; omega) | (apply Ok.ltF; exact rfl; exact rfl; omega) | (apply Ok.gtTr; exact rfl; exact rfl; omega) | (apply Ok.gtF; exact rfl; exact rfl; omega) | (apply Ok.geTr; exact rfl; exact rfl; omega) | (apply Ok.geF; exact rfl; exact rfl; omega) | (apply Ok.leTr; exact rfl; exact rfl; omega) | (apply Ok.leF; exact rfl; exact rfl; omega) | (apply Ok.neIT; exact rfl; exact rfl; omega) | (apply Ok.eqIF; exact rfl; exact rfl; omega)); exact rfl) | refine a_go ?_ | (with_reducible apply Fin.thenK; assumption) | (with_reducible (first | apply C.seqK | apply C.regionK); intro _ _) | (apply R.buildSlice0; exact rfl; intro bz) | (apply R.box; exact rfl; (simp only [Value.cells]; rfl); exact rfl; intro bx) | (apply R.alloc; (simp only [Value.cells]; rfl); exact rfl; intro ba) | (apply R.buildSlice; (exact a_prt); exact rfl; exact rfl; (exact a_fills); exact rfl; intro bl) | (refine a_sp ?_ ?_; (intro h; skip; rotate_left; intro h; skip; rotate_left)) | fail))
    all_goals (first | (exfalso; omega) | skip)
    (apply Fin.returnA (H2 := H); assumption; (first | exact .inl rfl | exact .inr rfl); exact rfl; (exact a_res); (simp only [retv]; rfl); (exact a_arr))
    exact ⟨by first | rfl | (simp; omega), rfl, rfl⟩
  by_cases h5 : 1 ≤ t ∧ t ≤ 72057594037927935
  rotate_left
  · rw [decide_eq_false (fun h : 0 < c ∧ c ≤ 254 ∧ c % 2 = 0 ∧ (1 ≤ i ∧ i ≤ 72057594037927935) ∧ (1 ≤ t ∧ t ≤ 72057594037927935) => by (obtain ⟨g1, g2, g3, ⟨g4, g5⟩, ⟨g6, g7⟩⟩ := h; omega))] at hQ
    (repeat' (first | (apply R.step; (apply Ok.move; exact rfl); exact rfl) | (apply R.step; (first | (apply Ok.ltTr; exact rfl; exact rfl; omega) | (apply Ok.ltF; exact rfl; exact rfl; omega) | (apply Ok.gtTr; exact rfl; exact rfl; omega) | (apply Ok.gtF; exact rfl; exact rfl; omega) | (apply Ok.geTr; exact rfl; exact rfl; omega) | (apply Ok.geF; exact rfl; exact rfl; omega) | (apply Ok.leTr; exact rfl; exact rfl; omega) | (apply Ok.leF; exact rfl; exact rfl; omega) | (apply Ok.neIT; exact rfl; exact rfl; omega) | (apply Ok.eqIF; exact rfl; exact rfl; omega)); exact rfl) | refine a_go ?_ | (with_reducible apply Fin.thenK; assumption) | (with_reducible (first | apply C.seqK | apply C.regionK); intro _ _) | (apply R.buildSlice0; exact rfl; intro bz) | (apply R.box; exact rfl; (simp only [Value.cells]; rfl); exact rfl; intro bx) | (apply R.alloc; (simp only [Value.cells]; rfl); exact rfl; intro ba) | (apply R.buildSlice; (exact a_prt); exact rfl; exact rfl; (exact a_fills); exact rfl; intro bl) | (refine a_sp ?_ ?_; (intro h; skip; rotate_left; intro h; skip; rotate_left)) | fail))
    (apply R.call; (exact a_evs); exact rfl; exact rnumber5_K (n := i); rintro _ M _ ⟨rfl, rfl, rfl⟩)
    rw [decide_eq_true h4]
    (repeat' (first | (apply R.step; (apply Ok.move; exact rfl); exact rfl) | (apply R.step; (first | (apply Ok.ltTr; exact rfl; exact rfl; omega) | (apply Ok.ltF; exact rfl; exact rfl; omega) | (apply Ok.gtTr; exact rfl; exact rfl; omega) | (apply Ok.gtF; exact rfl; exact rfl; omega) | (apply Ok.geTr; exact rfl; exact rfl; omega) | (apply Ok.geF; exact rfl; exact rfl; omega) | (apply Ok.leTr; exact rfl; exact rfl; omega) | (apply Ok.leF; exact rfl; exact rfl; omega) | (apply Ok.neIT; exact rfl; exact rfl; omega) | (apply Ok.eqIF; exact rfl; exact rfl; omega)); exact rfl) | refine a_go ?_ | (with_reducible apply Fin.thenK; assumption) | (with_reducible (first | apply C.seqK | apply C.regionK); intro _ _) | (apply R.buildSlice0; exact rfl; intro bz) | (apply R.box; exact rfl; (simp only [Value.cells]; rfl); exact rfl; intro bx) | (apply R.alloc; (simp only [Value.cells]; rfl); exact rfl; intro ba) | (apply R.buildSlice; (exact a_prt); exact rfl; exact rfl; (exact a_fills); exact rfl; intro bl) | (refine a_sp ?_ ?_; (intro h; skip; rotate_left; intro h; skip; rotate_left)) | fail))
    all_goals (first | (exfalso; omega) | skip)
    (apply R.call; (exact a_evs); exact rfl; exact rnumber5_K (n := t); rintro _ M _ ⟨rfl, rfl, rfl⟩)
    rw [decide_eq_false h5]
    (repeat' (first | (apply R.step; (apply Ok.move; exact rfl); exact rfl) | (apply R.step; (first | (apply Ok.ltTr; exact rfl; exact rfl; omega) | (apply Ok.ltF; exact rfl; exact rfl; omega) | (apply Ok.gtTr; exact rfl; exact rfl; omega) | (apply Ok.gtF; exact rfl; exact rfl; omega) | (apply Ok.geTr; exact rfl; exact rfl; omega) | (apply Ok.geF; exact rfl; exact rfl; omega) | (apply Ok.leTr; exact rfl; exact rfl; omega) | (apply Ok.leF; exact rfl; exact rfl; omega) | (apply Ok.neIT; exact rfl; exact rfl; omega) | (apply Ok.eqIF; exact rfl; exact rfl; omega)); exact rfl) | refine a_go ?_ | (with_reducible apply Fin.thenK; assumption) | (with_reducible (first | apply C.seqK | apply C.regionK); intro _ _) | (apply R.buildSlice0; exact rfl; intro bz) | (apply R.box; exact rfl; (simp only [Value.cells]; rfl); exact rfl; intro bx) | (apply R.alloc; (simp only [Value.cells]; rfl); exact rfl; intro ba) | (apply R.buildSlice; (exact a_prt); exact rfl; exact rfl; (exact a_fills); exact rfl; intro bl) | (refine a_sp ?_ ?_; (intro h; skip; rotate_left; intro h; skip; rotate_left)) | fail))
    all_goals (first | (exfalso; omega) | skip)
    (apply Fin.returnA (H2 := H); assumption; (first | exact .inl rfl | exact .inr rfl); exact rfl; (exact a_res); (simp only [retv]; rfl); (exact a_arr))
    exact ⟨by first | rfl | (simp; omega), rfl, rfl⟩
  by_cases h1 : 0 ≤ c ∧ c ≤ 254 ∧ c % 2 = 0
  rotate_left
  · rw [decide_eq_false (fun h : 0 < c ∧ c ≤ 254 ∧ c % 2 = 0 ∧ (1 ≤ i ∧ i ≤ 72057594037927935) ∧ (1 ≤ t ∧ t ≤ 72057594037927935) => by (obtain ⟨g1, g2, g3, ⟨g4, g5⟩, ⟨g6, g7⟩⟩ := h; omega))] at hQ
    (repeat' (first | (apply R.step; (apply Ok.move; exact rfl); exact rfl) | (apply R.step; (first | (apply Ok.ltTr; exact rfl; exact rfl; omega) | (apply Ok.ltF; exact rfl; exact rfl; omega) | (apply Ok.gtTr; exact rfl; exact rfl; omega) | (apply Ok.gtF; exact rfl; exact rfl; omega) | (apply Ok.geTr; exact rfl; exact rfl; omega) | (apply Ok.geF; exact rfl; exact rfl; omega) | (apply Ok.leTr; exact rfl; exact rfl; omega) | (apply Ok.leF; exact rfl; exact rfl; omega) | (apply Ok.neIT; exact rfl; exact rfl; omega) | (apply Ok.eqIF; exact rfl; exact rfl; omega)); exact rfl) | refine a_go ?_ | (with_reducible apply Fin.thenK; assumption) | (with_reducible (first | apply C.seqK | apply C.regionK); intro _ _) | (apply R.buildSlice0; exact rfl; intro bz) | (apply R.box; exact rfl; (simp only [Value.cells]; rfl); exact rfl; intro bx) | (apply R.alloc; (simp only [Value.cells]; rfl); exact rfl; intro ba) | (apply R.buildSlice; (exact a_prt); exact rfl; exact rfl; (exact a_fills); exact rfl; intro bl) | (refine a_sp ?_ ?_; (intro h; skip; rotate_left; intro h; skip; rotate_left)) | fail))
    (apply R.call; (exact a_evs); exact rfl; exact rnumber5_K (n := i); rintro _ M _ ⟨rfl, rfl, rfl⟩)
    rw [decide_eq_true h4]
    (repeat' (first | (apply R.step; (apply Ok.move; exact rfl); exact rfl) | (apply R.step; (first | (apply Ok.ltTr; exact rfl; exact rfl; omega) | (apply Ok.ltF; exact rfl; exact rfl; omega) | (apply Ok.gtTr; exact rfl; exact rfl; omega) | (apply Ok.gtF; exact rfl; exact rfl; omega) | (apply Ok.geTr; exact rfl; exact rfl; omega) | (apply Ok.geF; exact rfl; exact rfl; omega) | (apply Ok.leTr; exact rfl; exact rfl; omega) | (apply Ok.leF; exact rfl; exact rfl; omega) | (apply Ok.neIT; exact rfl; exact rfl; omega) | (apply Ok.eqIF; exact rfl; exact rfl; omega)); exact rfl) | refine a_go ?_ | (with_reducible apply Fin.thenK; assumption) | (with_reducible (first | apply C.seqK | apply C.regionK); intro _ _) | (apply R.buildSlice0; exact rfl; intro bz) | (apply R.box; exact rfl; (simp only [Value.cells]; rfl); exact rfl; intro bx) | (apply R.alloc; (simp only [Value.cells]; rfl); exact rfl; intro ba) | (apply R.buildSlice; (exact a_prt); exact rfl; exact rfl; (exact a_fills); exact rfl; intro bl) | (refine a_sp ?_ ?_; (intro h; skip; rotate_left; intro h; skip; rotate_left)) | fail))
    all_goals (first | (exfalso; omega) | skip)
    (apply R.call; (exact a_evs); exact rfl; exact rnumber5_K (n := t); rintro _ M _ ⟨rfl, rfl, rfl⟩)
    rw [decide_eq_true h5]
    (repeat' (first | (apply R.step; (apply Ok.move; exact rfl); exact rfl) | (apply R.step; (first | (apply Ok.ltTr; exact rfl; exact rfl; omega) | (apply Ok.ltF; exact rfl; exact rfl; omega) | (apply Ok.gtTr; exact rfl; exact rfl; omega) | (apply Ok.gtF; exact rfl; exact rfl; omega) | (apply Ok.geTr; exact rfl; exact rfl; omega) | (apply Ok.geF; exact rfl; exact rfl; omega) | (apply Ok.leTr; exact rfl; exact rfl; omega) | (apply Ok.leF; exact rfl; exact rfl; omega) | (apply Ok.neIT; exact rfl; exact rfl; omega) | (apply Ok.eqIF; exact rfl; exact rfl; omega)); exact rfl) | refine a_go ?_ | (with_reducible apply Fin.thenK; assumption) | (with_reducible (first | apply C.seqK | apply C.regionK); intro _ _) | (apply R.buildSlice0; exact rfl; intro bz) | (apply R.box; exact rfl; (simp only [Value.cells]; rfl); exact rfl; intro bx) | (apply R.alloc; (simp only [Value.cells]; rfl); exact rfl; intro ba) | (apply R.buildSlice; (exact a_prt); exact rfl; exact rfl; (exact a_fills); exact rfl; intro bl) | (refine a_sp ?_ ?_; (intro h; skip; rotate_left; intro h; skip; rotate_left)) | fail))
    all_goals (first | (exfalso; omega) | skip)
    (apply R.call; (exact a_evs); exact rfl; exact r4set_K (n := c); rintro _ M _ ⟨rfl, rfl, rfl⟩)
    rw [decide_eq_false h1]
    (repeat' (first | (apply R.step; (apply Ok.move; exact rfl); exact rfl) | (apply R.step; (first | (apply Ok.ltTr; exact rfl; exact rfl; omega) | (apply Ok.ltF; exact rfl; exact rfl; omega) | (apply Ok.gtTr; exact rfl; exact rfl; omega) | (apply Ok.gtF; exact rfl; exact rfl; omega) | (apply Ok.geTr; exact rfl; exact rfl; omega) | (apply Ok.geF; exact rfl; exact rfl; omega) | (apply Ok.leTr; exact rfl; exact rfl; omega) | (apply Ok.leF; exact rfl; exact rfl; omega) | (apply Ok.neIT; exact rfl; exact rfl; omega) | (apply Ok.eqIF; exact rfl; exact rfl; omega)); exact rfl) | refine a_go ?_ | (with_reducible apply Fin.thenK; assumption) | (with_reducible (first | apply C.seqK | apply C.regionK); intro _ _) | (apply R.buildSlice0; exact rfl; intro bz) | (apply R.box; exact rfl; (simp only [Value.cells]; rfl); exact rfl; intro bx) | (apply R.alloc; (simp only [Value.cells]; rfl); exact rfl; intro ba) | (apply R.buildSlice; (exact a_prt); exact rfl; exact rfl; (exact a_fills); exact rfl; intro bl) | (refine a_sp ?_ ?_; (intro h; skip; rotate_left; intro h; skip; rotate_left)) | fail))
    all_goals (first | (exfalso; omega) | skip)
    (apply Fin.returnA (H2 := H); assumption; (first | exact .inl rfl | exact .inr rfl); exact rfl; (exact a_res); (simp only [retv]; rfl); (exact a_arr))
    exact ⟨by first | rfl | (simp; omega), rfl, rfl⟩
  by_cases h2 : c ≠ 0
  rotate_left
  · rw [decide_eq_false (fun h : 0 < c ∧ c ≤ 254 ∧ c % 2 = 0 ∧ (1 ≤ i ∧ i ≤ 72057594037927935) ∧ (1 ≤ t ∧ t ≤ 72057594037927935) => by (obtain ⟨g1, g2, g3, ⟨g4, g5⟩, ⟨g6, g7⟩⟩ := h; omega))] at hQ
    (repeat' (first | (apply R.step; (apply Ok.move; exact rfl); exact rfl) | (apply R.step; (first | (apply Ok.ltTr; exact rfl; exact rfl; omega) | (apply Ok.ltF; exact rfl; exact rfl; omega) | (apply Ok.gtTr; exact rfl; exact rfl; omega) | (apply Ok.gtF; exact rfl; exact rfl; omega) | (apply Ok.geTr; exact rfl; exact rfl; omega) | (apply Ok.geF; exact rfl; exact rfl; omega) | (apply Ok.leTr; exact rfl; exact rfl; omega) | (apply Ok.leF; exact rfl; exact rfl; omega) | (apply Ok.neIT; exact rfl; exact rfl; omega) | (apply Ok.eqIF; exact rfl; exact rfl; omega)); exact rfl) | refine a_go ?_ | (with_reducible apply Fin.thenK; assumption) | (with_reducible (first | apply C.seqK | apply C.regionK); intro _ _) | (apply R.buildSlice0; exact rfl; intro bz) | (apply R.box; exact rfl; (simp only [Value.cells]; rfl); exact rfl; intro bx) | (apply R.alloc; (simp only [Value.cells]; rfl); exact rfl; intro ba) | (apply R.buildSlice; (exact a_prt); exact rfl; exact rfl; (exact a_fills); exact rfl; intro bl) | (refine a_sp ?_ ?_; (intro h; skip; rotate_left; intro h; skip; rotate_left)) | fail))
    (apply R.call; (exact a_evs); exact rfl; exact rnumber5_K (n := i); rintro _ M _ ⟨rfl, rfl, rfl⟩)
    rw [decide_eq_true h4]
    (repeat' (first | (apply R.step; (apply Ok.move; exact rfl); exact rfl) | (apply R.step; (first | (apply Ok.ltTr; exact rfl; exact rfl; omega) | (apply Ok.ltF; exact rfl; exact rfl; omega) | (apply Ok.gtTr; exact rfl; exact rfl; omega) | (apply Ok.gtF; exact rfl; exact rfl; omega) | (apply Ok.geTr; exact rfl; exact rfl; omega) | (apply Ok.geF; exact rfl; exact rfl; omega) | (apply Ok.leTr; exact rfl; exact rfl; omega) | (apply Ok.leF; exact rfl; exact rfl; omega) | (apply Ok.neIT; exact rfl; exact rfl; omega) | (apply Ok.eqIF; exact rfl; exact rfl; omega)); exact rfl) | refine a_go ?_ | (with_reducible apply Fin.thenK; assumption) | (with_reducible (first | apply C.seqK | apply C.regionK); intro _ _) | (apply R.buildSlice0; exact rfl; intro bz) | (apply R.box; exact rfl; (simp only [Value.cells]; rfl); exact rfl; intro bx) | (apply R.alloc; (simp only [Value.cells]; rfl); exact rfl; intro ba) | (apply R.buildSlice; (exact a_prt); exact rfl; exact rfl; (exact a_fills); exact rfl; intro bl) | (refine a_sp ?_ ?_; (intro h; skip; rotate_left; intro h; skip; rotate_left)) | fail))
    all_goals (first | (exfalso; omega) | skip)
    (apply R.call; (exact a_evs); exact rfl; exact rnumber5_K (n := t); rintro _ M _ ⟨rfl, rfl, rfl⟩)
    rw [decide_eq_true h5]
    (repeat' (first | (apply R.step; (apply Ok.move; exact rfl); exact rfl) | (apply R.step; (first | (apply Ok.ltTr; exact rfl; exact rfl; omega) | (apply Ok.ltF; exact rfl; exact rfl; omega) | (apply Ok.gtTr; exact rfl; exact rfl; omega) | (apply Ok.gtF; exact rfl; exact rfl; omega) | (apply Ok.geTr; exact rfl; exact rfl; omega) | (apply Ok.geF; exact rfl; exact rfl; omega) | (apply Ok.leTr; exact rfl; exact rfl; omega) | (apply Ok.leF; exact rfl; exact rfl; omega) | (apply Ok.neIT; exact rfl; exact rfl; omega) | (apply Ok.eqIF; exact rfl; exact rfl; omega)); exact rfl) | refine a_go ?_ | (with_reducible apply Fin.thenK; assumption) | (with_reducible (first | apply C.seqK | apply C.regionK); intro _ _) | (apply R.buildSlice0; exact rfl; intro bz) | (apply R.box; exact rfl; (simp only [Value.cells]; rfl); exact rfl; intro bx) | (apply R.alloc; (simp only [Value.cells]; rfl); exact rfl; intro ba) | (apply R.buildSlice; (exact a_prt); exact rfl; exact rfl; (exact a_fills); exact rfl; intro bl) | (refine a_sp ?_ ?_; (intro h; skip; rotate_left; intro h; skip; rotate_left)) | fail))
    all_goals (first | (exfalso; omega) | skip)
    (apply R.call; (exact a_evs); exact rfl; exact r4set_K (n := c); rintro _ M _ ⟨rfl, rfl, rfl⟩)
    rw [decide_eq_true h1]
    (repeat' (first | (apply R.step; (apply Ok.move; exact rfl); exact rfl) | (apply R.step; (first | (apply Ok.ltTr; exact rfl; exact rfl; omega) | (apply Ok.ltF; exact rfl; exact rfl; omega) | (apply Ok.gtTr; exact rfl; exact rfl; omega) | (apply Ok.gtF; exact rfl; exact rfl; omega) | (apply Ok.geTr; exact rfl; exact rfl; omega) | (apply Ok.geF; exact rfl; exact rfl; omega) | (apply Ok.leTr; exact rfl; exact rfl; omega) | (apply Ok.leF; exact rfl; exact rfl; omega) | (apply Ok.neIT; exact rfl; exact rfl; omega) | (apply Ok.eqIF; exact rfl; exact rfl; omega)); exact rfl) | refine a_go ?_ | (with_reducible apply Fin.thenK; assumption) | (with_reducible (first | apply C.seqK | apply C.regionK); intro _ _) | (apply R.buildSlice0; exact rfl; intro bz) | (apply R.box; exact rfl; (simp only [Value.cells]; rfl); exact rfl; intro bx) | (apply R.alloc; (simp only [Value.cells]; rfl); exact rfl; intro ba) | (apply R.buildSlice; (exact a_prt); exact rfl; exact rfl; (exact a_fills); exact rfl; intro bl) | (refine a_sp ?_ ?_; (intro h; skip; rotate_left; intro h; skip; rotate_left)) | fail))
    all_goals (first | (exfalso; omega) | skip)
    (apply Fin.returnA (H2 := H); assumption; (first | exact .inl rfl | exact .inr rfl); exact rfl; (exact a_res); (simp only [retv]; rfl); (exact a_arr))
    exact ⟨by first | rfl | (simp; omega), rfl, rfl⟩
  rw [decide_eq_true ⟨by omega, h1.2.1, h1.2.2, h4, h5⟩] at hQ
  (repeat' (first | (apply R.step; (apply Ok.move; exact rfl); exact rfl) | (apply R.step; (first | (apply Ok.ltTr; exact rfl; exact rfl; omega) | (apply Ok.ltF; exact rfl; exact rfl; omega) | (apply Ok.gtTr; exact rfl; exact rfl; omega) | (apply Ok.gtF; exact rfl; exact rfl; omega) | (apply Ok.geTr; exact rfl; exact rfl; omega) | (apply Ok.geF; exact rfl; exact rfl; omega) | (apply Ok.leTr; exact rfl; exact rfl; omega) | (apply Ok.leF; exact rfl; exact rfl; omega) | (apply Ok.neIT; exact rfl; exact rfl; omega) | (apply Ok.eqIF; exact rfl; exact rfl; omega)); exact rfl) | refine a_go ?_ | (with_reducible apply Fin.thenK; assumption) | (with_reducible (first | apply C.seqK | apply C.regionK); intro _ _) | (apply R.buildSlice0; exact rfl; intro bz) | (apply R.box; exact rfl; (simp only [Value.cells]; rfl); exact rfl; intro bx) | (apply R.alloc; (simp only [Value.cells]; rfl); exact rfl; intro ba) | (apply R.buildSlice; (exact a_prt); exact rfl; exact rfl; (exact a_fills); exact rfl; intro bl) | (refine a_sp ?_ ?_; (intro h; skip; rotate_left; intro h; skip; rotate_left)) | fail))
  (apply R.call; (exact a_evs); exact rfl; exact rnumber5_K (n := i); rintro _ M _ ⟨rfl, rfl, rfl⟩)
  rw [decide_eq_true h4]
  (repeat' (first | (apply R.step; (apply Ok.move; exact rfl); exact rfl) | (apply R.step; (first | (apply Ok.ltTr; exact rfl; exact rfl; omega) | (apply Ok.ltF; exact rfl; exact rfl; omega) | (apply Ok.gtTr; exact rfl; exact rfl; omega) | (apply Ok.gtF; exact rfl; exact rfl; omega) | (apply Ok.geTr; exact rfl; exact rfl; omega) | (apply Ok.geF; exact rfl; exact rfl; omega) | (apply Ok.leTr; exact rfl; exact rfl; omega) | (apply Ok.leF; exact rfl; exact rfl; omega) | (apply Ok.neIT; exact rfl; exact rfl; omega) | (apply Ok.eqIF; exact rfl; exact rfl; omega)); exact rfl) | refine a_go ?_ | (with_reducible apply Fin.thenK; assumption) | (with_reducible (first | apply C.seqK | apply C.regionK); intro _ _) | (apply R.buildSlice0; exact rfl; intro bz) | (apply R.box; exact rfl; (simp only [Value.cells]; rfl); exact rfl; intro bx) | (apply R.alloc; (simp only [Value.cells]; rfl); exact rfl; intro ba) | (apply R.buildSlice; (exact a_prt); exact rfl; exact rfl; (exact a_fills); exact rfl; intro bl) | (refine a_sp ?_ ?_; (intro h; skip; rotate_left; intro h; skip; rotate_left)) | fail))
  all_goals (first | (exfalso; omega) | skip)
  (apply R.call; (exact a_evs); exact rfl; exact rnumber5_K (n := t); rintro _ M _ ⟨rfl, rfl, rfl⟩)
  rw [decide_eq_true h5]
  (repeat' (first | (apply R.step; (apply Ok.move; exact rfl); exact rfl) | (apply R.step; (first | (apply Ok.ltTr; exact rfl; exact rfl; omega) | (apply Ok.ltF; exact rfl; exact rfl; omega) | (apply Ok.gtTr; exact rfl; exact rfl; omega) | (apply Ok.gtF; exact rfl; exact rfl; omega) | (apply Ok.geTr; exact rfl; exact rfl; omega) | (apply Ok.geF; exact rfl; exact rfl; omega) | (apply Ok.leTr; exact rfl; exact rfl; omega) | (apply Ok.leF; exact rfl; exact rfl; omega) | (apply Ok.neIT; exact rfl; exact rfl; omega) | (apply Ok.eqIF; exact rfl; exact rfl; omega)); exact rfl) | refine a_go ?_ | (with_reducible apply Fin.thenK; assumption) | (with_reducible (first | apply C.seqK | apply C.regionK); intro _ _) | (apply R.buildSlice0; exact rfl; intro bz) | (apply R.box; exact rfl; (simp only [Value.cells]; rfl); exact rfl; intro bx) | (apply R.alloc; (simp only [Value.cells]; rfl); exact rfl; intro ba) | (apply R.buildSlice; (exact a_prt); exact rfl; exact rfl; (exact a_fills); exact rfl; intro bl) | (refine a_sp ?_ ?_; (intro h; skip; rotate_left; intro h; skip; rotate_left)) | fail))
  all_goals (first | (exfalso; omega) | skip)
  (apply R.call; (exact a_evs); exact rfl; exact r4set_K (n := c); rintro _ M _ ⟨rfl, rfl, rfl⟩)
  rw [decide_eq_true h1]
  (repeat' (first | (apply R.step; (apply Ok.move; exact rfl); exact rfl) | (apply R.step; (first | (apply Ok.ltTr; exact rfl; exact rfl; omega) | (apply Ok.ltF; exact rfl; exact rfl; omega) | (apply Ok.gtTr; exact rfl; exact rfl; omega) | (apply Ok.gtF; exact rfl; exact rfl; omega) | (apply Ok.geTr; exact rfl; exact rfl; omega) | (apply Ok.geF; exact rfl; exact rfl; omega) | (apply Ok.leTr; exact rfl; exact rfl; omega) | (apply Ok.leF; exact rfl; exact rfl; omega) | (apply Ok.neIT; exact rfl; exact rfl; omega) | (apply Ok.eqIF; exact rfl; exact rfl; omega)); exact rfl) | refine a_go ?_ | (with_reducible apply Fin.thenK; assumption) | (with_reducible (first | apply C.seqK | apply C.regionK); intro _ _) | (apply R.buildSlice0; exact rfl; intro bz) | (apply R.box; exact rfl; (simp only [Value.cells]; rfl); exact rfl; intro bx) | (apply R.alloc; (simp only [Value.cells]; rfl); exact rfl; intro ba) | (apply R.buildSlice; (exact a_prt); exact rfl; exact rfl; (exact a_fills); exact rfl; intro bl) | (refine a_sp ?_ ?_; (intro h; skip; rotate_left; intro h; skip; rotate_left)) | fail))
  all_goals (first | (exfalso; omega) | skip)
  (apply Fin.returnA (H2 := H); assumption; (first | exact .inl rfl | exact .inr rfl); exact rfl; (exact a_res); (simp only [retv]; rfl); (exact a_arr))
  exact ⟨by first | rfl | (simp; omega), rfl, rfl⟩
theorem rsnap9_K {i t n cp : Nat} {c : Int} {A : Option Addr} : K Try.prog 53 [.agg (snC i t c (.slice A n cp)).toArray] M H fun v' M' H' => v' = .bool (decide (rgtP i t c n)) ∧ M' = M ∧ H' = H := by
  refine K.enterK Try.func53 rfl rfl rfl ?_
  intro Q hNP hQ
  unfold snC
  (repeat' (first | refine a_go ?_ | (with_reducible apply Fin.thenK; assumption) | (with_reducible (first | apply C.seqK | apply C.regionK); intro _ _) | (apply R.buildSlice0; exact rfl; intro bz) | (apply R.box; exact rfl; (simp only [Value.cells]; rfl); exact rfl; intro bx) | (apply R.alloc; (simp only [Value.cells]; rfl); exact rfl; intro ba) | (apply R.buildSlice; (exact a_prt); exact rfl; exact rfl; (exact a_fills); exact rfl; intro bl) | (refine a_sp ?_ ?_; (intro h; skip; rotate_left; intro h; skip; rotate_left)) | fail))
  (apply R.call; (exact a_evs); exact rfl; exact rbase5_K (i := i) (t := t) (c := c); rintro _ M _ ⟨rfl, rfl, rfl⟩)
  by_cases h1 : 0 < c ∧ c ≤ 254 ∧ c % 2 = 0 ∧ (1 ≤ i ∧ i ≤ 72057594037927935) ∧ (1 ≤ t ∧ t ≤ 72057594037927935)
  rotate_left
  · rw [decide_eq_false (fun h : rgtP i t c n => h1 ⟨h.1, h.2.1, h.2.2.1, h.2.2.2.1, h.2.2.2.2.1⟩)] at hQ
    rw [decide_eq_false h1]
    (repeat' (first | refine a_go ?_ | (with_reducible apply Fin.thenK; assumption) | (with_reducible (first | apply C.seqK | apply C.regionK); intro _ _) | (apply R.buildSlice0; exact rfl; intro bz) | (apply R.box; exact rfl; (simp only [Value.cells]; rfl); exact rfl; intro bx) | (apply R.alloc; (simp only [Value.cells]; rfl); exact rfl; intro ba) | (apply R.buildSlice; (exact a_prt); exact rfl; exact rfl; (exact a_fills); exact rfl; intro bl) | (refine a_sp ?_ ?_; (intro h; skip; rotate_left; intro h; skip; rotate_left)) | fail))
    (apply Fin.returnA (H2 := H); assumption; (first | exact .inl rfl | exact .inr rfl); exact rfl; (exact a_res); (simp only [retv]; rfl); (exact a_arr))
    exact ⟨rfl, rfl, rfl⟩
  rw [decide_eq_true h1]
  by_cases h2 : n ≤ 32768
  · rw [decide_eq_true (show rgtP i t c n from ⟨h1.1, h1.2.1, h1.2.2.1, h1.2.2.2.1, h1.2.2.2.2, h2⟩)] at hQ
    (repeat' (first | (apply R.step; (apply Ok.move; exact rfl); exact rfl) | (apply R.step; (first | (apply Ok.ltTr; exact rfl; exact rfl; omega) | (apply Ok.ltF; exact rfl; exact rfl; omega) | (apply Ok.gtTr; exact rfl; exact rfl; omega) | (apply Ok.gtF; exact rfl; exact rfl; omega) | (apply Ok.geTr; exact rfl; exact rfl; omega) | (apply Ok.geF; exact rfl; exact rfl; omega) | (apply Ok.leTr; exact rfl; exact rfl; omega) | (apply Ok.leF; exact rfl; exact rfl; omega) | (apply Ok.neIT; exact rfl; exact rfl; omega) | (apply Ok.eqIF; exact rfl; exact rfl; omega)); exact rfl) | refine a_go ?_ | (with_reducible apply Fin.thenK; assumption) | (with_reducible (first | apply C.seqK | apply C.regionK); intro _ _) | (apply R.buildSlice0; exact rfl; intro bz) | (apply R.box; exact rfl; (simp only [Value.cells]; rfl); exact rfl; intro bx) | (apply R.alloc; (simp only [Value.cells]; rfl); exact rfl; intro ba) | (apply R.buildSlice; (exact a_prt); exact rfl; exact rfl; (exact a_fills); exact rfl; intro bl) | (refine a_sp ?_ ?_; (intro h; skip; rotate_left; intro h; skip; rotate_left)) | fail))
    all_goals (first | (exfalso; omega) | skip)
    (apply Fin.returnA (H2 := H); assumption; (first | exact .inl rfl | exact .inr rfl); exact rfl; (exact a_res); (simp only [retv]; rfl); (exact a_arr))
    exact ⟨rfl, rfl, rfl⟩
  · rw [decide_eq_false (fun h : rgtP i t c n => h2 h.2.2.2.2.2)] at hQ
    (repeat' (first | (apply R.step; (apply Ok.move; exact rfl); exact rfl) | (apply R.step; (first | (apply Ok.ltTr; exact rfl; exact rfl; omega) | (apply Ok.ltF; exact rfl; exact rfl; omega) | (apply Ok.gtTr; exact rfl; exact rfl; omega) | (apply Ok.gtF; exact rfl; exact rfl; omega) | (apply Ok.geTr; exact rfl; exact rfl; omega) | (apply Ok.geF; exact rfl; exact rfl; omega) | (apply Ok.leTr; exact rfl; exact rfl; omega) | (apply Ok.leF; exact rfl; exact rfl; omega) | (apply Ok.neIT; exact rfl; exact rfl; omega) | (apply Ok.eqIF; exact rfl; exact rfl; omega)); exact rfl) | refine a_go ?_ | (with_reducible apply Fin.thenK; assumption) | (with_reducible (first | apply C.seqK | apply C.regionK); intro _ _) | (apply R.buildSlice0; exact rfl; intro bz) | (apply R.box; exact rfl; (simp only [Value.cells]; rfl); exact rfl; intro bx) | (apply R.alloc; (simp only [Value.cells]; rfl); exact rfl; intro ba) | (apply R.buildSlice; (exact a_prt); exact rfl; exact rfl; (exact a_fills); exact rfl; intro bl) | (refine a_sp ?_ ?_; (intro h; skip; rotate_left; intro h; skip; rotate_left)) | fail))
    all_goals (first | (exfalso; omega) | skip)
    (apply Fin.returnA (H2 := H); assumption; (first | exact .inl rfl | exact .inr rfl); exact rfl; (exact a_res); (simp only [retv]; rfl); (exact a_arr))
    exact ⟨rfl, rfl, rfl⟩
end Go.Sx
end
section
namespace Go.Sx
open Go Go.Proofs Go.RowKit
attribute [local irreducible] C R Fin K Own OwnT Rd Pl Ok KOf RetOk OpsOf RP KP Res NoPanic KV KE MapS ItS EntS RT KT OneT RS KS OneS
variable {M M' : Mem} {H H1 H2 : Hp}
theorem rrtext_K {rb : Nat} {v : Value} {bs : Txt} {at_ : Nat} {bad : Int} {most : Nat} (hb : PlB M v bs) (hl : bs.length ≤ 1099511627776) (ha : at_ ≤ bs.length) (hm : most ≤ 1099511627776) : K Try.prog 51 [.pointer (some ⟨rb, 0, none⟩), .int .i64 (most : Int)] M ((rb, rrdB v at_ bad) :: H) fun v' M' H' => M.le M' ∧ PlB M' v' (textR bs most at_ bad).1 ∧ H' = (rb, rrdB v (textR bs most at_ bad).2.1 (textR bs most at_ bad).2.2) :: H := by
  refine K.enterK Try.func51 rfl rfl rfl ?_
  intro Q hNP hQ
  by_cases hbad : bad ≠ 0
  · have hr : numRd bs most at_ bad = (0, at_, bad) := if_pos hbad
    have hT : textR bs most at_ bad = ([], at_, bad) := by
      unfold textR
      rw [hr]
      exact if_pos hbad
    rw [hT] at hQ
    unfold rrdB at hQ ⊢
    (repeat' (first | (apply R.step; (apply Ok.move; exact rfl); exact rfl) | (apply R.step; (apply Ok.neIT; exact rfl; exact rfl; exact hbad); exact rfl) | refine a_go ?_ | (with_reducible apply Fin.thenK; assumption) | (with_reducible (first | apply C.seqK | apply C.regionK); intro _ _) | (apply R.buildSlice0; exact rfl; intro bz) | (apply R.box; exact rfl; (simp only [Value.cells]; rfl); exact rfl; intro bx) | (apply R.alloc; (simp only [Value.cells]; rfl); exact rfl; intro ba) | (apply R.buildSlice; (exact a_prt); exact rfl; exact rfl; (exact a_fills); exact rfl; intro bl) | (refine a_sp ?_ ?_; (intro h; skip; rotate_left; intro h; skip; rotate_left)) | fail))
    (apply Fin.returnA (H2 := (rb, .cells [v, .int .i64 ↑at_, .int .i64 bad].toArray 95 (0, 0)) :: H); assumption; (first | exact .inl rfl | exact .inr rfl); exact rfl; (exact a_res); (simp only [retv]; rfl); (exact a_arr))
    exact ⟨Mem.le_refl _, PlB.nil1, rfl⟩
  have hz0 : bad = 0 := by omega
  subst hz0
  have hna := numRd_at (bs := bs) (most := most) (bad := 0) ha
  have hnl := numRd_le (bs := bs) (most := most) (at_ := at_) (bad := 0)
  have hmx : max 0 (most : Int) = (most : Int) := by omega
  unfold rrdB
  (repeat' (first | (apply R.step; (apply Ok.move; exact rfl); exact rfl) | (apply R.step; (first | (apply Ok.convB; exact rfl; rw [hmx]; apply wu64; omega; omega)); exact rfl) | refine a_go ?_ | (with_reducible apply Fin.thenK; assumption) | (with_reducible (first | apply C.seqK | apply C.regionK); intro _ _) | (apply R.buildSlice0; exact rfl; intro bz) | (apply R.box; exact rfl; (simp only [Value.cells]; rfl); exact rfl; intro bx) | (apply R.alloc; (simp only [Value.cells]; rfl); exact rfl; intro ba) | (apply R.buildSlice; (exact a_prt); exact rfl; exact rfl; (exact a_fills); exact rfl; intro bl) | (refine a_sp ?_ ?_; (intro h; skip; rotate_left; intro h; skip; rotate_left)) | fail))
  rw [hmx]
  (apply R.call; (exact a_evs); exact rfl; exact rrnum_K (most := most) hb hl ha; rintro _ M _ ⟨rfl, rfl, rfl⟩)
  have hT : textR bs most at_ 0 = if (numRd bs most at_ 0).2.2 ≠ 0 then ([], (numRd bs most at_ 0).2) else
    if bs.length - (numRd bs most at_ 0).2.1 < (numRd bs most at_ 0).1 then ([], at_, 10) else
    ((bs.drop (numRd bs most at_ 0).2.1).take (numRd bs most at_ 0).1, (numRd bs most at_ 0).2.1 + (numRd bs most at_ 0).1, 0) := rfl
  generalize numRd bs most at_ 0 = z at hna hnl hT
  obtain ⟨n, a1, b1⟩ := z
  dsimp only at hna hnl hT ⊢
  obtain ⟨A, c, rfl, h1, h2, h3⟩ := hb
  unfold rrdB at hQ ⊢
  by_cases hb1 : b1 ≠ 0
  · rw [hT, if_pos hb1] at hQ
    (repeat' (first | (apply R.step; (apply Ok.move; exact rfl); exact rfl) | (apply R.step; (apply Ok.neIT; exact rfl; exact rfl; exact hb1); exact rfl) | refine a_go ?_ | (with_reducible apply Fin.thenK; assumption) | (with_reducible (first | apply C.seqK | apply C.regionK); intro _ _) | (apply R.buildSlice0; exact rfl; intro bz) | (apply R.box; exact rfl; (simp only [Value.cells]; rfl); exact rfl; intro bx) | (apply R.alloc; (simp only [Value.cells]; rfl); exact rfl; intro ba) | (apply R.buildSlice; (exact a_prt); exact rfl; exact rfl; (exact a_fills); exact rfl; intro bl) | (refine a_sp ?_ ?_; (intro h; skip; rotate_left; intro h; skip; rotate_left)) | fail))
    (apply Fin.returnA (H2 := (rb, .cells [.slice A bs.length c, .int .i64 ↑a1, .int .i64 b1].toArray 95 (0, 0)) :: H); assumption; (first | exact .inl rfl | exact .inr rfl); exact rfl; (exact a_res); (simp only [retv]; rfl); (exact a_arr))
    exact ⟨Mem.le_refl _, PlB.nil1, rfl⟩
  rw [if_neg hb1] at hT
  have hb0 : b1 = 0 := by omega
  subst hb0
  (repeat' (first | refine a_go ?_ | (with_reducible apply Fin.thenK; assumption) | (with_reducible (first | apply C.seqK | apply C.regionK); intro _ _) | (apply R.buildSlice0; exact rfl; intro bz) | (apply R.box; exact rfl; (simp only [Value.cells]; rfl); exact rfl; intro bx) | (apply R.alloc; (simp only [Value.cells]; rfl); exact rfl; intro ba) | (apply R.buildSlice; (exact a_prt); exact rfl; exact rfl; (exact a_fills); exact rfl; intro bl) | (refine a_sp ?_ ?_; (intro h; skip; rotate_left; intro h; skip; rotate_left)) | fail))
  (apply C.regionT (t := .free 0 (.free 1 (.free 2 (.free 3 (.free 4 (.free 5 (.free 6 (.free 7 (.free 8 (.free 9 (.free 10 (.free 11 (.free 12 .nil))))))))))))) (Hs := [(rb, .cells [.slice A bs.length c, .int .i64 ↑a1, .int .i64 0].toArray 95 (0, 0))]); exact Mix.h; (first | exact Arr.all _ | (exact a_arr) | ((try simp only [List.append_assoc, List.cons_append, List.nil_append, List.append_nil]); exact a_arr)); (exact a_np); kernel_rfl)
  have e1 : (bs.length : Int) - (a1 : Int) = ((bs.length - a1 : Nat) : Int) := by omega
  by_cases hlt : bs.length - a1 < n
  · rw [hT, if_pos hlt] at hQ
    (repeat' (first | (apply RT.step; exact rfl; intro _ _ _; (apply Ok.move; exact rfl); exact rfl) | (apply RT.step; exact rfl; intro _ _ _; (first | (apply Ok.subQ ((bs.length - a1 : Nat) : Int); exact rfl; exact rfl; exact e1; apply wi64; omega; omega) | (apply Ok.convB; exact rfl; apply wu64; omega; omega)); exact rfl) | ((first | (apply RT.step; exact rfl; intro _ _ _) | (apply RT.stepT; exact rfl; exact rfl; exact rfl; exact rfl; intro _ _ _)); (first | (apply Ok.ltTr; exact rfl; exact rfl; omega) | (apply Ok.ltF; exact rfl; exact rfl; omega) | (apply Ok.gtTr; exact rfl; exact rfl; omega) | (apply Ok.gtF; exact rfl; exact rfl; omega) | (apply Ok.geTr; exact rfl; exact rfl; omega) | (apply Ok.geF; exact rfl; exact rfl; omega) | (apply Ok.leTr; exact rfl; exact rfl; omega) | (apply Ok.leF; exact rfl; exact rfl; omega) | (apply Ok.neIT; exact rfl; exact rfl; omega) | (apply Ok.eqIF; exact rfl; exact rfl; omega)); exact rfl) | (first | (apply RT.step; exact rfl; intro _ _ _; (exact a_ok); exact rfl) | (apply RT.stepT; exact rfl; exact rfl; exact rfl; exact rfl; intro _ _ _; (exact a_ok); exact rfl) | (apply RT.stepF; exact rfl; exact rfl; exact rfl; exact rfl; exact rfl; exact rfl) | (apply RT.stepU; exact rfl; exact rfl; exact rfl; exact rfl; exact rfl) | (apply RT.one; apply OneT.effF; exact rfl; exact rfl; exact rfl; exact rfl; exact rfl; exact rfl) | (apply RT.one; apply OneT.effU; exact rfl; exact rfl; exact rfl; exact rfl; exact rfl))))
    apply RT.nil
    (repeat' (first | refine a_go ?_ | (with_reducible apply Fin.thenK; assumption) | (with_reducible (first | apply C.seqK | apply C.regionK); intro _ _) | (apply R.buildSlice0; exact rfl; intro bz) | (apply R.box; exact rfl; (simp only [Value.cells]; rfl); exact rfl; intro bx) | (apply R.alloc; (simp only [Value.cells]; rfl); exact rfl; intro ba) | (apply R.buildSlice; (exact a_prt); exact rfl; exact rfl; (exact a_fills); exact rfl; intro bl) | (refine a_sp ?_ ?_; (intro h; skip; rotate_left; intro h; skip; rotate_left)) | fail))
    (apply R.call; (exact a_evs); exact rfl; exact wrong_K (at_ := a1) (at2 := at_) (bad := 0) (e := 10); rintro _ M _ ⟨rfl, rfl, rfl⟩)
    (repeat' (first | refine a_go ?_ | (with_reducible apply Fin.thenK; assumption) | (with_reducible (first | apply C.seqK | apply C.regionK); intro _ _) | (apply R.buildSlice0; exact rfl; intro bz) | (apply R.box; exact rfl; (simp only [Value.cells]; rfl); exact rfl; intro bx) | (apply R.alloc; (simp only [Value.cells]; rfl); exact rfl; intro ba) | (apply R.buildSlice; (exact a_prt); exact rfl; exact rfl; (exact a_fills); exact rfl; intro bl) | (refine a_sp ?_ ?_; (intro h; skip; rotate_left; intro h; skip; rotate_left)) | fail))
    (apply Fin.returnA (H2 := (rb, rrdB (.slice A bs.length c) at_ 10) :: H); assumption; (first | exact .inl rfl | exact .inr rfl); exact rfl; (exact a_res); (simp only [retv]; rfl); (exact a_arr))
    exact ⟨Mem.le_refl _, PlB.nil1, rfl⟩
  · rw [hT, if_neg hlt] at hQ
    (repeat' (first | (apply RT.step; exact rfl; intro _ _ _; (apply Ok.move; exact rfl); exact rfl) | (apply RT.step; exact rfl; intro _ _ _; (first | (apply Ok.subQ ((bs.length - a1 : Nat) : Int); exact rfl; exact rfl; exact e1; apply wi64; omega; omega) | (apply Ok.convB; exact rfl; apply wu64; omega; omega)); exact rfl) | ((first | (apply RT.step; exact rfl; intro _ _ _) | (apply RT.stepT; exact rfl; exact rfl; exact rfl; exact rfl; intro _ _ _)); (first | (apply Ok.ltTr; exact rfl; exact rfl; omega) | (apply Ok.ltF; exact rfl; exact rfl; omega) | (apply Ok.gtTr; exact rfl; exact rfl; omega) | (apply Ok.gtF; exact rfl; exact rfl; omega) | (apply Ok.geTr; exact rfl; exact rfl; omega) | (apply Ok.geF; exact rfl; exact rfl; omega) | (apply Ok.leTr; exact rfl; exact rfl; omega) | (apply Ok.leF; exact rfl; exact rfl; omega) | (apply Ok.neIT; exact rfl; exact rfl; omega) | (apply Ok.eqIF; exact rfl; exact rfl; omega)); exact rfl) | (first | (apply RT.step; exact rfl; intro _ _ _; (exact a_ok); exact rfl) | (apply RT.stepT; exact rfl; exact rfl; exact rfl; exact rfl; intro _ _ _; (exact a_ok); exact rfl) | (apply RT.stepF; exact rfl; exact rfl; exact rfl; exact rfl; exact rfl; exact rfl) | (apply RT.stepU; exact rfl; exact rfl; exact rfl; exact rfl; exact rfl) | (apply RT.one; apply OneT.effF; exact rfl; exact rfl; exact rfl; exact rfl; exact rfl; exact rfl) | (apply RT.one; apply OneT.effU; exact rfl; exact rfl; exact rfl; exact rfl; exact rfl))))
    apply RT.nil
    (repeat' (first | refine a_go ?_ | (with_reducible apply Fin.thenK; assumption) | (with_reducible (first | apply C.seqK | apply C.regionK); intro _ _) | (apply R.buildSlice0; exact rfl; intro bz) | (apply R.box; exact rfl; (simp only [Value.cells]; rfl); exact rfl; intro bx) | (apply R.alloc; (simp only [Value.cells]; rfl); exact rfl; intro ba) | (apply R.buildSlice; (exact a_prt); exact rfl; exact rfl; (exact a_fills); exact rfl; intro bl) | (refine a_sp ?_ ?_; (intro h; skip; rotate_left; intro h; skip; rotate_left)) | fail))
    (apply C.regionT (t := .free 1 (.free 2 (.free 3 (.free 4 (.free 5 (.free 6 (.free 7 (.free 8 (.free 9 (.free 10 (.free 11 (.free 12 (.free 13 (.free 14 (.free 15 (.free 16 (.one 0 (.one 17 (.free 18 .nil))))))))))))))))))) (Hs := [(rb, .cells [.slice A bs.length c, .int .i64 ↑a1, .int .i64 0].toArray 95 (0, 0))]); exact Mix.h; (first | exact Arr.all _ | (exact a_arr) | ((try simp only [List.append_assoc, List.cons_append, List.nil_append, List.append_nil]); exact a_arr)); (exact a_np); kernel_rfl)
    (repeat' (first | (apply RT.step; exact rfl; intro _ _ _; (apply Ok.move; exact rfl); exact rfl) | (apply RT.step; exact rfl; intro _ _ _; (first | (apply Ok.convB; exact rfl; apply wi64; omega; omega) | (apply Ok.addQ ((a1 + n : Nat) : Int); exact rfl; exact rfl; omega; apply wi64; omega; omega) | (apply Ok.sliceLoHi; exact rfl; exact rfl; exact rfl; omega; omega; omega)); exact rfl) | (first | (apply RT.step; exact rfl; intro _ _ _; (exact a_ok); exact rfl) | (apply RT.stepT; exact rfl; exact rfl; exact rfl; exact rfl; intro _ _ _; (exact a_ok); exact rfl) | (apply RT.stepF; exact rfl; exact rfl; exact rfl; exact rfl; exact rfl; exact rfl) | (apply RT.stepU; exact rfl; exact rfl; exact rfl; exact rfl; exact rfl) | (apply RT.one; apply OneT.effF; exact rfl; exact rfl; exact rfl; exact rfl; exact rfl; exact rfl) | (apply RT.one; apply OneT.effU; exact rfl; exact rfl; exact rfl; exact rfl; exact rfl))))
    (apply RT.one; apply OneT.eff; exact rfl; intro Kc hKc ops0)
    (apply R.buildSlice0; exact rfl; intro bz)
    (apply R.nil; apply Fin.kt (Hx := (bz, .cells #[] 5 (0, 0)) :: H) hKc; exact Mem.le_refl _; ((try simp only [List.append_assoc, List.cons_append, List.nil_append, List.append_nil]); exact a_arr))
    (apply RT.one; apply OneT.eff; exact rfl; intro Kc hKc ops0)
    have hdl : ((bs.drop a1).take n).length = n := by rw [List.length_take, List.length_drop]; omega
    have hka : (a1 : Int).toNat = a1 := by omega
    have hpt := h3.cutTake (l := a1) n h1
    rw [hka]
    have e9 : ((a1 : Int) + (n : Int)).toNat - a1 = n := by omega
    rw [e9]
    (apply R.append (news := ((bs.drop a1).take n).map bv) (k := n); exact rfl; exact rfl; exact Own.empty; (exact a_tk); exact Pl.rd hpt; (rw [List.length_map, hdl, Nat.mul_one]); exact bv_one _; omega; exact rfl; decide; decide; exact rfl; rintro v4 hp4 hown4)
    rw [List.nil_append, Nat.zero_add] at hown4
    obtain ⟨A4, c4, rfl, _, _⟩ := hown4.form
    have hown5 : Own 5 1 (.slice A4 n c4) ((bs.drop a1).take n).length (((bs.drop a1).take n).map bv) hp4 := by rw [hdl]; exact hown4
    apply R.arr (H2 := hp4 ++ ((rb, .cells [.slice A bs.length c, .int .i64 ↑a1, .int .i64 0].toArray 95 (0, 0)) :: H)) (by ((try simp only [List.append_assoc, List.cons_append, List.nil_append, List.append_nil]); exact a_arr))
    apply R.ice (Arr.all _)
    intro M2 hM2 hin2
    have hpl2 := hown5.plB hin2
    (apply R.nil; apply Fin.ktB (E := []) (Hx := H) hKc; exact hM2; ((try simp only [List.append_assoc, List.cons_append, List.nil_append, List.append_nil]); exact a_arr))
    (repeat' (first | (apply RT.step; exact rfl; intro _ _ _; (exact a_ok); exact rfl) | (apply RT.stepT; exact rfl; exact rfl; exact rfl; exact rfl; intro _ _ _; (exact a_ok); exact rfl) | (apply RT.stepF; exact rfl; exact rfl; exact rfl; exact rfl; exact rfl; exact rfl) | (apply RT.stepU; exact rfl; exact rfl; exact rfl; exact rfl; exact rfl) | (apply RT.one; apply OneT.effF; exact rfl; exact rfl; exact rfl; exact rfl; exact rfl; exact rfl) | (apply RT.one; apply OneT.effU; exact rfl; exact rfl; exact rfl; exact rfl; exact rfl)))
    apply RT.nil
    (repeat' (first | (apply R.step; (apply Ok.move; exact rfl); exact rfl) | (apply R.step; (first | (apply Ok.convB; exact rfl; apply wi64; omega; omega) | (apply Ok.addQ ((a1 + n : Nat) : Int); exact rfl; exact rfl; omega; apply wi64; omega; omega)); exact rfl) | refine a_go ?_ | (with_reducible apply Fin.thenK; assumption) | (with_reducible (first | apply C.seqK | apply C.regionK); intro _ _) | (apply R.buildSlice0; exact rfl; intro bz) | (apply R.box; exact rfl; (simp only [Value.cells]; rfl); exact rfl; intro bx) | (apply R.alloc; (simp only [Value.cells]; rfl); exact rfl; intro ba) | (apply R.buildSlice; (exact a_prt); exact rfl; exact rfl; (exact a_fills); exact rfl; intro bl) | (refine a_sp ?_ ?_; (intro h; skip; rotate_left; intro h; skip; rotate_left)) | fail))
    (apply Fin.returnA (H2 := (rb, .cells [.slice A bs.length c, .int .i64 ↑(a1 + n), .int .i64 0].toArray 95 (0, 0)) :: H); assumption; (first | exact .inl rfl | exact .inr rfl); exact rfl; (exact a_res); (simp only [retv]; rfl); (exact a_arr))
    exact ⟨hM2, hpl2, rfl⟩
end Go.Sx
end
