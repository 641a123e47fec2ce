/- Sessions: raw ones made right; what they read as; rows of one's own, written over. -/
import Derived.Test.YtohdhkddnnokfaaE20
namespace Go.Sx
open Go Go.Proofs Go.RowKit
structure HsX where
  i : Nat
  ii : Int
  id : Int
  v : Value
  hov : Hp
  ys : List OwX
structure HkX where
  k : Nat
  kk : Int
  v : Value
  hp : Hp
  ks : List KeV
def sNum (s : Ses) : Prop := (0 ≤ s.x.id ∧ s.x.id ≤ 18446744073709551615) ∧ (0 ≤ s.x.sq ∧ s.x.sq ≤ 18446744073709551615) ∧ (0 ≤ s.x.us ∧ s.x.us ≤ 18446744073709551615)
def sSm (s : Ses) : Prop := (0 ≤ s.x.sq ∧ s.x.sq ≤ 8) ∧ (0 ≤ s.x.us ∧ s.x.us ≤ 99)
theorem keC_one (k : KeV) : ∀ u ∈ keC k, u.oneCell' = true := fun u hu => keF_one [k] u (by unfold keF; rw [List.map_singleton, List.flatten_singleton]; exact hu)
theorem kept_go {n sq : Int} {ks : List KeV} {z : KeV} (h : ∀ j, (hj : j < ks.length) → kOk (sq - n + j + 1) ks[j]) (hz : kOk (sq - n + ks.length + 1) z) : ∀ j, (hj : j < (ks ++ [z]).length) → kOk (sq - n + j + 1) (ks ++ [z])[j] := by
  intro j hj
  rw [List.length_append] at hj
  rcases Nat.lt_or_ge j ks.length with h1 | h1
  · rw [List.getElem_append_left h1]
    exact h j h1
  · have : j = ks.length := by simp only [List.length_singleton] at hj; omega
    subst this
    rw [List.getElem_append_right (Nat.le_refl _)]
    simpa using hz
attribute [local irreducible] C R Fin K Own OwnT Rd Pl Ok KOf RetOk OpsOf RP KP Res NoPanic KV KE Tab RTab RdB
variable {M M' : Mem} {H H1 H2 : Hp}
theorem sessions_K {v : Value} {xs : List Ses} {most : Int} (hx : PlS M v xs) (hb : ∀ s ∈ xs, sNum s) (hm : 1 ≤ most ∧ most ≤ 16) : K Try.prog 17 [v, .int .i64 most] M H fun v' M' H' => ∃ ys hov, OwnXs v' ys hov ∧ (ys.length : Int) ≤ most ∧ rOk 0 (owX ys) ∧ (∀ y ∈ ys, sSm y.s) ∧ M' = M ∧ H' = hov ++ (owXH ys ++ H) := by
  obtain ⟨A, cap, rfl, g1, g2, g3, g4⟩ := hx
  refine K.enterK Try.func17 rfl rfl rfl ?_
  intro Q hNP hQ
  (repeat' (first | (apply R.step; (exact a_ok); exact rfl) | (first | (with_reducible first | apply R.nil | apply C.ret | apply C.block | apply C.skip | apply C.exit | apply Fin.thenRet | apply Fin.thenExit | apply Fin.blockNormal | apply Fin.blockRet | apply Fin.blockExit) | (with_reducible apply Fin.thenK; assumption) | (with_reducible apply C.seqK; intro _ _) | (with_reducible apply C.regionK; intro _ _) | (with_reducible apply Fin.blockOther; exact rfl)) | (first | (apply R.store; exact rfl; exact rfl; exact rfl; (exact a_at); (exact a_blit); exact rfl; (focus (simp [Value.oneCell']; done))) | (apply R.buildSlice0; exact rfl; intro bz) | (apply R.box; exact rfl; (simp only [Value.cells]; rfl); exact rfl; intro bx) | (apply R.alloc; (simp only [Value.cells]; rfl); exact rfl; intro ba) | (apply R.buildSlice; (exact a_prt); exact rfl; exact rfl; (exact a_fills); exact rfl; intro bl)) | (first | (apply R.guardT; assumption; exact rfl; exact rfl; exact rfl) | (apply R.guardF; assumption; exact rfl; exact rfl; exact rfl; exact rfl; exact rfl) | (apply R.guardU; assumption; exact rfl; exact rfl; exact rfl; exact rfl) | (apply R.guardDec; assumption; exact rfl; exact rfl; (intro h; skip; rotate_left; intro h; skip; rotate_left)) | (apply R.guardBeq; assumption; exact rfl; exact rfl; (intro h; skip; rotate_left; intro h; skip; rotate_left)) | (apply R.guardBne; assumption; exact rfl; exact rfl; (intro h; skip; rotate_left; intro h; skip; rotate_left)) | (apply R.guardNDec; assumption; exact rfl; exact rfl; (intro h; skip; rotate_left; intro h; skip; rotate_left)) | (apply R.guardNot; assumption; exact rfl; exact rfl; (intro h; skip; rotate_left; intro h; skip; rotate_left)) | (apply R.guardC; assumption; exact rfl; exact rfl; (intro h; skip; rotate_left; intro h; skip; rotate_left))) | (first | (apply C.condT; exact rfl) | (apply C.condF; exact rfl) | (apply C.condDec; exact rfl; (intro h; skip; rotate_left; intro h; skip; rotate_left)) | (apply C.condBeq; exact rfl; (intro h; skip; rotate_left; intro h; skip; rotate_left)) | (apply C.condBne; exact rfl; (intro h; skip; rotate_left; intro h; skip; rotate_left)) | (apply C.condNDec; exact rfl; (intro h; skip; rotate_left; intro h; skip; rotate_left)) | (apply C.condNot; exact rfl; (intro h; skip; rotate_left; intro h; skip; rotate_left)) | (apply C.cond; exact rfl; (intro h; skip; rotate_left; intro h; skip; rotate_left)))))
  apply C.loop (fun y : HsX => (y.i : Int) = y.ii ∧ y.i ≤ xs.length ∧ y.ii ≤ most ∧ y.ys.length = y.i ∧ OwnXs y.v y.ys y.hov ∧ (∀ r, rOk y.id r → rOk 0 (owX y.ys ++ r)) ∧ (∀ z ∈ y.ys, sSm z.s) ∧ 0 ≤ y.id ∧ y.id ≤ 5 * y.ii)
    (fun y => [(0, .slice A xs.length cap), (1, .int .i64 most), (5, y.v), (6, .int .u64 y.id), (7, .int .i64 y.ii)]) (fun _ => M) (fun y => y.hov ++ (owXH y.ys ++ H)) (fun y => xs.length - y.i) ⟨0, 0, 0, .slice none 0 0, [], []⟩
  · exact ⟨rfl, Nat.zero_le _, by dsimp only; omega, rfl, ⟨Own.nil _ _, fun _ h => absurd h List.not_mem_nil⟩, fun r h => h, fun _ h => absurd h List.not_mem_nil, Int.le_refl _, by dsimp only; omega⟩
  · (exact a_subs)
  · exact rfl
  · exact rfl
  rintro ⟨i, ii, id, ov, hov, ys⟩ ⟨hii, hin, him, hyn, ⟨ho, hyk⟩, hR, hsm, hid0, hid1⟩
  dsimp only at hii hin him hyn ho hyk hR hsm hid0 hid1 ⊢
  obtain ⟨Ao, co, rfl, _, hco⟩ := ho.form
  unfold maxLen at hco
  (repeat' (first | (apply R.step; (exact a_ok); exact rfl) | (first | (with_reducible first | apply R.nil | apply C.ret | apply C.block | apply C.skip | apply C.exit | apply Fin.thenRet | apply Fin.thenExit | apply Fin.blockNormal | apply Fin.blockRet | apply Fin.blockExit) | (with_reducible apply Fin.thenK; assumption) | (with_reducible apply C.seqK; intro _ _) | (with_reducible apply C.regionK; intro _ _) | (with_reducible apply Fin.blockOther; exact rfl)) | (first | (apply R.store; exact rfl; exact rfl; exact rfl; (exact a_at); (exact a_blit); exact rfl; (focus (simp [Value.oneCell']; done))) | (apply R.buildSlice0; exact rfl; intro bz) | (apply R.box; exact rfl; (simp only [Value.cells]; rfl); exact rfl; intro bx) | (apply R.alloc; (simp only [Value.cells]; rfl); exact rfl; intro ba) | (apply R.buildSlice; (exact a_prt); exact rfl; exact rfl; (exact a_fills); exact rfl; intro bl)) | (first | (apply R.guardT; assumption; exact rfl; exact rfl; exact rfl) | (apply R.guardF; assumption; exact rfl; exact rfl; exact rfl; exact rfl; exact rfl) | (apply R.guardU; assumption; exact rfl; exact rfl; exact rfl; exact rfl) | (apply R.guardDec; assumption; exact rfl; exact rfl; (intro h; skip; rotate_left; intro h; skip; rotate_left)) | (apply R.guardBeq; assumption; exact rfl; exact rfl; (intro h; skip; rotate_left; intro h; skip; rotate_left)) | (apply R.guardBne; assumption; exact rfl; exact rfl; (intro h; skip; rotate_left; intro h; skip; rotate_left)) | (apply R.guardNDec; assumption; exact rfl; exact rfl; (intro h; skip; rotate_left; intro h; skip; rotate_left)) | (apply R.guardNot; assumption; exact rfl; exact rfl; (intro h; skip; rotate_left; intro h; skip; rotate_left)) | (apply R.guardC; assumption; exact rfl; exact rfl; (intro h; skip; rotate_left; intro h; skip; rotate_left))) | (first | (apply C.condT; exact rfl) | (apply C.condF; exact rfl) | (apply C.condDec; exact rfl; (intro h; skip; rotate_left; intro h; skip; rotate_left)) | (apply C.condBeq; exact rfl; (intro h; skip; rotate_left; intro h; skip; rotate_left)) | (apply C.condBne; exact rfl; (intro h; skip; rotate_left; intro h; skip; rotate_left)) | (apply C.condNDec; exact rfl; (intro h; skip; rotate_left; intro h; skip; rotate_left)) | (apply C.condNot; exact rfl; (intro h; skip; rotate_left; intro h; skip; rotate_left)) | (apply C.cond; exact rfl; (intro h; skip; rotate_left; intro h; skip; rotate_left)))))
  · have hlt : ii < (xs.length : Int) := by assumption
    have hlm : ii < most := by assumption
    have hix : i < xs.length := by omega
    have hxb := hb _ (List.getElem_mem hix)
    obtain ⟨b0, o0, c0, e0, f0, rfl, hMb, hc⟩ := ses_at g3 hix
    have hst : ∀ q u, (seC xs[i].x)[q]? = some u → c0[o0 + ii.toNat * 4 + q]? = some u := fun q u hq => by
      rw [show ii.toNat = i by omega]
      exact hc q u hq
    clear hc g4
    generalize xs[i] = s at hst hxb
    obtain ⟨⟨si, sq, su, sA, sn, sc⟩, sks⟩ := s
    unfold sNum at hxb
    unfold seC uV SeV.kv at hst
    have hst0 := hst 0 _ rfl
    have hst1 := hst 1 _ rfl
    have hst2 := hst 2 _ rfl
    clear hst
    dsimp only at hst0 hst1 hst2 hxb
    obtain ⟨⟨s1, s2⟩, ⟨s3, s4⟩, s5, s6⟩ := hxb
    (repeat' (first | (apply R.step; (exact a_ok); exact rfl) | (first | (with_reducible first | apply R.nil | apply C.ret | apply C.block | apply C.skip | apply C.exit | apply Fin.thenRet | apply Fin.thenExit | apply Fin.blockNormal | apply Fin.blockRet | apply Fin.blockExit) | (with_reducible apply Fin.thenK; assumption) | (with_reducible apply C.seqK; intro _ _) | (with_reducible apply C.regionK; intro _ _) | (with_reducible apply Fin.blockOther; exact rfl)) | (first | (apply R.store; exact rfl; exact rfl; exact rfl; (exact a_at); (exact a_blit); exact rfl; (focus (simp [Value.oneCell']; done))) | (apply R.buildSlice0; exact rfl; intro bz) | (apply R.box; exact rfl; (simp only [Value.cells]; rfl); exact rfl; intro bx) | (apply R.alloc; (simp only [Value.cells]; rfl); exact rfl; intro ba) | (apply R.buildSlice; (exact a_prt); exact rfl; exact rfl; (exact a_fills); exact rfl; intro bl)) | (first | (apply R.guardT; assumption; exact rfl; exact rfl; exact rfl) | (apply R.guardF; assumption; exact rfl; exact rfl; exact rfl; exact rfl; exact rfl) | (apply R.guardU; assumption; exact rfl; exact rfl; exact rfl; exact rfl) | (apply R.guardDec; assumption; exact rfl; exact rfl; (intro h; skip; rotate_left; intro h; skip; rotate_left)) | (apply R.guardBeq; assumption; exact rfl; exact rfl; (intro h; skip; rotate_left; intro h; skip; rotate_left)) | (apply R.guardBne; assumption; exact rfl; exact rfl; (intro h; skip; rotate_left; intro h; skip; rotate_left)) | (apply R.guardNDec; assumption; exact rfl; exact rfl; (intro h; skip; rotate_left; intro h; skip; rotate_left)) | (apply R.guardNot; assumption; exact rfl; exact rfl; (intro h; skip; rotate_left; intro h; skip; rotate_left)) | (apply R.guardC; assumption; exact rfl; exact rfl; (intro h; skip; rotate_left; intro h; skip; rotate_left))) | (first | (apply C.condT; exact rfl) | (apply C.condF; exact rfl) | (apply C.condDec; exact rfl; (intro h; skip; rotate_left; intro h; skip; rotate_left)) | (apply C.condBeq; exact rfl; (intro h; skip; rotate_left; intro h; skip; rotate_left)) | (apply C.condBne; exact rfl; (intro h; skip; rotate_left; intro h; skip; rotate_left)) | (apply C.condNDec; exact rfl; (intro h; skip; rotate_left; intro h; skip; rotate_left)) | (apply C.condNot; exact rfl; (intro h; skip; rotate_left; intro h; skip; rotate_left)) | (apply C.cond; exact rfl; (intro h; skip; rotate_left; intro h; skip; rotate_left)))))
    (apply C.regionO (ks := [1, 1, 1, 1, 1, 1, 1, 1, 1, 1, 1, 1, 1, 1, 0, 0]) (is := [0, 1, 2, 3, 4, 5, 6, 7, 8, 9, 10, 11, 12, 13, 14, 15]) (Hs := _); exact Mix.h; exact Arr.self; (exact a_np); (exact a_picked); kernel_rfl; intro _ e; subst e)
    (repeat' (first | (first | (apply RP.step; intro _ _ _; (exact a_ok); exact rfl) | (apply RP.stepT; exact rfl; exact rfl; exact rfl; intro _ _ _; (exact a_ok); exact rfl) | (apply RP.stepF; exact rfl; exact rfl; exact rfl; exact rfl; exact rfl) | (apply RP.effF; exact rfl; exact rfl; exact rfl; exact rfl; exact rfl)) | (apply RP.callQ; (exact a_evs); exact rfl)))
    (apply RP.eff; intro Kc hKc ops0)
    (first | (apply R.store; exact rfl; exact rfl; exact rfl; (exact a_at); (exact a_blit); exact rfl; (focus (simp [Value.oneCell']; done))) | (apply R.buildSlice0; exact rfl; intro bz) | (apply R.box; exact rfl; (simp only [Value.cells]; rfl); exact rfl; intro bx) | (apply R.alloc; (simp only [Value.cells]; rfl); exact rfl; intro ba) | (apply R.buildSlice; (exact a_prt); exact rfl; exact rfl; (exact a_fills); exact rfl; intro bl))
    (apply R.nil; apply Fin.kp hKc; exact Mem.le_refl _; (exact a_arr))
    (repeat' (first | (first | (apply RP.step; intro _ _ _; (exact a_ok); exact rfl) | (apply RP.stepT; exact rfl; exact rfl; exact rfl; intro _ _ _; (exact a_ok); exact rfl) | (apply RP.stepF; exact rfl; exact rfl; exact rfl; exact rfl; exact rfl) | (apply RP.effF; exact rfl; exact rfl; exact rfl; exact rfl; exact rfl)) | (apply RP.callQ; (exact a_evs); exact rfl)))
    (apply RP.eff; intro Kc hKc ops0)
    (first | (apply R.store; exact rfl; exact rfl; exact rfl; (exact a_at); (exact a_blit); exact rfl; (focus (simp [Value.oneCell']; done))) | (apply R.buildSlice0; exact rfl; intro bz) | (apply R.box; exact rfl; (simp only [Value.cells]; rfl); exact rfl; intro bx) | (apply R.alloc; (simp only [Value.cells]; rfl); exact rfl; intro ba) | (apply R.buildSlice; (exact a_prt); exact rfl; exact rfl; (exact a_fills); exact rfl; intro bl))
    (apply R.nil; apply Fin.kp hKc; exact Mem.le_refl _; (exact a_arr))
    (first | apply RP.nil0 | apply RP.nil)
    (repeat' (first | (apply R.step; (exact a_ok); exact rfl) | (first | (with_reducible first | apply R.nil | apply C.ret | apply C.block | apply C.skip | apply C.exit | apply Fin.thenRet | apply Fin.thenExit | apply Fin.blockNormal | apply Fin.blockRet | apply Fin.blockExit) | (with_reducible apply Fin.thenK; assumption) | (with_reducible apply C.seqK; intro _ _) | (with_reducible apply C.regionK; intro _ _) | (with_reducible apply Fin.blockOther; exact rfl)) | (first | (apply R.store; exact rfl; exact rfl; exact rfl; (exact a_at); (exact a_blit); exact rfl; (focus (simp [Value.oneCell']; done))) | (apply R.buildSlice0; exact rfl; intro bz) | (apply R.box; exact rfl; (simp only [Value.cells]; rfl); exact rfl; intro bx) | (apply R.alloc; (simp only [Value.cells]; rfl); exact rfl; intro ba) | (apply R.buildSlice; (exact a_prt); exact rfl; exact rfl; (exact a_fills); exact rfl; intro bl)) | (first | (apply R.guardT; assumption; exact rfl; exact rfl; exact rfl) | (apply R.guardF; assumption; exact rfl; exact rfl; exact rfl; exact rfl; exact rfl) | (apply R.guardU; assumption; exact rfl; exact rfl; exact rfl; exact rfl) | (apply R.guardDec; assumption; exact rfl; exact rfl; (intro h; skip; rotate_left; intro h; skip; rotate_left)) | (apply R.guardBeq; assumption; exact rfl; exact rfl; (intro h; skip; rotate_left; intro h; skip; rotate_left)) | (apply R.guardBne; assumption; exact rfl; exact rfl; (intro h; skip; rotate_left; intro h; skip; rotate_left)) | (apply R.guardNDec; assumption; exact rfl; exact rfl; (intro h; skip; rotate_left; intro h; skip; rotate_left)) | (apply R.guardNot; assumption; exact rfl; exact rfl; (intro h; skip; rotate_left; intro h; skip; rotate_left)) | (apply R.guardC; assumption; exact rfl; exact rfl; (intro h; skip; rotate_left; intro h; skip; rotate_left))) | (first | (apply C.condT; exact rfl) | (apply C.condF; exact rfl) | (apply C.condDec; exact rfl; (intro h; skip; rotate_left; intro h; skip; rotate_left)) | (apply C.condBeq; exact rfl; (intro h; skip; rotate_left; intro h; skip; rotate_left)) | (apply C.condBne; exact rfl; (intro h; skip; rotate_left; intro h; skip; rotate_left)) | (apply C.condNDec; exact rfl; (intro h; skip; rotate_left; intro h; skip; rotate_left)) | (apply C.condNot; exact rfl; (intro h; skip; rotate_left; intro h; skip; rotate_left)) | (apply C.cond; exact rfl; (intro h; skip; rotate_left; intro h; skip; rotate_left)))))
    obtain ⟨idn, hidn⟩ : ∃ z, z = id + 1 + si % 5 := ⟨_, rfl⟩
    obtain ⟨q, hq⟩ : ∃ z, z = sq % 9 := ⟨_, rfl⟩
    obtain ⟨u, hu⟩ : ∃ z, z = su % 100 := ⟨_, rfl⟩
    rw [← hidn, ← hq, ← hu]
    obtain ⟨m, hmq⟩ : ∃ z, z = min q 4 := ⟨_, rfl⟩
    rw [← hmq]
    apply C.arr (H2 := (ba, .cells [.int .u64 idn, .int .u64 q, .int .u64 u, .slice none 0 0].toArray 43 (0, 0)) :: (hov ++ (owXH ys ++ H))) (by ((try simp only [List.append_assoc, List.cons_append, List.nil_append, List.append_nil]); exact a_arr))
    apply C.loop (fun y : HkX => (y.k : Int) = y.kk ∧ y.kk ≤ m ∧ y.ks.length = y.k ∧ Own 62 6 y.v y.ks.length (keF y.ks) y.hp ∧ ∀ j, (hj : j < y.ks.length) → kOk (q - m + j + 1) y.ks[j])
      (fun y => [(0, .slice (some ⟨b0, o0, none⟩) xs.length cap), (1, .int .i64 most), (5, .slice Ao ys.length co), (6, .int .u64 idn), (7, .int .i64 ii), (8, .pointer (some ⟨ba, 0, none⟩)), (9, .int .i64 m), (10, .int .i64 y.kk)]) (fun _ => M) (fun y => (ba, .cells [.int .u64 idn, .int .u64 q, .int .u64 u, y.v].toArray 43 (0, 0)) :: (y.hp ++ (hov ++ (owXH ys ++ H)))) (fun y => 4 - y.k) ⟨0, 0, .slice none 0 0, [], []⟩
    · exact ⟨rfl, by dsimp only; omega, rfl, Own.nil _ _, fun j hj => absurd hj (Nat.not_lt_zero _)⟩
    · (exact a_subs)
    · exact rfl
    · exact rfl
    rintro ⟨k, kk, kv, khp, kks⟩ ⟨hkk, hkm, hkl, hko, hkall⟩
    dsimp only at hkk hkm hkl hko hkall ⊢
    obtain ⟨Ak, ck, rfl, _, hck⟩ := hko.form
    unfold maxLen at hck
    (repeat' (first | (apply R.step; (exact a_ok); exact rfl) | (first | (with_reducible first | apply R.nil | apply C.ret | apply C.block | apply C.skip | apply C.exit | apply Fin.thenRet | apply Fin.thenExit | apply Fin.blockNormal | apply Fin.blockRet | apply Fin.blockExit) | (with_reducible apply Fin.thenK; assumption) | (with_reducible apply C.seqK; intro _ _) | (with_reducible apply C.regionK; intro _ _) | (with_reducible apply Fin.blockOther; exact rfl)) | (first | (apply R.store; exact rfl; exact rfl; exact rfl; (exact a_at); (exact a_blit); exact rfl; (focus (simp [Value.oneCell']; done))) | (apply R.buildSlice0; exact rfl; intro bz) | (apply R.box; exact rfl; (simp only [Value.cells]; rfl); exact rfl; intro bx) | (apply R.alloc; (simp only [Value.cells]; rfl); exact rfl; intro ba) | (apply R.buildSlice; (exact a_prt); exact rfl; exact rfl; (exact a_fills); exact rfl; intro bl)) | (first | (apply R.guardT; assumption; exact rfl; exact rfl; exact rfl) | (apply R.guardF; assumption; exact rfl; exact rfl; exact rfl; exact rfl; exact rfl) | (apply R.guardU; assumption; exact rfl; exact rfl; exact rfl; exact rfl) | (apply R.guardDec; assumption; exact rfl; exact rfl; (intro h; skip; rotate_left; intro h; skip; rotate_left)) | (apply R.guardBeq; assumption; exact rfl; exact rfl; (intro h; skip; rotate_left; intro h; skip; rotate_left)) | (apply R.guardBne; assumption; exact rfl; exact rfl; (intro h; skip; rotate_left; intro h; skip; rotate_left)) | (apply R.guardNDec; assumption; exact rfl; exact rfl; (intro h; skip; rotate_left; intro h; skip; rotate_left)) | (apply R.guardNot; assumption; exact rfl; exact rfl; (intro h; skip; rotate_left; intro h; skip; rotate_left)) | (apply R.guardC; assumption; exact rfl; exact rfl; (intro h; skip; rotate_left; intro h; skip; rotate_left))) | (first | (apply C.condT; exact rfl) | (apply C.condF; exact rfl) | (apply C.condDec; exact rfl; (intro h; skip; rotate_left; intro h; skip; rotate_left)) | (apply C.condBeq; exact rfl; (intro h; skip; rotate_left; intro h; skip; rotate_left)) | (apply C.condBne; exact rfl; (intro h; skip; rotate_left; intro h; skip; rotate_left)) | (apply C.condNDec; exact rfl; (intro h; skip; rotate_left; intro h; skip; rotate_left)) | (apply C.condNot; exact rfl; (intro h; skip; rotate_left; intro h; skip; rotate_left)) | (apply C.cond; exact rfl; (intro h; skip; rotate_left; intro h; skip; rotate_left)))))
    · have hkt : kk < m := by assumption
      (apply C.regionO (ks := [1, 1, 1, 1, 1, 1, 1, 1, 1, 1, 1, 1, 1, 1, 1, 1, 1, 1, 1, 1, 1, 1, 1, 1, 1, 0, 0]) (is := [0, 1, 2, 3, 4, 5, 6, 7, 8, 11, 12, 13, 14, 15, 16, 17, 18, 19, 20, 21, 22, 9, 10, 23, 24, 25, 26]) (Hs := _); exact Mix.h; exact Arr.self; (exact a_np); (exact a_picked); kernel_rfl; intro _ e; subst e)
      (repeat' (first | (apply RP.step; intro _ _ _; (apply Ok.move; exact rfl); exact rfl) | (apply RP.callQ; (exact a_evs); exact rfl; exact fun _ _ _ => pick_K _ 3 (by omega) (by omega)) | (apply RP.callQ; (exact a_evs); exact rfl; exact fun _ _ _ => amount_K _ (by omega) (by omega)) | (first | (apply RP.step; intro _ _ _; (exact a_ok); exact rfl) | (apply RP.stepT; exact rfl; exact rfl; exact rfl; intro _ _ _; (exact a_ok); exact rfl) | (apply RP.stepF; exact rfl; exact rfl; exact rfl; exact rfl; exact rfl) | (apply RP.effF; exact rfl; exact rfl; exact rfl; exact rfl; exact rfl)) | (apply RP.callQ; (exact a_evs); exact rfl)))
      (apply RP.eff; intro Kc hKc ops0)
      ((apply R.alloc; (simp only [Value.cells]; rfl); exact rfl); intro br)
      (apply R.nil; apply Fin.kp hKc; exact Mem.le_refl _; (exact a_arr))
      (repeat' (first | (first | (apply RP.step; intro _ _ _; (exact a_ok); exact rfl) | (apply RP.stepT; exact rfl; exact rfl; exact rfl; intro _ _ _; (exact a_ok); exact rfl) | (apply RP.stepF; exact rfl; exact rfl; exact rfl; exact rfl; exact rfl) | (apply RP.effF; exact rfl; exact rfl; exact rfl; exact rfl; exact rfl)) | (apply RP.callQ; (exact a_evs); exact rfl)))
      (apply RP.eff; intro Kc hKc ops0)
      (first | (apply R.store; exact rfl; exact rfl; exact rfl; (exact a_at); (exact a_blit); exact rfl; (focus (simp [Value.oneCell']; done))) | (apply R.buildSlice0; exact rfl; intro bz) | (apply R.box; exact rfl; (simp only [Value.cells]; rfl); exact rfl; intro bx) | (apply R.alloc; (simp only [Value.cells]; rfl); exact rfl; intro ba) | (apply R.buildSlice; (exact a_prt); exact rfl; exact rfl; (exact a_fills); exact rfl; intro bl))
      (apply R.nil; apply Fin.kp hKc; exact Mem.le_refl _; (exact a_arr))
      (first | apply RP.nil0 | apply RP.nil)
      apply Fin.arr (H2 := (br, .cells #[.int .i64 ((su % 50 + kk) % 3 * 20), .int .u64 si, .int .i64 (amD (sq % 100000)).1, .int .u64 (amD (sq % 100000)).2.1, .int .i64 (amD (sq % 100000)).2.2] 36 (0, 0)) :: (ba, .cells #[.int .u64 idn, .int .u64 q, .int .u64 u, .slice Ak kks.length ck] 43 (0, 0)) :: (khp ++ (hov ++ (owXH ys ++ H)))) (by ((try simp only [List.append_assoc, List.cons_append, List.nil_append, List.append_nil]); exact a_arr))
      obtain ⟨z, hz⟩ : ∃ z : KeV, z = ⟨q - (m - 1 - kk), ⟨(su % 50 + kk) % 3 * 20, si, (amD (sq % 100000)).1, (amD (sq % 100000)).2.1, (amD (sq % 100000)).2.2⟩⟩ := ⟨_, rfl⟩
      have hzk : kOk (q - m + kks.length + 1) z := by
        rw [hz]
        have h9 := amD_sc (sq % 100000)
        exact ⟨by dsimp only; omega, by dsimp only; omega, by dsimp only; omega, h9.1, h9.2⟩
      (repeat' (first | (apply R.step; (exact a_ok); exact rfl) | (first | (with_reducible first | apply R.nil | apply C.ret | apply C.block | apply C.skip | apply C.exit | apply Fin.thenRet | apply Fin.thenExit | apply Fin.blockNormal | apply Fin.blockRet | apply Fin.blockExit) | (with_reducible apply Fin.thenK; assumption) | (with_reducible apply C.seqK; intro _ _) | (with_reducible apply C.regionK; intro _ _) | (with_reducible apply Fin.blockOther; exact rfl)) | (first | (apply R.store; exact rfl; exact rfl; exact rfl; (exact a_at); (exact a_blit); exact rfl; (focus (simp [Value.oneCell']; done))) | (apply R.buildSlice0; exact rfl; intro bz) | (apply R.box; exact rfl; (simp only [Value.cells]; rfl); exact rfl; intro bx) | (apply R.alloc; (simp only [Value.cells]; rfl); exact rfl; intro ba) | (apply R.buildSlice; (exact a_prt); exact rfl; exact rfl; (exact a_fills); exact rfl; intro bl)) | (first | (apply R.guardT; assumption; exact rfl; exact rfl; exact rfl) | (apply R.guardF; assumption; exact rfl; exact rfl; exact rfl; exact rfl; exact rfl) | (apply R.guardU; assumption; exact rfl; exact rfl; exact rfl; exact rfl) | (apply R.guardDec; assumption; exact rfl; exact rfl; (intro h; skip; rotate_left; intro h; skip; rotate_left)) | (apply R.guardBeq; assumption; exact rfl; exact rfl; (intro h; skip; rotate_left; intro h; skip; rotate_left)) | (apply R.guardBne; assumption; exact rfl; exact rfl; (intro h; skip; rotate_left; intro h; skip; rotate_left)) | (apply R.guardNDec; assumption; exact rfl; exact rfl; (intro h; skip; rotate_left; intro h; skip; rotate_left)) | (apply R.guardNot; assumption; exact rfl; exact rfl; (intro h; skip; rotate_left; intro h; skip; rotate_left)) | (apply R.guardC; assumption; exact rfl; exact rfl; (intro h; skip; rotate_left; intro h; skip; rotate_left))) | (first | (apply C.condT; exact rfl) | (apply C.condF; exact rfl) | (apply C.condDec; exact rfl; (intro h; skip; rotate_left; intro h; skip; rotate_left)) | (apply C.condBeq; exact rfl; (intro h; skip; rotate_left; intro h; skip; rotate_left)) | (apply C.condBne; exact rfl; (intro h; skip; rotate_left; intro h; skip; rotate_left)) | (apply C.condNDec; exact rfl; (intro h; skip; rotate_left; intro h; skip; rotate_left)) | (apply C.condNot; exact rfl; (intro h; skip; rotate_left; intro h; skip; rotate_left)) | (apply C.cond; exact rfl; (intro h; skip; rotate_left; intro h; skip; rotate_left)))))
      (apply R.append (news := keC ⟨q - (m - 1 - kk), ⟨(su % 50 + kk) % 3 * 20, si, (amD (sq % 100000)).1, (amD (sq % 100000)).2.1, (amD (sq % 100000)).2.2⟩⟩) (k := 1); exact rfl; exact rfl; exact hko; (exact a_tk); exact Rd.at_ (l := keC ⟨q - (m - 1 - kk), ⟨(su % 50 + kk) % 3 * 20, si, (amD (sq % 100000)).1, (amD (sq % 100000)).2.1, (amD (sq % 100000)).2.2⟩⟩) (by (exact a_at)) (fun j x h => by rw [Nat.zero_add]; exact h); exact rfl; exact keC_one _; omega; exact rfl; decide; decide; exact rfl; rintro v3 hp3 ho3)
      rw [← hz] at ho3
      obtain ⟨A3, c3, rfl, _, _⟩ := ho3.form
      (repeat' (first | (apply R.step; (exact a_ok); exact rfl) | (first | (with_reducible first | apply R.nil | apply C.ret | apply C.block | apply C.skip | apply C.exit | apply Fin.thenRet | apply Fin.thenExit | apply Fin.blockNormal | apply Fin.blockRet | apply Fin.blockExit) | (with_reducible apply Fin.thenK; assumption) | (with_reducible apply C.seqK; intro _ _) | (with_reducible apply C.regionK; intro _ _) | (with_reducible apply Fin.blockOther; exact rfl)) | (first | (apply R.store; exact rfl; exact rfl; exact rfl; (exact a_at); (exact a_blit); exact rfl; (focus (simp [Value.oneCell']; done))) | (apply R.buildSlice0; exact rfl; intro bz) | (apply R.box; exact rfl; (simp only [Value.cells]; rfl); exact rfl; intro bx) | (apply R.alloc; (simp only [Value.cells]; rfl); exact rfl; intro ba) | (apply R.buildSlice; (exact a_prt); exact rfl; exact rfl; (exact a_fills); exact rfl; intro bl)) | (first | (apply R.guardT; assumption; exact rfl; exact rfl; exact rfl) | (apply R.guardF; assumption; exact rfl; exact rfl; exact rfl; exact rfl; exact rfl) | (apply R.guardU; assumption; exact rfl; exact rfl; exact rfl; exact rfl) | (apply R.guardDec; assumption; exact rfl; exact rfl; (intro h; skip; rotate_left; intro h; skip; rotate_left)) | (apply R.guardBeq; assumption; exact rfl; exact rfl; (intro h; skip; rotate_left; intro h; skip; rotate_left)) | (apply R.guardBne; assumption; exact rfl; exact rfl; (intro h; skip; rotate_left; intro h; skip; rotate_left)) | (apply R.guardNDec; assumption; exact rfl; exact rfl; (intro h; skip; rotate_left; intro h; skip; rotate_left)) | (apply R.guardNot; assumption; exact rfl; exact rfl; (intro h; skip; rotate_left; intro h; skip; rotate_left)) | (apply R.guardC; assumption; exact rfl; exact rfl; (intro h; skip; rotate_left; intro h; skip; rotate_left))) | (first | (apply C.condT; exact rfl) | (apply C.condF; exact rfl) | (apply C.condDec; exact rfl; (intro h; skip; rotate_left; intro h; skip; rotate_left)) | (apply C.condBeq; exact rfl; (intro h; skip; rotate_left; intro h; skip; rotate_left)) | (apply C.condBne; exact rfl; (intro h; skip; rotate_left; intro h; skip; rotate_left)) | (apply C.condNDec; exact rfl; (intro h; skip; rotate_left; intro h; skip; rotate_left)) | (apply C.condNot; exact rfl; (intro h; skip; rotate_left; intro h; skip; rotate_left)) | (apply C.cond; exact rfl; (intro h; skip; rotate_left; intro h; skip; rotate_left)))))
      apply Fin.arr (H2 := (ba, .cells [.int .u64 idn, .int .u64 q, .int .u64 u, .slice A3 (kks.length + 1) c3].toArray 43 (0, 0)) :: (hp3 ++ (hov ++ (owXH ys ++ H)))) (by ((try simp only [List.append_assoc, List.cons_append, List.nil_append, List.append_nil]); exact a_arr))
      refine Fin.again (⟨k + 1, kk + 1, .slice A3 (kks.length + 1) c3, hp3, kks ++ [z]⟩ : HkX) ⟨by dsimp only; omega, by dsimp only; omega, by dsimp only; rw [List.length_append, hkl]; rfl, by dsimp only; rw [List.length_append, keF_app, show keF [z] = keC z by unfold keF; rw [List.map_singleton, List.flatten_singleton]]; exact ho3, kept_go hkall hzk⟩ (by dsimp only; omega) ?_ rfl rfl
      (exact a_subs)
    · have hkt : ¬ kk < m := by assumption
      have hkm2 : (kks.length : Int) = m := by omega
      (apply R.append (news := seC ⟨idn, q, u, Ak, kks.length, ck⟩) (k := 1); exact rfl; exact rfl; exact ho; (exact a_tk); exact Rd.at_ (l := seC ⟨idn, q, u, Ak, kks.length, ck⟩) (by (exact a_at)) (fun j x h => by rw [Nat.zero_add]; exact h); exact rfl; exact seC_one _; omega; exact rfl; decide; decide; exact rfl; rintro v2 hp2 ho2)
      obtain ⟨A2, c2, rfl, _, _⟩ := ho2.form
      (repeat' (first | (apply R.step; (exact a_ok); exact rfl) | (first | (with_reducible first | apply R.nil | apply C.ret | apply C.block | apply C.skip | apply C.exit | apply Fin.thenRet | apply Fin.thenExit | apply Fin.blockNormal | apply Fin.blockRet | apply Fin.blockExit) | (with_reducible apply Fin.thenK; assumption) | (with_reducible apply C.seqK; intro _ _) | (with_reducible apply C.regionK; intro _ _) | (with_reducible apply Fin.blockOther; exact rfl)) | (first | (apply R.store; exact rfl; exact rfl; exact rfl; (exact a_at); (exact a_blit); exact rfl; (focus (simp [Value.oneCell']; done))) | (apply R.buildSlice0; exact rfl; intro bz) | (apply R.box; exact rfl; (simp only [Value.cells]; rfl); exact rfl; intro bx) | (apply R.alloc; (simp only [Value.cells]; rfl); exact rfl; intro ba) | (apply R.buildSlice; (exact a_prt); exact rfl; exact rfl; (exact a_fills); exact rfl; intro bl)) | (first | (apply R.guardT; assumption; exact rfl; exact rfl; exact rfl) | (apply R.guardF; assumption; exact rfl; exact rfl; exact rfl; exact rfl; exact rfl) | (apply R.guardU; assumption; exact rfl; exact rfl; exact rfl; exact rfl) | (apply R.guardDec; assumption; exact rfl; exact rfl; (intro h; skip; rotate_left; intro h; skip; rotate_left)) | (apply R.guardBeq; assumption; exact rfl; exact rfl; (intro h; skip; rotate_left; intro h; skip; rotate_left)) | (apply R.guardBne; assumption; exact rfl; exact rfl; (intro h; skip; rotate_left; intro h; skip; rotate_left)) | (apply R.guardNDec; assumption; exact rfl; exact rfl; (intro h; skip; rotate_left; intro h; skip; rotate_left)) | (apply R.guardNot; assumption; exact rfl; exact rfl; (intro h; skip; rotate_left; intro h; skip; rotate_left)) | (apply R.guardC; assumption; exact rfl; exact rfl; (intro h; skip; rotate_left; intro h; skip; rotate_left))) | (first | (apply C.condT; exact rfl) | (apply C.condF; exact rfl) | (apply C.condDec; exact rfl; (intro h; skip; rotate_left; intro h; skip; rotate_left)) | (apply C.condBeq; exact rfl; (intro h; skip; rotate_left; intro h; skip; rotate_left)) | (apply C.condBne; exact rfl; (intro h; skip; rotate_left; intro h; skip; rotate_left)) | (apply C.condNDec; exact rfl; (intro h; skip; rotate_left; intro h; skip; rotate_left)) | (apply C.condNot; exact rfl; (intro h; skip; rotate_left; intro h; skip; rotate_left)) | (apply C.cond; exact rfl; (intro h; skip; rotate_left; intro h; skip; rotate_left)))))
      obtain ⟨y, hy⟩ : ∃ y : OwX, y = ⟨⟨⟨idn, q, u, Ak, kks.length, ck⟩, kks⟩, khp⟩ := ⟨_, rfl⟩
      have hXe : owXH (ys ++ [y]) = owXH ys ++ khp := by
        rw [owXH_app, hy]
        unfold owXH
        rw [List.map_singleton, List.flatten_singleton]
      have hrk : rOne id y.s := by
        rw [hy]
        exact ⟨by dsimp only; omega, by dsimp only; omega, by dsimp only; omega, by dsimp only; omega, by dsimp only; rw [hkm2, hmq], fun j hj => by dsimp only at hj ⊢; rw [hkm2]; exact hkall j hj⟩
      apply Fin.arr (H2 := hp2 ++ ((owXH ys ++ khp) ++ H)) (by ((try simp only [List.append_assoc, List.cons_append, List.nil_append, List.append_nil]); exact a_arr))
      refine Fin.again (⟨i + 1, ii + 1, idn, .slice A2 (ys.length + 1) c2, hp2, ys ++ [y]⟩ : HsX) ⟨by dsimp only; omega, by dsimp only; omega, by dsimp only; omega, by dsimp only; rw [List.length_append, hyn]; rfl, ⟨by dsimp only; rw [owX_app, sesC_app, List.length_append, hy]; exact ho2, fun z hz => ?_⟩, fun r hr => ?_, fun z hz => ?_, by dsimp only; omega, by dsimp only; omega⟩ (by dsimp only; omega) ?_ rfl (by dsimp only; rw [hXe])
      · rcases List.mem_append.1 hz with hz | hz
        · exact hyk z hz
        · rw [List.mem_singleton] at hz
          rw [hz, hy]
          exact ⟨rfl, hko⟩
      · dsimp only at hr ⊢
        rw [owX_app, List.append_assoc]
        exact hR _ ⟨hrk, by rw [hy]; exact hr⟩
      · rcases List.mem_append.1 hz with hz | hz
        · exact hsm z hz
        · rw [List.mem_singleton] at hz
          rw [hz, hy]
          exact ⟨by dsimp only; omega, by dsimp only; omega⟩
      · (exact a_subs)
  all_goals ((apply Fin.returnA (H2 := hov ++ (owXH ys ++ H)); assumption; exact .inl rfl; exact rfl; (exact a_res); (simp only [retv]; rfl); (exact a_arr)); exact ⟨ys, hov, ⟨ho, hyk⟩, by omega, by have h9 := hR [] trivial; rwa [List.append_nil] at h9, hsm, rfl, rfl⟩)
end Go.Sx
namespace Go.Sx
open Go.Proofs Go.RowKit Go.ChangeShapes Go.WideShapes Go.ChangeAt
section
variable {Hh : Type} {enc : TypeId × Value → Hh} {W : World} {m : Nat} {cs : List Value} {z : DataW Hh × List MemPlace}
theorem rd_wide (h : Trd enc Try.prog W m 32 cs z) (hw : Wgt Try.prog 32 z.1) : ∃ hi lo : Int, cs = [.int .i64 hi, .int .u64 lo] := by
  obtain ⟨hl, k, hf⟩ := rd_fields Try.underlying32 h hw
  rw [show Try.prog.cellsOf 32 = 2 by kernel_rfl] at hl
  obtain ⟨y0, h0, _⟩ := hf 0 2 0 1 rfl (by kernel_rfl)
  obtain ⟨y1, h1, _⟩ := hf 1 26 1 1 rfl (by kernel_rfl)
  obtain ⟨a0, e0, _⟩ := rd_int h0
  obtain ⟨a1, e1, _⟩ := rd_int h1
  match cs, hl with
  | [x0, x1], _ =>
    cases e0; cases e1
    exact ⟨a0, a1, rfl⟩
theorem rd_dec (h : Trd enc Try.prog W m 34 cs z) (hw : Wgt Try.prog 34 z.1) : ∃ hi lo sc : Int, cs = [.int .i64 hi, .int .u64 lo, .int .i64 sc] := by
  obtain ⟨hl, k, hf⟩ := rd_fields Try.underlying34 h hw
  rw [show Try.prog.cellsOf 34 = 3 by kernel_rfl] at hl
  obtain ⟨y0, h0, g0⟩ := hf 0 32 0 2 rfl (by kernel_rfl)
  obtain ⟨y1, h1, _⟩ := hf 1 3 2 1 rfl (by kernel_rfl)
  obtain ⟨a0, b0, e0⟩ := rd_wide h0 g0
  obtain ⟨a1, e1, _⟩ := rd_int h1
  match cs, hl with
  | [x0, x1, x2], _ =>
    cases e0; cases e1
    exact ⟨a0, b0, a1, rfl⟩
theorem rd_reply (h : Trd enc Try.prog W m 36 cs z) (hw : Wgt Try.prog 36 z.1) : ∃ r : ReV, cs = reC r := by
  obtain ⟨hl, k, hf⟩ := rd_fields Try.underlying36 h hw
  rw [show Try.prog.cellsOf 36 = 5 by kernel_rfl] at hl
  obtain ⟨y0, h0, _⟩ := hf 0 23 0 1 rfl (by kernel_rfl)
  obtain ⟨y1, h1, _⟩ := hf 1 26 1 1 rfl (by kernel_rfl)
  obtain ⟨y2, h2, g2⟩ := hf 2 34 2 3 rfl (by kernel_rfl)
  obtain ⟨a0, e0, _⟩ := rd_int h0
  obtain ⟨a1, e1, _⟩ := rd_int h1
  obtain ⟨a2, a3, a4, e2⟩ := rd_dec h2 g2
  match cs, hl with
  | [x0, x1, x2, x3, x4], _ =>
    cases e0; cases e1; cases e2
    exact ⟨⟨a0, a1, a2, a3, a4⟩, rfl⟩
theorem rd_ke (h : Trd enc Try.prog W m 62 cs z) (hw : Wgt Try.prog 62 z.1) : ∃ k : KeV, cs = keC k := by
  obtain ⟨hl, k, hf⟩ := rd_fields Try.underlying62 h hw
  rw [show Try.prog.cellsOf 62 = 6 by kernel_rfl] at hl
  obtain ⟨y0, h0, _⟩ := hf 0 26 0 1 rfl (by kernel_rfl)
  obtain ⟨y1, h1, g1⟩ := hf 1 36 1 5 rfl (by kernel_rfl)
  obtain ⟨a0, e0, _⟩ := rd_int h0
  obtain ⟨r, e1⟩ := rd_reply h1 g1
  match cs, hl with
  | [x0, x1, x2, x3, x4, x5], _ =>
    cases e0; cases e1
    exact ⟨⟨a0, r⟩, rfl⟩
theorem rd_kes : ∀ (css : List (List Value)), (∀ c ∈ css, c.length = 6 ∧ ∃ m y, Trd enc Try.prog W m 62 c y ∧ Wgt Try.prog 62 y.1) → ∃ ks : List KeV, css.flatten = keF ks ∧ ks.length = css.length
  | [], _ => ⟨[], rfl, rfl⟩
  | c :: css, h => by
    obtain ⟨ks, h1, h2⟩ := rd_kes css (fun c hc => h c (List.mem_cons_of_mem _ hc))
    obtain ⟨_, m, y, h5, h6⟩ := h c (List.mem_cons_self ..)
    obtain ⟨k, rfl⟩ := rd_ke h5 h6
    exact ⟨k :: ks, by rw [List.flatten_cons, h1]; rfl, by rw [List.length_cons, List.length_cons, h2]⟩
theorem rd_se (h : Trd enc Try.prog W m 43 cs z) (hw : Wgt Try.prog 43 z.1) : ∃ s : Ses, cs = seC s.x ∧ s.ok (Mem.of W) ∧ sNum s ∧ s.ks.length * 48 ≤ 140737488351232 := by
  obtain ⟨hl, k, hf⟩ := rd_fields Try.underlying43 h hw
  rw [show Try.prog.cellsOf 43 = 4 by kernel_rfl] at hl
  obtain ⟨y0, h0, _⟩ := hf 0 26 0 1 rfl (by kernel_rfl)
  obtain ⟨y1, h1, _⟩ := hf 1 26 1 1 rfl (by kernel_rfl)
  obtain ⟨y2, h2, _⟩ := hf 2 26 2 1 rfl (by kernel_rfl)
  obtain ⟨y3, h3, g3⟩ := hf 3 41 3 1 rfl (by kernel_rfl)
  obtain ⟨a0, e0, w0⟩ := rd_int h0
  obtain ⟨a1, e1, w1⟩ := rd_int h1
  obtain ⟨a2, e2, w2⟩ := rd_int h2
  obtain ⟨A, css, cap, e3, q1, q2, q3, q4⟩ := rd_slice (e := 62) (sz := 6) (by_ := 48) h3 g3
  obtain ⟨ks, q5, q6⟩ := rd_kes css q4
  match cs, hl with
  | [x0, x1, x2, x3], _ =>
    cases e0; cases e1; cases e2; cases e3
    exact ⟨⟨⟨a0, a1, a2, A, css.length, cap⟩, ks⟩, rfl, ⟨q6.symm, q1, by dsimp only; omega, q5 ▸ q2⟩, ⟨u64_bd w0, u64_bd w1, u64_bd w2⟩, by dsimp only; omega⟩
theorem rd_ses : ∀ (css : List (List Value)), (∀ c ∈ css, c.length = 4 ∧ ∃ m y, Trd enc Try.prog W m 43 c y ∧ Wgt Try.prog 43 y.1) → ∃ ys : List Ses, css.flatten = sesC ys ∧ ys.length = css.length ∧ ∀ s ∈ ys, s.ok (Mem.of W) ∧ sNum s ∧ s.ks.length * 48 ≤ 140737488351232
  | [], _ => ⟨[], rfl, rfl, fun _ h => absurd h List.not_mem_nil⟩
  | c :: css, h => by
    obtain ⟨ys, h1, h2, h3⟩ := rd_ses css (fun c hc => h c (List.mem_cons_of_mem _ hc))
    obtain ⟨_, m, y, h5, h6⟩ := h c (List.mem_cons_self ..)
    obtain ⟨s, rfl, h7⟩ := rd_se h5 h6
    refine ⟨s :: ys, by rw [List.flatten_cons, h1]; rfl, by rw [List.length_cons, List.length_cons, h2], fun x hx => ?_⟩
    rcases List.mem_cons.1 hx with rfl | hx
    · exact h7
    · exact h3 x hx
theorem arg_ses {A : Option Addr} {css : List (List Value)} {cap : Nat} (hl : css.length ≤ cap) (hp : Pl (Mem.of W) A css.flatten) (hc : cap * 48 ≤ 140737488351232) (hall : ∀ c ∈ css, c.length = 4 ∧ ∃ m y, Trd enc Try.prog W m 43 c y ∧ Wgt Try.prog 43 y.1) :
    ∃ ys : List Ses, PlS (Mem.of W) (.slice A css.length cap) ys ∧ ys.length * 48 ≤ 140737488351232 ∧ (∀ s ∈ ys, sNum s) ∧ ∀ s ∈ ys, s.ks.length * 48 ≤ 140737488351232 := by
  obtain ⟨ys, h1, h2, h3⟩ := rd_ses css hall
  exact ⟨ys, ⟨A, cap, by rw [h2], by omega, by omega, h1 ▸ hp, fun y hy => (h3 y hy).1⟩, by omega, fun y hy => (h3 y hy).2.1, fun y hy => (h3 y hy).2.2⟩
end
end Go.Sx
namespace Go.Sx
open Go Go.Proofs Go.RowKit
/-- a row of one's own, cell by cell -/
theorem Own.atS {e sz m : Nat} {v : Value} {xs : List Value} {hp : Hp} (h : Own e sz v m xs hp) (hm : 0 < m) : ∃ b cap, ∃ l : List Value, v = .slice (some ⟨b, 0, none⟩) m cap ∧ hp = [(b, .cells l.toArray e (0, 0))] ∧ m ≤ cap ∧ m * sz ≤ l.length ∧ l.take (m * sz) = xs ∧
    ∀ l' : List Value, l'.length = l.length → Own e sz v m (l'.take (m * sz)) [(b, .cells l'.toArray e (0, 0))] := by
  rcases h.2 with ⟨_, h2, _⟩ | ⟨b, cap, c, h1, h2, h3, h4, h5, h6⟩
  · omega
  · have hms : m * sz ≤ cap * sz := Nat.mul_le_mul_right _ h3
    refine ⟨b, cap, c.toList, h1, by rw [h2], h3, by rw [Array.length_toList, h5]; exact hms, h6, fun l' hl => ⟨?_, .inr ⟨b, cap, l'.toArray, h1, rfl, h3, h4, ?_, by simp⟩⟩⟩
    · rw [List.length_take, hl, Array.length_toList, h5]; omega
    · simp only [List.size_toArray]
      rw [hl, Array.length_toList]; exact h5
theorem take_get {l xs : List Value} {n j : Nat} {u : Value} (h : l.take n = xs) (hj : xs[j]? = some u) : l[j]? = some u := by
  rw [← h, List.getElem?_take] at hj
  split at hj
  · exact hj
  · cases hj
theorem take_set {l xs : List Value} {n j : Nat} {u : Value} (h : l.take n = xs) : (l.set j u).take n = xs.set j u := by
  rw [← h, List.take_set]
theorem Own.shrink {e sz m k cap : Nat} {A : Option Addr} {xs : List Value} {hp : Hp} (h : Own e sz (.slice A m cap) m xs hp) (hk : k ≤ m) : Own e sz (.slice A k cap) k (xs.take (k * sz)) hp := by
  have hks : k * sz ≤ m * sz := Nat.mul_le_mul_right _ hk
  refine ⟨by rw [List.length_take, h.1]; omega, ?_⟩
  rcases h.2 with ⟨h1, h2, h3⟩ | ⟨b, cap', c, h1, h2, h3, h4, h5, h6⟩
  · injection h1 with e1 _ e3
    have : k = 0 := by omega
    exact .inl ⟨by rw [e1, e3, this], this, h3⟩
  · injection h1 with e1 _ e3
    refine .inr ⟨b, cap', c, by rw [e1, e3], h2, by omega, h4, h5, ?_⟩
    rw [← h6, List.take_take]
    congr 1
    omega
theorem sesC_four (ys : List Ses) : ∀ c ∈ ys.map (fun y => seC y.x), c.length = 4 := by
  intro c hc
  obtain ⟨x, _, rfl⟩ := List.mem_map.1 hc
  rfl
theorem sesC_get {ys : List Ses} {i q : Nat} {u : Value} (hi : i < ys.length) (hq : (seC ys[i].x)[q]? = some u) : (sesC ys)[i * 4 + q]? = some u :=
  flat_get (sz := 4) _ (sesC_four ys) i q _ u (by rw [List.getElem?_map, List.getElem?_eq_getElem hi]; rfl) hq
theorem sesC_set {ys : List Ses} {i q : Nat} {u : Value} {y : Ses} (hi : i < ys.length) (hq : q < 4) (hc : seC y.x = (seC ys[i].x).set q u) : sesC (ys.set i y) = (sesC ys).set (i * 4 + q) u := by
  unfold sesC
  rw [rows_set (n := 4) (sesC_four ys) (i := i) (q := q) (by rw [List.length_map]; exact hi) hq, List.map_set, List.getElem_map, hc]
theorem sesC_same {ys : List Ses} {i : Nat} {y : Ses} (hi : i < ys.length) (hc : seC y.x = seC ys[i].x) : sesC (ys.set i y) = sesC ys := by
  unfold sesC
  rw [List.map_set, hc]
  congr 1
  refine List.ext_getElem (by simp) fun n h1 h2 => ?_
  rw [List.getElem_set]
  split
  · rename_i h; subst h; rw [List.getElem_map]
  · rfl
theorem owX_set (ys : List OwX) (i : Nat) (y : OwX) : owX (ys.set i y) = (owX ys).set i y.s := by unfold owX; rw [List.map_set]
theorem owX_get {ys : List OwX} {i : Nat} (hi : i < ys.length) (h : i < (owX ys).length) : (owX ys)[i] = ys[i].s := List.getElem_map ..
theorem owXH_split {xs : List OwX} {i : Nat} (hi : i < xs.length) (y : OwX) : owXH (xs.set i y) = owXH (xs.take i) ++ (y.hp ++ owXH (xs.drop (i + 1))) := by
  unfold owXH
  rw [List.set_eq_take_append_cons_drop, if_pos hi, List.map_append, List.flatten_append, List.map_cons, List.flatten_cons]
theorem owXH_at {xs : List OwX} {i : Nat} (hi : i < xs.length) : owXH xs = owXH (xs.take i) ++ (xs[i].hp ++ owXH (xs.drop (i + 1))) := by
  have := owXH_split hi xs[i]
  rwa [List.set_getElem_self] at this
theorem OwnXs.set {v : Value} {ys : List OwX} {hrow : Hp} (h : OwnXs v ys hrow) {i : Nat} (hi : i < ys.length) {y : OwX} (hc : seC y.s.x = seC ys[i].s.x) (hy : OwnK y) : OwnXs v (ys.set i y) hrow := by
  have hl : i < (owX ys).length := by unfold owX; rw [List.length_map]; exact hi
  refine ⟨?_, fun x hx => ?_⟩
  · rw [List.length_set, owX_set, sesC_same hl (by rw [owX_get hi]; exact hc)]
    exact h.1
  · rcases List.mem_or_eq_of_mem_set hx with hx | rfl
    · exact h.2 x hx
    · exact hy
theorem OwnXs.over {v : Value} {ys : List OwX} {hrow : Hp} (h : OwnXs v ys hrow) {i : Nat} (hi : i < ys.length) : ∃ b cap, ∃ l : List Value, v = .slice (some ⟨b, 0, none⟩) ys.length cap ∧ hrow = [(b, .cells l.toArray 43 (0, 0))] ∧ ys.length ≤ cap ∧ ys.length * 4 ≤ l.length ∧
    (∀ (q : Nat) u, (seC ys[i].s.x)[q]? = some u → l[i * 4 + q]? = some u) ∧
    ∀ (q : Nat) (u : Value) (y : OwX), q < 4 → seC y.s.x = (seC ys[i].s.x).set q u → OwnK y → OwnXs v (ys.set i y) [(b, .cells (l.set (i * 4 + q) u).toArray 43 (0, 0))] := by
  have hl : i < (owX ys).length := by unfold owX; rw [List.length_map]; exact hi
  obtain ⟨b, cap, l, h1, h2, h3, h4, h5, h6⟩ := h.1.atS (by omega)
  refine ⟨b, cap, l, h1, h2, h3, h4, fun q u hq => take_get h5 (sesC_get hl (by rw [owX_get hi]; exact hq)), fun q u y hq hc hy => ⟨?_, fun x hx => ?_⟩⟩
  · rw [List.length_set, owX_set, sesC_set hl hq (by rw [owX_get hi]; exact hc), ← take_set h5]
    exact h6 _ (by rw [List.length_set])
  · rcases List.mem_or_eq_of_mem_set hx with hx | rfl
    · exact h.2 x hx
    · exact hy
/-- all of it goes to the pool -/
theorem OwnXs.plS {M : Mem} {v : Value} {ys : List OwX} {hrow : Hp} (h : OwnXs v ys hrow) (hin : In M (hrow ++ owXH ys)) : PlS M v (owX ys) := by
  obtain ⟨A, c, rfl, h3, h4⟩ := h.1.form
  unfold maxLen at h4
  have hl : (owX ys).length = ys.length := List.length_map ..
  exact ⟨A, c, by rw [hl], by rw [hl]; exact h3, by omega, h.1.plIn hin.left, h.oks hin.right⟩
theorem keF_set {k k' : KeV} {ks : List KeV} {q : Nat} {u : Value} (hq : q < 6) (hc : keC k' = (keC k).set q u) : keF (k' :: ks) = (keF (k :: ks)).set q u := by
  unfold keF
  rw [List.map_cons, List.map_cons, List.flatten_cons, List.flatten_cons, hc, List.set_append_left _ _ (by exact hq)]
/-- the first answer of a session, written over -/
theorem OwnK.over {x : SeV} {k : KeV} {ks : List KeV} {hp : Hp} (h : OwnK ⟨⟨x, k :: ks⟩, hp⟩) : ∃ b, ∃ l : List Value, x.kA = some ⟨b, 0, none⟩ ∧ hp = [(b, .cells l.toArray 62 (0, 0))] ∧ 6 ≤ l.length ∧ (∀ (q : Nat) u, (keC k)[q]? = some u → l[q]? = some u) ∧
    ∀ (q : Nat) (u : Value) (k' : KeV), q < 6 → keC k' = (keC k).set q u → OwnK ⟨⟨x, k' :: ks⟩, [(b, .cells (l.set q u).toArray 62 (0, 0))]⟩ := by
  obtain ⟨h1, h2⟩ := h
  dsimp only at h1 h2
  obtain ⟨b, cap, l, g1, g2, g3, g4, g5, g6⟩ := h2.atS (by rw [List.length_cons]; omega)
  injection g1 with e1 _ _
  rw [List.length_cons] at g4
  refine ⟨b, l, e1, g2, by omega, fun q u hq => take_get g5 ?_, fun q u k' hq hc => ⟨h1, ?_⟩⟩
  · unfold keF
    rw [List.map_cons, List.flatten_cons, List.getElem?_append_left (List.getElem?_eq_some_iff.1 hq).1]
    exact hq
  · have h9 := g6 (l.set q u) (by rw [List.length_set])
    rw [take_set g5, ← keF_set hq hc] at h9
    exact h9
theorem rOk_d : ∀ {l l' : List Ses} {a : Int}, l.map Ses.d = l'.map Ses.d → rOk a l → rOk a l'
  | [], l', _, h, _ => by
    cases l' with
    | nil => trivial
    | cons _ _ => simp at h
  | s :: r, l', a, h, h1 => by
    cases l' with
    | nil => simp at h
    | cons s' r' =>
      rw [List.map_cons, List.map_cons] at h
      injection h with h2 h3
      obtain ⟨⟨i, q, u, A, n, c⟩, ks⟩ := s
      obtain ⟨⟨i', q', u', A', n', c'⟩, ks'⟩ := s'
      unfold Ses.d at h2
      injection h2 with e1 e2 e3 e4
      dsimp only at e1 e2 e3 e4
      subst e1 e2 e3 e4
      exact ⟨h1.1, rOk_d h3 h1.2⟩
theorem right_d {l l' : List Ses} {m : Int} (h : l.map Ses.d = l'.map Ses.d) (hr : rightP l m) : rightP l' m := by
  have h1 := congrArg List.length h
  rw [List.length_map, List.length_map] at h1
  exact ⟨hr.1, hr.2.1, h1 ▸ hr.2.2.1, rOk_d h hr.2.2.2⟩
/-- what holds of what one says holds of what the other says -/
theorem d_all {l l' : List Ses} {p : SesD → Prop} (h : l.map Ses.d = l'.map Ses.d) (hp : ∀ s ∈ l', p s.d) : ∀ s ∈ l, p s.d := by
  intro s hs
  have h1 : s.d ∈ l'.map Ses.d := h ▸ List.mem_map.2 ⟨s, hs, rfl⟩
  obtain ⟨s', hs', h2⟩ := List.mem_map.1 h1
  rw [← h2]
  exact hp s' hs'
theorem rOk_mem : ∀ {l : List Ses} {a : Int}, 0 ≤ a → rOk a l → ∀ s ∈ l, ∃ b, 0 ≤ b ∧ rOne b s
  | [], _, _, _ => fun _ h => absurd h List.not_mem_nil
  | s :: r, a, h0, h => fun x hx => by
    obtain ⟨h1, h2⟩ := h
    rcases List.mem_cons.1 hx with rfl | hx
    · exact ⟨a, h0, h1⟩
    · exact rOk_mem (by have := h1.1; omega) h2 x hx
theorem right_ks {l : List Ses} {m : Int} (h : rightP l m) : ∀ s ∈ l, s.d.ks.length ≤ 4 := fun s hs => by
  obtain ⟨b, _, _, _, _, _, h6, _⟩ := rOk_mem (Int.le_refl _) h.2.2.2 s hs
  show s.ks.length ≤ 4
  omega
end Go.Sx
