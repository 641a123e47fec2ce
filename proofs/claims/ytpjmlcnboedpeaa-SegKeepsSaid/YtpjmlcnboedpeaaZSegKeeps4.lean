import Derived.Shelf.Sort.Plain
import Derived.Shelf.Slices.In.SortNone
import Derived.Sort.KeysCollected
import Derived.Test.YtpjmlcnboedpeaaProg
import Derived.Scope
import Derived.Test.YtpjmlcnboedpeaaZSegKeeps3
section
namespace Go.Sx
open Go Go.Proofs Go.RowKit
attribute [local irreducible] C R Fin K Own OwnT Rd Pl Ok KOf RetOk OpsOf RP KP Res NoPanic KV KE MapS ItS EntS FsO FsR RowD PlD
variable {M M' : Mem} {H H1 H2 : Hp}
def tornF (F : Fs) (x : De) (torn : Int) : Fs := match x with
  | .app n b => if 0 < b.length ∧ 0 < (torn % (b.length : Int)).toNat then doF F (.app n (b.take (torn % (b.length : Int)).toNat)) else F
  | _ => F
def keepD (d : Dk) (keep : Int) : Nat := (keep % (d.ps.length + 1 : Nat)).toNat
def crashF (d : Dk) (keep torn : Int) : Fs := match d.ps[keepD d keep]? with
  | some x => tornF ((d.ps.take (keepD d keep)).foldl doF d.S) x torn
  | none => (d.ps.take (keepD d keep)).foldl doF d.S
def crashD (d : Dk) (keep torn : Int) : Dk := ⟨d.room, crashF d keep torn, [], -1, false⟩
theorem Runs.at : ∀ {ps : List De} {F : Fs}, Runs F ps → ∀ {i : Nat} (hi : i < ps.length), Fit ((ps.take i).foldl doF F) ps[i]
  | _ :: _, _, h, 0, _ => h.1
  | x :: _, F, h, i + 1, hi => Runs.at (F := doF F x) h.2 (Nat.lt_of_succ_lt_succ hi)
theorem Runs.sumAt : ∀ {ps : List De} {F : Fs}, sumF F ≤ 1048576 → Runs F ps → ∀ i, sumF ((ps.take i).foldl doF F) ≤ 1048576
  | [], _, h, _, i => by rw [List.take_nil]; exact h
  | _ :: _, _, h, _, 0 => h
  | x :: _, F, _, h, i + 1 => Runs.sumAt (F := doF F x) h.1.1 h.2 i
theorem foldl_nodup : ∀ {ps : List De} {F : Fs}, (keyS F).Nodup → (keyS (ps.foldl doF F)).Nodup
  | [], _, h => h
  | x :: ps, F, h => foldl_nodup (ps := ps) (F := doF F x) (doF_keys h)
theorem torn_fit {F : Fs} {n b : Txt} (hn : (keyS F).Nodup) (h : Fit F (.app n b)) (k : Nat) : Fit F (.app n (b.take k)) := by
  refine ⟨?_, trivial⟩
  have h0 := h.1
  have h1 := sumF_put (b := fileD F n ++ b) (n := n) hn
  have h2 := sumF_put (b := fileD F n ++ b.take k) (n := n) hn
  show sumF (putS F n (fileD F n ++ b.take k)) ≤ _
  change sumF (putS F n (fileD F n ++ b)) ≤ _ at h0
  rw [List.length_append] at h1 h2
  rw [List.length_take] at h2
  omega
theorem torn_sum {F : Fs} {x : De} {torn : Int} (hn : (keyS F).Nodup) (hs : sumF F ≤ 1048576) (h : Fit F x) : sumF (tornF F x torn) ≤ 1048576 := by
  cases x with
  | app n b =>
    unfold tornF
    dsimp only
    split
    · exact (torn_fit hn h _).1
    · exact hs
  | trc n k => exact hs
  | ren n t => exact hs
  | rem n => exact hs
structure CrX where
  i : Nat
  ii : Int
  so : Obj
  M : Mem
structure CrY where
  so : Obj
  M : Mem
theorem crash_K {db : Nat} {d : Dk} {hp : Hp} {keep torn : Int} (ho : DkO M db d hp) (hlen : d.ps.length ≤ 1000000) : K Try.prog 28 [.pointer (some ⟨db, 0, none⟩), .int .i64 keep, .int .i64 torn] M (hp ++ H) fun v' M' H' => v' = .int .i64 (keepD d keep : Int) ∧ M.le M' ∧ ∃ hp', DkO M' db (crashD d keep torn) hp' ∧ H' = hp' ++ H := by
  obtain ⟨hok, sb, nb, so, no, pv, hr, h1, h2, h3, rfl⟩ := ho
  have hnS := h1.nodup
  refine K.enterK Try.func28 rfl rfl rfl ?_
  intro Q hNP hQ
  apply C.ice (hp := hr) (H1 := (db, dkB d.room sb nb pv d.fuse d.down) :: (sb, so) :: H) (by (exact a_arrs))
  intro M1 hM1 hin
  obtain ⟨A1, c1, rfl, hc1, hc2⟩ := h3.form
  unfold maxLen at hc2
  have h4 := h3.pl hM1 hin
  have h5 := h1.mono hM1
  clear h1 h2 h3 hin
  have hk0 : 0 ≤ keep % ((d.ps.length + 1 : Nat) : Int) := Int.emod_nonneg _ (by omega)
  have hk1 : keep % ((d.ps.length + 1 : Nat) : Int) < ((d.ps.length + 1 : Nat) : Int) := Int.emod_lt_of_pos _ (by omega)
  obtain ⟨k, hk⟩ : ∃ k, k = keepD d keep := ⟨_, rfl⟩
  have hkk : keep % ((d.ps.length + 1 : Nat) : Int) = (k : Int) := by rw [hk]; unfold keepD; omega
  have hkl : k ≤ d.ps.length := by omega
  unfold dkB
  (repeat' (first | refine a_go ?_ | (with_reducible apply Fin.thenK; assumption) | (with_reducible (first | apply C.seqK | apply C.regionK); intro _ _) | (apply R.buildSlice0; exact rfl; intro bz) | (apply R.box; exact rfl; (simp only [Value.cells]; rfl); exact rfl; intro bx) | (apply R.alloc; (simp only [Value.cells]; rfl); exact rfl; intro ba) | (apply R.buildSlice; (exact a_prt); exact rfl; exact rfl; (exact a_fills); exact rfl; intro bl) | (refine a_sp ?_ ?_; (intro h; skip; rotate_left; intro h; skip; rotate_left)) | fail))
  (apply R.call; (exact a_evs); exact rfl); exact within_K keep ((d.ps.length : Int) + 1) (by omega) (by omega); rintro _ M1 _ ⟨rfl, rfl, rfl⟩
  rw [show (d.ps.length : Int) + 1 = ((d.ps.length + 1 : Nat) : Int) by omega, hkk]
  (repeat' (first | (apply R.step; (apply Ok.move; exact rfl); exact rfl) | (apply R.step; (apply Ok.sliceHi; exact rfl; exact rfl; omega; omega); exact rfl) | refine a_go ?_ | (with_reducible apply Fin.thenK; assumption) | (with_reducible (first | apply C.seqK | apply C.regionK); intro _ _) | (apply R.buildSlice0; exact rfl; intro bz) | (apply R.box; exact rfl; (simp only [Value.cells]; rfl); exact rfl; intro bx) | (apply R.alloc; (simp only [Value.cells]; rfl); exact rfl; intro ba) | (apply R.buildSlice; (exact a_prt); exact rfl; exact rfl; (exact a_fills); exact rfl; intro bl) | (refine a_sp ?_ ?_; (intro h; skip; rotate_left; intro h; skip; rotate_left)) | fail))
  apply C.loop (fun y : CrX => (y.i : Int) = y.ii ∧ y.i ≤ k ∧ M1.le y.M ∧ FsO y.M y.so ((d.ps.take y.i).foldl doF d.S))
    (fun y => [(0, .pointer (some ⟨db, 0, none⟩)), (2, .int .i64 torn), (7, .int .i64 (k : Int)), (31, .slice A1 ((k : Int)).toNat c1), (32, .int .i64 (k : Int)), (33, .int .i64 y.ii)]) (fun y => y.M) (fun y => (db, .cells [.int .i64 d.room, .map (some sb), .map (some sb), .slice A1 d.ps.length c1, .int .i64 d.fuse, .bool d.down].toArray 59 (0, 0)) :: (sb, y.so) :: H) (fun y => k - y.i) ⟨0, 0, so, M1⟩
  · exact ⟨rfl, Nat.zero_le _, Mem.le_refl _, h5⟩
  · (exact a_subs)
  · exact rfl
  · exact rfl
  rintro ⟨i, ii, so1, M2⟩ ⟨hii, hik, hM2, hf⟩
  dsimp only at hii hik hM2 hf ⊢
  by_cases hlt : i < k
  · have hip : i < d.ps.length := by omega
    obtain ⟨b0, o0, cc, e0, f0, dc, rfl, hMb, hdc, hcell⟩ := (h4.mono hM2).at hip
    have hfit := hok.2.2.2.at hip
    have hc5 := hdc.cells
    obtain ⟨c0, d1, d2, d3, d4, rfl⟩ : ∃ c0 c1 c2 c3 c4, dc = [c0, c1, c2, c3, c4] := by
      match dc, hc5.1 with
      | [a, b, c, d, e], _ => exact ⟨a, b, c, d, e, rfl⟩
    have hcell2 : ∀ (q : Nat) u, [c0, d1, d2, d3, d4][q]? = some u → cc[o0 + ii.toNat * 5 + q]? = some u := fun q u hq => by
      rw [show ii.toNat = i by omega]
      exact hcell q u hq
    clear hcell
    (repeat' (first | refine a_go ?_ | (with_reducible apply Fin.thenK; assumption) | (with_reducible (first | apply C.seqK | apply C.regionK); intro _ _) | (apply R.buildSlice0; exact rfl; intro bz) | (apply R.box; exact rfl; (simp only [Value.cells]; rfl); exact rfl; intro bx) | (apply R.alloc; (simp only [Value.cells]; rfl); exact rfl; intro ba) | (apply R.buildSlice; (exact a_prt); exact rfl; exact rfl; (exact a_fills); exact rfl; intro bl) | (refine a_sp ?_ ?_; (intro h; skip; rotate_left; intro h; skip; rotate_left)) | fail))
    · (apply R.store (vs := [c0, d1, d2, d3, d4]); exact rfl; exact rfl; exact rfl; (exact a_at); (exact a_blit); exact rfl; exact hc5.2)
      (repeat' (first | refine a_go ?_ | (with_reducible apply Fin.thenK; assumption) | (with_reducible (first | apply C.seqK | apply C.regionK); intro _ _) | (apply R.buildSlice0; exact rfl; intro bz) | (apply R.box; exact rfl; (simp only [Value.cells]; rfl); exact rfl; intro bx) | (apply R.alloc; (simp only [Value.cells]; rfl); exact rfl; intro ba) | (apply R.buildSlice; (exact a_prt); exact rfl; exact rfl; (exact a_fills); exact rfl; intro bl) | (refine a_sp ?_ ?_; (intro h; skip; rotate_left; intro h; skip; rotate_left)) | fail))
      apply C.arr (H2 := (ba, .cells [c0, d1, d2, d3, d4].toArray 86 (0, 0)) :: (db, .cells [.int .i64 d.room, .map (some sb), .map (some sb), .slice (some ⟨b0, o0, none⟩) d.ps.length c1, .int .i64 d.fuse, .bool d.down].toArray 59 (0, 0)) :: (sb, so1) :: H) (by (exact a_arrs))
      (apply C.regionO (ks := [1, 1, 1, 1, 1, 0]) (is := [0, 1, 2, 3, 4, 5]) (Hs := [(ba, .cells [c0, d1, d2, d3, d4].toArray 86 (0, 0)), (db, .cells [.int .i64 d.room, .map (some sb), .map (some sb), .slice (some ⟨b0, o0, none⟩) d.ps.length c1, .int .i64 d.fuse, .bool d.down].toArray 59 (0, 0))]); exact Mix.h; (first | exact Arr.all _ | (exact a_arr)); (exact a_np); (exact a_picked); kernel_rfl; intro _ e; subst e)
      (repeat' (first | (first | (apply RP.step; intro _ _ _; (exact a_ok); exact rfl) | (apply RP.stepT; exact rfl; exact rfl; exact rfl; intro _ _ _; (exact a_ok); exact rfl) | (apply RP.stepF; exact rfl; exact rfl; exact rfl; exact rfl; exact rfl) | (apply RP.effF; exact rfl; exact rfl; exact rfl; exact rfl; exact rfl)) | (apply RP.callQ; (exact a_evs); exact rfl)))
      (apply RP.eff; intro Kc hKc ops0)
      (apply R.call; (exact a_evs); exact rfl; (apply K.arr (h := does_K (nb := sb) hf hdc hfit)); (exact a_art); rintro _ M3 _ ⟨rfl, hM3, so2, hf3, rfl⟩)
      (apply R.nil; apply Fin.kpB (E := []) hKc; exact hM3; (exact a_art))
      (first | apply RP.nil0 | apply RP.nil)
      (repeat' (first | refine a_go ?_ | (with_reducible apply Fin.thenK; assumption) | (with_reducible (first | apply C.seqK | apply C.regionK); intro _ _) | (apply R.buildSlice0; exact rfl; intro bz) | (apply R.box; exact rfl; (simp only [Value.cells]; rfl); exact rfl; intro bx) | (apply R.alloc; (simp only [Value.cells]; rfl); exact rfl; intro ba) | (apply R.buildSlice; (exact a_prt); exact rfl; exact rfl; (exact a_fills); exact rfl; intro bl) | (refine a_sp ?_ ?_; (intro h; skip; rotate_left; intro h; skip; rotate_left)) | fail))
      apply Fin.arr (H2 := (db, .cells [.int .i64 d.room, .map (some sb), .map (some sb), .slice (some ⟨b0, o0, none⟩) d.ps.length c1, .int .i64 d.fuse, .bool d.down].toArray 59 (0, 0)) :: (sb, so2) :: H) (by (exact a_arrs))
      refine Fin.again (⟨i + 1, ii + 1, so2, M3⟩ : CrX) ⟨by dsimp only; omega, by dsimp only; omega, hM2.trans_ hM3, ?_⟩ (by dsimp only; omega) ?_ rfl rfl
      · dsimp only
        rw [List.take_succ_eq_append_getElem hip, List.foldl_append]
        exact hf3
      (exact a_subs)
    all_goals (exfalso; omega)
  · have hie : i = k := by omega
    subst hie
    have hpre := Runs.sumAt hok.2.2.1 hok.2.2.2 i
    have hnp : (keyS ((d.ps.take i).foldl doF d.S)).Nodup := foldl_nodup hnS
    (repeat' (first | (apply R.step; (exact a_ok); exact rfl) | (first | (with_reducible first | apply R.nil | apply C.ret | apply C.block | apply C.skip | apply C.exit | apply Fin.thenRet | apply Fin.thenExit | apply Fin.blockNormal | apply Fin.blockRet | apply Fin.blockExit) | (with_reducible apply Fin.thenK; assumption) | (with_reducible apply C.seqR; intro _ _) | (with_reducible apply C.regionK; intro _ _) | (with_reducible apply Fin.blockOther; exact rfl)) | (first | (apply R.store; exact rfl; exact rfl; exact rfl; (exact a_at); (exact a_blit); exact rfl; (focus (simp [Value.oneCell']; done))) | (apply R.buildSlice0; exact rfl; intro bz) | (apply R.box; exact rfl; (simp only [Value.cells]; rfl); exact rfl; intro bx) | (apply R.alloc; (simp only [Value.cells]; rfl); exact rfl; intro ba) | (apply R.buildSlice; (exact a_prt); exact rfl; exact rfl; (exact a_fills); exact rfl; intro bl)) | (first | (apply R.guardT; assumption; exact rfl; exact rfl; exact rfl) | (apply R.guardF; assumption; exact rfl; exact rfl; exact rfl; exact rfl; exact rfl) | (apply R.guardU; assumption; exact rfl; exact rfl; exact rfl; exact rfl) | (apply R.guardDec; assumption; exact rfl; exact rfl; (intro h; skip; rotate_left; intro h; skip; rotate_left)) | (apply R.guardBeq; assumption; exact rfl; exact rfl; (intro h; skip; rotate_left; intro h; skip; rotate_left)) | (apply R.guardBne; assumption; exact rfl; exact rfl; (intro h; skip; rotate_left; intro h; skip; rotate_left)) | (apply R.guardNDec; assumption; exact rfl; exact rfl; (intro h; skip; rotate_left; intro h; skip; rotate_left)) | (apply R.guardNot; assumption; exact rfl; exact rfl; (intro h; skip; rotate_left; intro h; skip; rotate_left)) | (apply R.guardC; assumption; exact rfl; exact rfl; (intro h; skip; rotate_left; intro h; skip; rotate_left)))))
    (apply C.seqK; intro _ _)
    (apply C.condDec; exact rfl; (intro h; exfalso; omega); intro _)
    (repeat' (first | (apply R.step; (exact a_ok); exact rfl) | (first | (with_reducible first | apply R.nil | apply C.ret | apply C.block | apply C.skip | apply C.exit | apply Fin.thenRet | apply Fin.thenExit | apply Fin.blockNormal | apply Fin.blockRet | apply Fin.blockExit) | (with_reducible apply Fin.thenK; assumption) | (with_reducible apply C.seqR; intro _ _) | (with_reducible apply C.regionK; intro _ _) | (with_reducible apply Fin.blockOther; exact rfl)) | (first | (apply R.store; exact rfl; exact rfl; exact rfl; (exact a_at); (exact a_blit); exact rfl; (focus (simp [Value.oneCell']; done))) | (apply R.buildSlice0; exact rfl; intro bz) | (apply R.box; exact rfl; (simp only [Value.cells]; rfl); exact rfl; intro bx) | (apply R.alloc; (simp only [Value.cells]; rfl); exact rfl; intro ba) | (apply R.buildSlice; (exact a_prt); exact rfl; exact rfl; (exact a_fills); exact rfl; intro bl)) | (first | (apply R.guardT; assumption; exact rfl; exact rfl; exact rfl) | (apply R.guardF; assumption; exact rfl; exact rfl; exact rfl; exact rfl; exact rfl) | (apply R.guardU; assumption; exact rfl; exact rfl; exact rfl; exact rfl) | (apply R.guardDec; assumption; exact rfl; exact rfl; (intro h; skip; rotate_left; intro h; skip; rotate_left)) | (apply R.guardBeq; assumption; exact rfl; exact rfl; (intro h; skip; rotate_left; intro h; skip; rotate_left)) | (apply R.guardBne; assumption; exact rfl; exact rfl; (intro h; skip; rotate_left; intro h; skip; rotate_left)) | (apply R.guardNDec; assumption; exact rfl; exact rfl; (intro h; skip; rotate_left; intro h; skip; rotate_left)) | (apply R.guardNot; assumption; exact rfl; exact rfl; (intro h; skip; rotate_left; intro h; skip; rotate_left)) | (apply R.guardC; assumption; exact rfl; exact rfl; (intro h; skip; rotate_left; intro h; skip; rotate_left)))))
    have hno : d.ps.length ≤ i → crashF d keep torn = (d.ps.take i).foldl doF d.S := fun h => by
      unfold crashF
      rw [← hk, List.getElem?_eq_none h]
    have hyes : ∀ (h : i < d.ps.length), crashF d keep torn = tornF ((d.ps.take i).foldl doF d.S) d.ps[i] torn := fun h => by
      unfold crashF
      rw [← hk, List.getElem?_eq_getElem h]
    have hcs : sumF (crashF d keep torn) ≤ 1048576 := by
      by_cases hip : i < d.ps.length
      · rw [hyes hip]
        exact torn_sum hnp hpre (hok.2.2.2.at hip)
      · rw [hno (by omega)]
        exact hpre
    apply C.seqCut (X := CrY) (fun y => M1.le y.M ∧ FsO y.M y.so (crashF d keep torn)) (fun _ => [(0, .pointer (some ⟨db, 0, none⟩)), (7, .int .i64 (i : Int))]) (fun y => y.M) (fun y => (db, .cells [.int .i64 d.room, .map (some sb), .map (some sb), .slice A1 d.ps.length c1, .int .i64 d.fuse, .bool d.down].toArray 59 (0, 0)) :: (sb, y.so) :: H)
    · by_cases hip : i < d.ps.length
      · rw [hyes hip]
        have hfit := hok.2.2.2.at hip
        obtain ⟨b0, o0, cc, e0, f0, dc, rfl, hMb, hdc, hcell⟩ := (h4.mono hM2).at hip
        have hcell2 : ∀ (q : Nat) u, dc[q]? = some u → cc[o0 + ((i : Nat) : Int).toNat * 5 + q]? = some u := fun q u hq => hcell q u hq
        clear hcell hyes hno hcs
        generalize d.ps[i] = x at hdc hfit ⊢
        cases x with
        | trc n kk =>
          have hc5 := hdc.cells.2
          subst hdc
          (repeat' (first | refine a_go ?_ | (with_reducible apply Fin.thenK; assumption) | (with_reducible (first | apply C.seqK | apply C.regionK); intro _ _) | (apply R.buildSlice0; exact rfl; intro bz) | (apply R.box; exact rfl; (simp only [Value.cells]; rfl); exact rfl; intro bx) | (apply R.alloc; (simp only [Value.cells]; rfl); exact rfl; intro ba) | (apply R.buildSlice; (exact a_prt); exact rfl; exact rfl; (exact a_fills); exact rfl; intro bl) | (refine a_sp ?_ ?_; (intro h; skip; rotate_left; intro h; skip; rotate_left)) | fail))
          · (apply R.store (vs := [.int .i64 1, str n, str [], .slice none 0 0, .int .i64 ↑kk]); exact rfl; exact rfl; exact rfl; (exact a_at); (exact a_blit); exact rfl; exact hc5)
            (repeat' (first | refine a_go ?_ | (with_reducible apply Fin.thenK; assumption) | (with_reducible (first | apply C.seqK | apply C.regionK); intro _ _) | (apply R.buildSlice0; exact rfl; intro bz) | (apply R.box; exact rfl; (simp only [Value.cells]; rfl); exact rfl; intro bx) | (apply R.alloc; (simp only [Value.cells]; rfl); exact rfl; intro ba) | (apply R.buildSlice; (exact a_prt); exact rfl; exact rfl; (exact a_fills); exact rfl; intro bl) | (refine a_sp ?_ ?_; (intro h; skip; rotate_left; intro h; skip; rotate_left)) | fail))
            apply Fin.arr (H2 := (db, .cells [.int .i64 d.room, .map (some sb), .map (some sb), .slice (some ⟨b0, o0, none⟩) d.ps.length c1, .int .i64 d.fuse, .bool d.down].toArray 59 (0, 0)) :: (sb, so1) :: H) (by (exact a_arrs))
            refine Fin.join (⟨so1, M2⟩ : CrY) ⟨hM2, hf⟩ ?_ rfl rfl
            (exact a_subs)
          all_goals (exfalso; omega)
        | ren n t =>
          have hc5 := hdc.cells.2
          subst hdc
          (repeat' (first | refine a_go ?_ | (with_reducible apply Fin.thenK; assumption) | (with_reducible (first | apply C.seqK | apply C.regionK); intro _ _) | (apply R.buildSlice0; exact rfl; intro bz) | (apply R.box; exact rfl; (simp only [Value.cells]; rfl); exact rfl; intro bx) | (apply R.alloc; (simp only [Value.cells]; rfl); exact rfl; intro ba) | (apply R.buildSlice; (exact a_prt); exact rfl; exact rfl; (exact a_fills); exact rfl; intro bl) | (refine a_sp ?_ ?_; (intro h; skip; rotate_left; intro h; skip; rotate_left)) | fail))
          · (apply R.store (vs := [.int .i64 2, str n, str t, .slice none 0 0, .int .i64 0]); exact rfl; exact rfl; exact rfl; (exact a_at); (exact a_blit); exact rfl; exact hc5)
            (repeat' (first | refine a_go ?_ | (with_reducible apply Fin.thenK; assumption) | (with_reducible (first | apply C.seqK | apply C.regionK); intro _ _) | (apply R.buildSlice0; exact rfl; intro bz) | (apply R.box; exact rfl; (simp only [Value.cells]; rfl); exact rfl; intro bx) | (apply R.alloc; (simp only [Value.cells]; rfl); exact rfl; intro ba) | (apply R.buildSlice; (exact a_prt); exact rfl; exact rfl; (exact a_fills); exact rfl; intro bl) | (refine a_sp ?_ ?_; (intro h; skip; rotate_left; intro h; skip; rotate_left)) | fail))
            apply Fin.arr (H2 := (db, .cells [.int .i64 d.room, .map (some sb), .map (some sb), .slice (some ⟨b0, o0, none⟩) d.ps.length c1, .int .i64 d.fuse, .bool d.down].toArray 59 (0, 0)) :: (sb, so1) :: H) (by (exact a_arrs))
            refine Fin.join (⟨so1, M2⟩ : CrY) ⟨hM2, hf⟩ ?_ rfl rfl
            (exact a_subs)
          all_goals (exfalso; omega)
        | rem n =>
          have hc5 := hdc.cells.2
          subst hdc
          (repeat' (first | refine a_go ?_ | (with_reducible apply Fin.thenK; assumption) | (with_reducible (first | apply C.seqK | apply C.regionK); intro _ _) | (apply R.buildSlice0; exact rfl; intro bz) | (apply R.box; exact rfl; (simp only [Value.cells]; rfl); exact rfl; intro bx) | (apply R.alloc; (simp only [Value.cells]; rfl); exact rfl; intro ba) | (apply R.buildSlice; (exact a_prt); exact rfl; exact rfl; (exact a_fills); exact rfl; intro bl) | (refine a_sp ?_ ?_; (intro h; skip; rotate_left; intro h; skip; rotate_left)) | fail))
          · (apply R.store (vs := [.int .i64 3, str n, str [], .slice none 0 0, .int .i64 0]); exact rfl; exact rfl; exact rfl; (exact a_at); (exact a_blit); exact rfl; exact hc5)
            (repeat' (first | refine a_go ?_ | (with_reducible apply Fin.thenK; assumption) | (with_reducible (first | apply C.seqK | apply C.regionK); intro _ _) | (apply R.buildSlice0; exact rfl; intro bz) | (apply R.box; exact rfl; (simp only [Value.cells]; rfl); exact rfl; intro bx) | (apply R.alloc; (simp only [Value.cells]; rfl); exact rfl; intro ba) | (apply R.buildSlice; (exact a_prt); exact rfl; exact rfl; (exact a_fills); exact rfl; intro bl) | (refine a_sp ?_ ?_; (intro h; skip; rotate_left; intro h; skip; rotate_left)) | fail))
            apply Fin.arr (H2 := (db, .cells [.int .i64 d.room, .map (some sb), .map (some sb), .slice (some ⟨b0, o0, none⟩) d.ps.length c1, .int .i64 d.fuse, .bool d.down].toArray 59 (0, 0)) :: (sb, so1) :: H) (by (exact a_arrs))
            refine Fin.join (⟨so1, M2⟩ : CrY) ⟨hM2, hf⟩ ?_ rfl rfl
            (exact a_subs)
          all_goals (exfalso; omega)
        | app n b =>
          have hc5 := hdc.cells.2
          obtain ⟨bb, rfl, hbv⟩ := hdc
          obtain ⟨A2, c2, rfl, hb1, hb2, hb3⟩ := id hbv
          have hbl : b.length ≤ 1048576 := by
            have h1 : fileD (doF ((d.ps.take i).foldl doF d.S) (.app n b)) n = fileD ((d.ps.take i).foldl doF d.S) n ++ b := fileD_put hnp
            have h2 : (fileD (doF ((d.ps.take i).foldl doF d.S) (.app n b)) n).length ≤ 1048576 := Nat.le_trans fileD_len hfit.1
            rw [h1, List.length_append] at h2
            omega
          (repeat' (first | refine a_go ?_ | (with_reducible apply Fin.thenK; assumption) | (with_reducible (first | apply C.seqK | apply C.regionK); intro _ _) | (apply R.buildSlice0; exact rfl; intro bz) | (apply R.box; exact rfl; (simp only [Value.cells]; rfl); exact rfl; intro bx) | (apply R.alloc; (simp only [Value.cells]; rfl); exact rfl; intro ba) | (apply R.buildSlice; (exact a_prt); exact rfl; exact rfl; (exact a_fills); exact rfl; intro bl) | (refine a_sp ?_ ?_; (intro h; skip; rotate_left; intro h; skip; rotate_left)) | fail))
          · (apply R.store (vs := [.int .i64 0, str n, str [], .slice A2 b.length c2, .int .i64 0]); exact rfl; exact rfl; exact rfl; (exact a_at); (exact a_blit); exact rfl; exact hc5)
            (repeat' (first | refine a_go ?_ | (with_reducible apply Fin.thenK; assumption) | (with_reducible (first | apply C.seqK | apply C.regionK); intro _ _) | (apply R.buildSlice0; exact rfl; intro bz) | (apply R.box; exact rfl; (simp only [Value.cells]; rfl); exact rfl; intro bx) | (apply R.alloc; (simp only [Value.cells]; rfl); exact rfl; intro ba) | (apply R.buildSlice; (exact a_prt); exact rfl; exact rfl; (exact a_fills); exact rfl; intro bl) | (refine a_sp ?_ ?_; (intro h; skip; rotate_left; intro h; skip; rotate_left)) | fail))
            · have hb0 : 0 < b.length := by
                have h : (0 : Int) < (b.length : Int) := by assumption
                omega
              have ht0 : 0 ≤ torn % (b.length : Int) := Int.emod_nonneg _ (by omega)
              have ht1 : torn % (b.length : Int) < (b.length : Int) := Int.emod_lt_of_pos _ (by omega)
              obtain ⟨tn, htn⟩ : ∃ tn : Nat, torn % (b.length : Int) = (tn : Int) := ⟨_, (Int.toNat_of_nonneg ht0).symm⟩
              (apply C.regionE (isA := [0, 1, 2, 3, 4, 5, 6, 7]) (ksA := [true, true, true, true, true, true, false, true]) (isB := [8, 9]) (ksB := [1, 0]) (Hs := [(ba, .cells [.int .i64 0, str n, str [], .slice A2 b.length c2, .int .i64 0].toArray 86 (0, 0))]); exact Mix.h; (first | exact Arr.all _ | (exact a_arr)); (exact a_np); (exact a_picked); (exact a_picked); kernel_rfl; intro _ e; subst e)
              (repeat' (first | fail | (apply RQ.step; intro _ _ _; (exact a_ok); exact rfl) | (apply RQ.stepT; exact rfl; exact rfl; exact rfl; intro _ _ _; (exact a_ok); exact rfl) | (apply RQ.stepF; exact rfl; exact rfl; exact rfl; exact rfl; exact rfl)))
              (apply RQ.eff; intro Kc hKc ops0)
              (apply R.call; (exact a_evs); exact rfl); exact within_K torn (b.length : Int) (by omega) (by omega); rintro _ M2 _ ⟨rfl, rfl, rfl⟩
              (apply R.nil; apply Fin.kq hKc; exact Mem.le_refl _; (exact a_arr))
              rw [htn]
              (repeat' (first | (apply RQ.step; intro _ _ _; (apply Ok.sliceHi; exact rfl; exact rfl; omega; omega); exact rfl) | (apply RQ.step; intro _ _ _; (exact a_ok); exact rfl) | (apply RQ.stepT; exact rfl; exact rfl; exact rfl; intro _ _ _; (exact a_ok); exact rfl) | (apply RQ.stepF; exact rfl; exact rfl; exact rfl; exact rfl; exact rfl)))
              apply RQ.nil
              (repeat' (first | (first | (apply RP.step; intro _ _ _; (exact a_ok); exact rfl) | (apply RP.stepT; exact rfl; exact rfl; exact rfl; intro _ _ _; (exact a_ok); exact rfl) | (apply RP.stepF; exact rfl; exact rfl; exact rfl; exact rfl; exact rfl) | (apply RP.effF; exact rfl; exact rfl; exact rfl; exact rfl; exact rfl)) | (apply RP.callQ; (exact a_evs); exact rfl)))
              (apply RP.eff; intro Kc hKc ops0)
              (apply R.store (vs := [.slice A2 ((tn : Int)).toNat c2]); exact rfl; exact rfl; exact rfl; (exact a_at); (exact a_blit); exact rfl; (intro u hu; rw [List.mem_singleton] at hu; rw [hu]; rfl))
              (apply R.nil; apply Fin.kp hKc; exact Mem.le_refl _; (exact a_arr))
              (first | apply RP.nil0 | apply RP.nil)
              have htl : (b.take tn).length = ((tn : Int)).toNat := by rw [List.length_take]; omega
              have hb4 : PlB M2 (.slice A2 ((tn : Int)).toNat c2) (b.take tn) := ⟨A2, c2, by rw [htl], by omega, hb2, by rw [List.map_take]; exact hb3.take tn⟩
              (repeat' (first | refine a_go ?_ | (with_reducible apply Fin.thenK; assumption) | (with_reducible (first | apply C.seqK | apply C.regionK); intro _ _) | (apply R.buildSlice0; exact rfl; intro bz) | (apply R.box; exact rfl; (simp only [Value.cells]; rfl); exact rfl; intro bx) | (apply R.alloc; (simp only [Value.cells]; rfl); exact rfl; intro ba) | (apply R.buildSlice; (exact a_prt); exact rfl; exact rfl; (exact a_fills); exact rfl; intro bl) | (refine a_sp ?_ ?_; (intro h; skip; rotate_left; intro h; skip; rotate_left)) | fail))
              · have hpos : 0 < tn := by
                  have h : (0 : Int) < (((tn : Int)).toNat : Int) := by assumption
                  omega
                have hE : tornF ((d.ps.take i).foldl doF d.S) (.app n b) torn = doF ((d.ps.take i).foldl doF d.S) (.app n (b.take tn)) := by
                  unfold tornF
                  dsimp only
                  rw [htn]
                  exact if_pos ⟨hb0, hpos⟩
                rw [hE]
                apply C.arr (H2 := (ba, .cells [.int .i64 0, str n, str [], .slice A2 ((tn : Int)).toNat c2, .int .i64 0].toArray 86 (0, 0)) :: (db, .cells [.int .i64 d.room, .map (some sb), .map (some sb), .slice (some ⟨b0, o0, none⟩) d.ps.length c1, .int .i64 d.fuse, .bool d.down].toArray 59 (0, 0)) :: (sb, so1) :: H) (by (exact a_arrs))
                (apply C.regionO (ks := [1, 1, 1, 1, 1, 0]) (is := [0, 1, 2, 3, 4, 5]) (Hs := [(ba, .cells [.int .i64 0, str n, str [], .slice A2 (Int.toNat ↑tn) c2, .int .i64 0].toArray 86 (0, 0)), (db, .cells [.int .i64 d.room, .map (some sb), .map (some sb), .slice (some ⟨b0, o0, none⟩) d.ps.length c1, .int .i64 d.fuse, .bool d.down].toArray 59 (0, 0))]); exact Mix.h; (first | exact Arr.all _ | (exact a_arr)); (exact a_np); (exact a_picked); kernel_rfl; intro _ e; subst e)
                (repeat' (first | (first | (apply RP.step; intro _ _ _; (exact a_ok); exact rfl) | (apply RP.stepT; exact rfl; exact rfl; exact rfl; intro _ _ _; (exact a_ok); exact rfl) | (apply RP.stepF; exact rfl; exact rfl; exact rfl; exact rfl; exact rfl) | (apply RP.effF; exact rfl; exact rfl; exact rfl; exact rfl; exact rfl)) | (apply RP.callQ; (exact a_evs); exact rfl)))
                (apply RP.eff; intro Kc hKc ops0)
                (apply R.call; (exact a_evs); exact rfl; (apply K.arr (h := does_K (nb := sb) (x := .app n (b.take tn)) hf ⟨_, rfl, hb4⟩ (torn_fit hnp hfit tn))); (exact a_art); rintro _ M3 _ ⟨rfl, hM3, so2, hf3, rfl⟩)
                (apply R.nil; apply Fin.kpB (E := []) hKc; exact hM3; (exact a_art))
                (first | apply RP.nil0 | apply RP.nil)
                (repeat' (first | refine a_go ?_ | (with_reducible apply Fin.thenK; assumption) | (with_reducible (first | apply C.seqK | apply C.regionK); intro _ _) | (apply R.buildSlice0; exact rfl; intro bz) | (apply R.box; exact rfl; (simp only [Value.cells]; rfl); exact rfl; intro bx) | (apply R.alloc; (simp only [Value.cells]; rfl); exact rfl; intro ba) | (apply R.buildSlice; (exact a_prt); exact rfl; exact rfl; (exact a_fills); exact rfl; intro bl) | (refine a_sp ?_ ?_; (intro h; skip; rotate_left; intro h; skip; rotate_left)) | fail))
                apply Fin.arr (H2 := (db, .cells [.int .i64 d.room, .map (some sb), .map (some sb), .slice (some ⟨b0, o0, none⟩) d.ps.length c1, .int .i64 d.fuse, .bool d.down].toArray 59 (0, 0)) :: (sb, so2) :: H) (by (exact a_arrs))
                refine Fin.join (⟨so2, M3⟩ : CrY) ⟨hM2.trans_ hM3, hf3⟩ ?_ rfl rfl
                (exact a_subs)
              · have hz : tn = 0 := by
                  have h : ¬ (0 : Int) < (((tn : Int)).toNat : Int) := by assumption
                  omega
                have hE : tornF ((d.ps.take i).foldl doF d.S) (.app n b) torn = (d.ps.take i).foldl doF d.S := by
                  unfold tornF
                  dsimp only
                  rw [htn]
                  exact if_neg (fun h => by have := h.2; omega)
                rw [hE]
                apply Fin.arr (H2 := (db, .cells [.int .i64 d.room, .map (some sb), .map (some sb), .slice (some ⟨b0, o0, none⟩) d.ps.length c1, .int .i64 d.fuse, .bool d.down].toArray 59 (0, 0)) :: (sb, so1) :: H) (by (exact a_arrs))
                refine Fin.join (⟨so1, M2⟩ : CrY) ⟨hM2, hf⟩ ?_ rfl rfl
                (exact a_subs)
            · have hz : ¬ 0 < b.length := by
                have h : ¬ (0 : Int) < (b.length : Int) := by assumption
                omega
              have hE : tornF ((d.ps.take i).foldl doF d.S) (.app n b) torn = (d.ps.take i).foldl doF d.S := if_neg (fun h => hz h.1)
              rw [hE]
              apply Fin.arr (H2 := (db, .cells [.int .i64 d.room, .map (some sb), .map (some sb), .slice (some ⟨b0, o0, none⟩) d.ps.length c1, .int .i64 d.fuse, .bool d.down].toArray 59 (0, 0)) :: (sb, so1) :: H) (by (exact a_arrs))
              refine Fin.join (⟨so1, M2⟩ : CrY) ⟨hM2, hf⟩ ?_ rfl rfl
              (exact a_subs)
          all_goals (exfalso; omega)
      · rw [hno (by omega)]
        (repeat' (first | refine a_go ?_ | (with_reducible apply Fin.thenK; assumption) | (with_reducible (first | apply C.seqK | apply C.regionK); intro _ _) | (apply R.buildSlice0; exact rfl; intro bz) | (apply R.box; exact rfl; (simp only [Value.cells]; rfl); exact rfl; intro bx) | (apply R.alloc; (simp only [Value.cells]; rfl); exact rfl; intro ba) | (apply R.buildSlice; (exact a_prt); exact rfl; exact rfl; (exact a_fills); exact rfl; intro bl) | (refine a_sp ?_ ?_; (intro h; skip; rotate_left; intro h; skip; rotate_left)) | fail))
        · exfalso; omega
        · refine Fin.join (⟨so1, M2⟩ : CrY) ⟨hM2, hf⟩ ?_ rfl rfl
          (exact a_subs)
    · rintro ⟨so2, M3⟩ ⟨hM3, hf3⟩
      dsimp only at hM3 hf3 ⊢
      (repeat' (first | refine a_go ?_ | (with_reducible apply Fin.thenK; assumption) | (with_reducible (first | apply C.seqK | apply C.regionK); intro _ _) | (apply R.buildSlice0; exact rfl; intro bz) | (apply R.box; exact rfl; (simp only [Value.cells]; rfl); exact rfl; intro bx) | (apply R.alloc; (simp only [Value.cells]; rfl); exact rfl; intro ba) | (apply R.buildSlice; (exact a_prt); exact rfl; exact rfl; (exact a_fills); exact rfl; intro bl) | (refine a_sp ?_ ?_; (intro h; skip; rotate_left; intro h; skip; rotate_left)) | fail))
      (apply R.call; (exact a_evs); exact rfl; (apply K.arr (h := settle_K (db := db) (sb := sb) (nb := sb) (room := d.room) (fuse := d.fuse) (down := d.down) (pv := .slice A1 d.ps.length c1) (H := H) hf3)); (exact a_arrs); rintro _ M3 _ ⟨rfl, rfl, sb', so', f1, rfl⟩)
      (repeat' (first | refine a_go ?_ | (with_reducible apply Fin.thenK; assumption) | (with_reducible (first | apply C.seqK | apply C.regionK); intro _ _) | (apply R.buildSlice0; exact rfl; intro bz) | (apply R.box; exact rfl; (simp only [Value.cells]; rfl); exact rfl; intro bx) | (apply R.alloc; (simp only [Value.cells]; rfl); exact rfl; intro ba) | (apply R.buildSlice; (exact a_prt); exact rfl; exact rfl; (exact a_fills); exact rfl; intro bl) | (refine a_sp ?_ ?_; (intro h; skip; rotate_left; intro h; skip; rotate_left)) | fail))
      (apply Fin.returnA (H2 := (db, dkB d.room sb' sb (.slice none 0 0) (-1) false) :: (sb, so2) :: (sb', so') :: H); assumption; (first | exact .inl rfl | exact .inr rfl); exact rfl; (exact a_res); (simp only [retv]; rfl); (exact a_arr))
      exact ⟨by rw [hk], hM1.trans_ hM3, (db, dkB d.room sb' sb (.slice none 0 0) (-1) false) :: (sb, so2) :: (sb', so') :: [], ⟨⟨hok.1, ⟨Int.le_refl _, show (-1 : Int) ≤ 4611686018427387904 by decide⟩, hcs, trivial⟩, sb', sb, so', so2, .slice none 0 0, [], f1, hf3, RowD.nil, rfl⟩, rfl⟩
end Go.Sx
end
section
namespace Go.Sx
open Go.RowKit Go.Sort Go.Proofs
def sortT (ss : List Txt) : List Txt := ss.mergeSort (fun x y => decide (x ≤ y))
theorem sortT_nil : sortT [] = [] := by
  unfold sortT
  simp
theorem sortT_perm (ss : List Txt) : (sortT ss).Perm ss := List.mergeSort_perm ..
theorem sortT_of_perm {l l' : List Txt} (h : l.Perm l') : sortT l = sortT l' := mergeSort_of_perm h
theorem sortT_len (ss : List Txt) : (sortT ss).length = ss.length := (sortT_perm ss).length_eq
def SortC (P : Program) (f : Nat) : Prop := (∀ (blk off cap : Nat) (ss : List (List UInt8)) (w : World), Holds encStr w blk off ss.toArray → blk < w.heap.size → ss.length < 4611686018427387904 →
    Calls P f #[.slice (some ⟨blk, off, none⟩) ss.length cap] w fun e w' => e = .returned (.tuple #[]) ∧ ∃ n os, w' = grow (putRow encStr (Sort.ahead w n) blk off (ss.mergeSort fun x y => decide (x ≤ y)).toArray) os) ∧
  ∀ (p : Option Addr) (cap : Nat) (w : World), Calls P f #[.slice p 0 cap] w fun e w' => e = .returned (.tuple #[]) ∧ w' = w
section
variable {P : Program} {f : Nat} {M : Mem} {H hp : Hp} {w : World}
theorem putCells_take (c : Array Value) (ss : List Txt) (h : ss.length ≤ c.size) : (putCells encStr 0 ss.toArray c).size = c.size ∧ (putCells encStr 0 ss.toArray c).toList.take ss.length = ss.map str := by
  refine ⟨by simp [putCells], ?_⟩
  apply List.ext_getElem?
  intro j
  rw [List.getElem?_take, List.getElem?_map, Array.getElem?_toList]
  by_cases hj : j < ss.length
  · rw [if_pos hj]
    unfold putCells
    rw [Array.getElem?_mapIdx, Array.getElem?_eq_getElem (by omega)]
    simp [hj, str, encStr]
  · rw [if_neg hj, List.getElem?_eq_none (by omega)]
    rfl
theorem Heap.grown_ {os : Array Obj} (h : Heap w M H) : Heap (grow w os) M H := by
  have hp : ∀ (b : Nat) (o : Obj), w.heap[b]? = some o → (grow w os).heap[b]? = some o := fun b o hb => by
    unfold grow
    show (w.heap ++ os)[b]? = _
    rw [Array.getElem?_append_left (heap_lt hb)]
    exact hb
  exact ⟨h.os, h.out, fun b o hb => hp b o (h.pool b o hb), fun p hm => hp _ _ (h.own p hm), h.apart, h.nodup⟩
theorem K.sortT {e : Nat} {v : Value} {ss : List Txt} (hc : SortC P f) (ho : Own e 1 v ss.length (ss.map str) hp) (hl : ss.length < 4611686018427387904) :
    K P f [v] M (hp ++ H) fun v' M' H' => v' = .tuple #[] ∧ M' = M ∧ ∃ hp', Own e 1 v ss.length ((sortT ss).map str) hp' ∧ H' = hp' ++ H := by
  intro w hh
  obtain ⟨_, ⟨rfl, hz, rfl⟩ | ⟨b, cap, c, rfl, rfl, c1, c2, c3, c4⟩⟩ := id ho
  · have he : ss = [] := List.eq_nil_of_length_eq_zero hz
    refine (hc.2 none 0 w).mono ?_
    rintro _ _ ⟨rfl, rfl⟩
    refine ⟨_, M, H, rfl, ⟨rfl, rfl, [], ?_, rfl⟩, hh⟩
    subst he
    rw [sortT_nil]
    exact Own.nil _ _
  · have hb : w.heap[b]? = some (.cells c e (0, 0)) := hh.own _ (List.mem_cons_self ..)
    rw [Nat.mul_one] at c3 c4
    refine (hc.1 b 0 cap ss w ?_ (heap_lt hb) hl).mono ?_
    · intro j hj
      have hj' : j < ss.length := by simpa using hj
      have h1 : c[j]? = some (str ss[j]) := by
        have := congrArg (·[j]?) c4
        simp only [List.getElem?_take, hj', if_true, List.getElem?_map, List.getElem?_eq_getElem hj', Option.map_some, Array.getElem?_toList] at this
        exact this
      constructor
      · simp [World.cell?, hb, h1, str, encStr, hj']
      · simp [World.frozen?, hb]
    · rintro _ _ ⟨rfl, n, os, rfl⟩
      have hl2 : (Go.Sx.sortT ss).length = ss.length := sortT_len ss
      obtain ⟨p1, p2⟩ := putCells_take c (Go.Sx.sortT ss) (by omega)
      refine ⟨_, M, [(b, .cells (putCells encStr 0 (Go.Sx.sortT ss).toArray c) e (0, 0))] ++ H, rfl, ⟨rfl, rfl, _, ⟨by rw [List.length_map, hl2, Nat.mul_one], .inr ⟨b, cap, _, rfl, rfl, c1, c2, by rw [p1, c3, Nat.mul_one], by rw [Nat.mul_one, ← hl2]; exact p2⟩⟩, rfl⟩, ?_⟩
      refine Heap.grown_ ?_
      have ha : At ((b, Obj.cells c e (0, 0)) :: H) b (.cells c e (0, 0)) (fun o' => (b, o') :: H) := At.head _ _ _
      refine hh.put ha ?_ ?_ rfl rfl
      · show ((Sort.ahead w n).heap.modify b _)[b]? = _
        rw [Array.getElem?_modify, if_pos rfl]
        show (w.heap[b]?).map _ = _
        rw [hb]
        rfl
      · intro k hk
        show ((Sort.ahead w n).heap.modify b _)[k]? = _
        rw [Array.getElem?_modify, if_neg (Ne.symm hk)]
        rfl
end
end Go.Sx
end
section
namespace Go.Proofs
open Go.Shelf
def Try.lays190_ren : Go.Shelf.Ren := ⟨fun | 190 => 38 | 125 => 64 | 258 => 63 | 128 => 83 | 129 => 84 | 302 => 74 | 303 => 75 | 304 => 76 | 305 => 77 | 306 => 78 | 307 => 79 | 308 => 80 | 309 => 81 | 310 => 82 | 333 => 88 | 329 => 89 | 330 => 90 | 334 => 91 | 335 => 92 | 336 => 93 | 344 => 94 | n => n, fun | 31 => 35 | 9 => 9 | 3 => 3 | 46 => 83 | 0 => 0 | 51 => 103 | 53 => 31 | 4 => 4 | 183 => 121 | 182 => 120 | 131 => 126 | 5 => 5 | 218 => 135 | 222 => 138 | 228 => 140 | 229 => 141 | n => n, fun | n => n⟩
theorem Try.lays190 : Go.Proofs.Lays.n190 Try.prog Try.lays190_ren := {
  mixed := by kernel_rfl
  f125 := Try.func64.trans (congrArg some (by kernel_rfl))
  f128 := Try.func83.trans (congrArg some (by kernel_rfl))
  f129 := Try.func84.trans (congrArg some (by kernel_rfl))
  f190 := Try.func38.trans (congrArg some (by kernel_rfl))
  f258 := Try.func63.trans (congrArg some (by kernel_rfl))
  f302 := Try.func74.trans (congrArg some (by kernel_rfl))
  f303 := Try.func75.trans (congrArg some (by kernel_rfl))
  f304 := Try.func76.trans (congrArg some (by kernel_rfl))
  f305 := Try.func77.trans (congrArg some (by kernel_rfl))
  f306 := Try.func78.trans (congrArg some (by kernel_rfl))
  f307 := Try.func79.trans (congrArg some (by kernel_rfl))
  f308 := Try.func80.trans (congrArg some (by kernel_rfl))
  f309 := Try.func81.trans (congrArg some (by kernel_rfl))
  f310 := Try.func82.trans (congrArg some (by kernel_rfl))
  f329 := Try.func89.trans (congrArg some (by kernel_rfl))
  f330 := Try.func90.trans (congrArg some (by kernel_rfl))
  f333 := Try.func88.trans (congrArg some (by kernel_rfl))
  f334 := Try.func91.trans (congrArg some (by kernel_rfl))
  f335 := Try.func92.trans (congrArg some (by kernel_rfl))
  f336 := Try.func93.trans (congrArg some (by kernel_rfl))
  f344 := Try.func94.trans (congrArg some (by kernel_rfl))
  t0 := Try.underlying0
  a0 := Try.isAgg0
  z0 := Try.sizeOf0
  v0 := Try.zeroValue0
  t3 := Try.underlying3
  a3 := Try.isAgg3
  z3 := Try.sizeOf3
  v3 := Try.zeroValue3
  t4 := Try.underlying4
  a4 := Try.isAgg4
  z4 := Try.sizeOf4
  v4 := Try.zeroValue4
  t5 := Try.underlying5
  a5 := Try.isAgg5
  z5 := Try.sizeOf5
  v5 := Try.zeroValue5
  t9 := Try.underlying9
  a9 := Try.isAgg9
  z9 := Try.sizeOf9
  v9 := Try.zeroValue9
  t31 := Try.underlying35
  a31 := Try.isAgg35
  z31 := Try.sizeOf35
  v31 := Try.zeroValue35
  t46 := Try.underlying83
  a46 := Try.isAgg83
  z46 := Try.sizeOf83
  v46 := Try.zeroValue83
  t51 := Try.underlying103
  a51 := Try.isAgg103
  z51 := Try.sizeOf103
  v51 := Try.zeroValue103
  t53 := Try.underlying31
  a53 := Try.isAgg31
  z53 := Try.sizeOf31
  v53 := Try.zeroValue31
  t131 := Try.underlying126
  a131 := Try.isAgg126
  z131 := Try.sizeOf126
  v131 := Try.zeroValue126
  t182 := Try.underlying120
  a182 := Try.isAgg120
  z182 := Try.sizeOf120
  v182 := Try.zeroValue120
  t183 := Try.underlying121
  a183 := Try.isAgg121
  z183 := Try.sizeOf121
  v183 := Try.zeroValue121
  t218 := Try.underlying135
  a218 := Try.isAgg135
  z218 := Try.sizeOf135
  v218 := Try.zeroValue135
  t222 := Try.underlying138
  a222 := Try.isAgg138
  z222 := Try.sizeOf138
  v222 := Try.zeroValue138
  t228 := Try.underlying140
  a228 := Try.isAgg140
  z228 := Try.sizeOf140
  v228 := Try.zeroValue140
  t229 := Try.underlying141
  a229 := Try.isAgg141
  z229 := Try.sizeOf141
  v229 := Try.zeroValue141 }
open Go.Sort Go.RowKit in
theorem Try.slices_Sort_string (blk off cap : Nat) (ss : List (List UInt8)) (w : World) (hH : Holds encStr w blk off ss.toArray) (hblk : blk < w.heap.size) (hsz : ss.length < 4611686018427387904) :
    Calls Try.prog 38 #[.slice (some ⟨blk, off, none⟩) ss.length cap] w fun e w' =>
      e = .returned (.tuple #[]) ∧ ∃ n os, w' = grow (putRow encStr (Sort.ahead w n) blk off (ss.mergeSort fun x y => decide (x ≤ y)).toArray) os := Any.slices_Sort_string Try.lays190 blk off cap ss w hH hblk hsz
open Go.RowKit Go.Sort in
theorem Try.slices_Sort_string_none (p : Option Addr) (cap : Nat) (w : World) :
    Calls Try.prog 38 #[.slice p 0 cap] w fun e w' => e = .returned (.tuple #[]) ∧ w' = w := Any.slices_Sort_string_none Try.lays190 p cap w
end Go.Proofs
end
section
namespace Go.Sx
open Go Go.Proofs Go.RowKit
attribute [local irreducible] C R Fin K Own OwnT Rd Pl Ok KOf RetOk OpsOf RP KP Res NoPanic KV KE MapS ItS EntS FsO FsR RowD PlD
variable {M M' : Mem} {H H1 H2 : Hp}
def namesD (down : Bool) (F : Fs) : List Txt := if down then [] else sortT (keyS F)
theorem sort_K {v : Value} {ss : List Txt} {hp : Hp} (ho : Own 9 1 v ss.length (ss.map str) hp) (hl : ss.length ≤ 1000000) : K Try.prog 38 [v] M (hp ++ H) fun v' M' H' => v' = .tuple #[] ∧ M' = M ∧ ∃ hp', Own 9 1 v ss.length ((sortT ss).map str) hp' ∧ H' = hp' ++ H :=
  K.sortT (P := Try.prog) ⟨Try.slices_Sort_string, Try.slices_Sort_string_none⟩ ho (by omega)
structure NmX where
  ns : List Txt
  v : Value
  hv : Hp
  oi : Obj
  rest : ML
  G : Fs
theorem names_K {db sb nb : Nat} {room fuse : Int} {pv : Value} {down : Bool} {no : Obj} {F : Fs} (hf : FsO M no F) (hl : F.length ≤ 1000000) : K Try.prog 12 [.pointer (some ⟨db, 0, none⟩)] M ((db, dkB room sb nb pv fuse down) :: (nb, no) :: H) fun v' M' H' => M' = M ∧ ∃ hn, Own 9 1 v' (namesD down F).length ((namesD down F).map str) hn ∧ H' = hn ++ ((db, dkB room sb nb pv fuse down) :: (nb, no) :: H) := by
  obtain ⟨l, hm, hr, hn⟩ := hf.use
  clear hf
  refine K.enterK Try.func12 rfl rfl rfl ?_
  intro Q hNP hQ
  unfold dkB at hQ ⊢
  (repeat' (first | refine a_go ?_ | (with_reducible apply Fin.thenK; assumption) | (with_reducible (first | apply C.seqK | apply C.regionK); intro _ _) | (apply R.buildSlice0; exact rfl; intro bz) | (apply R.box; exact rfl; (simp only [Value.cells]; rfl); exact rfl; intro bx) | (apply R.alloc; (simp only [Value.cells]; rfl); exact rfl; intro ba) | (apply R.buildSlice; (exact a_prt); exact rfl; exact rfl; (exact a_fills); exact rfl; intro bl) | (refine a_sp ?_ ?_; (intro h; skip; rotate_left; intro h; skip; rotate_left)) | fail))
  (apply R.rangeS (b := nb) (o := no); exact rfl; exact a_mm; exact hm; exact rfl; intro it oi hit)
  (repeat' (first | refine a_go ?_ | (with_reducible apply Fin.thenK; assumption) | (with_reducible (first | apply C.seqK | apply C.regionK); intro _ _) | (apply R.buildSlice0; exact rfl; intro bz) | (apply R.box; exact rfl; (simp only [Value.cells]; rfl); exact rfl; intro bx) | (apply R.alloc; (simp only [Value.cells]; rfl); exact rfl; intro ba) | (apply R.buildSlice; (exact a_prt); exact rfl; exact rfl; (exact a_fills); exact rfl; intro bl) | (refine a_sp ?_ ?_; (intro h; skip; rotate_left; intro h; skip; rotate_left)) | fail))
  apply C.loop (fun y : NmX => ItS y.oi no nb y.rest ∧ FsR M y.rest y.G ∧ Own 9 1 y.v y.ns.length (y.ns.map str) y.hv ∧ (down = true → y.ns = []) ∧ (down = false → (y.ns ++ keyS y.G).Perm (keyS F)))
    (fun y => [(0, .pointer (some ⟨db, 0, none⟩)), (3, y.v), (9, .pointer (some ⟨it, 0, none⟩))]) (fun _ => M) (fun y => (it, y.oi) :: (y.hv ++ ((db, .cells [.int .i64 room, .map (some sb), .map (some nb), pv, .int .i64 fuse, .bool down].toArray 59 (0, 0)) :: (nb, no) :: H))) (fun y => y.rest.length) ⟨[], .slice none 0 0, [], oi, l, F⟩
  · exact ⟨hit, hr, Own.nil _ _, fun _ => rfl, fun _ => List.Perm.refl _⟩
  · (exact a_subs)
  · exact rfl
  · exact rfl
  rintro ⟨ns, v, hv, oi, rest, G⟩ ⟨h1, h2, h3, h4, h5⟩
  dsimp only at h1 h2 h3 h4 h5 ⊢
  obtain ⟨A, c, rfl, k1, k2⟩ := h3.form
  (repeat' (first | refine a_go ?_ | (with_reducible apply Fin.thenK; assumption) | (with_reducible (first | apply C.seqK | apply C.regionK); intro _ _) | (apply R.buildSlice0; exact rfl; intro bz) | (apply R.box; exact rfl; (simp only [Value.cells]; rfl); exact rfl; intro bx) | (apply R.alloc; (simp only [Value.cells]; rfl); exact rfl; intro ba) | (apply R.buildSlice; (exact a_prt); exact rfl; exact rfl; (exact a_fills); exact rfl; intro bl) | (refine a_sp ?_ ?_; (intro h; skip; rotate_left; intro h; skip; rotate_left)) | fail))
  apply R.nextS (it := it) (oi := oi) (b := nb) (o := no)
  · exact rfl
  · (exact a_at)
  · exact a_mm
  · exact h1
  · exact rfl
  · intro hz
    subst hz
    have hG : G = [] := List.eq_nil_of_length_eq_zero h2.len.symm
    subst hG
    have hN : namesD down F = sortT ns := by
      unfold namesD
      cases down with
      | true =>
        rw [h4 rfl, sortT_nil]
        rfl
      | false =>
        have h6 := h5 rfl
        rw [show keyS ([] : Fs) = [] from rfl, List.append_nil] at h6
        exact (sortT_of_perm h6).symm
    have hns : ns.length ≤ 1000000 := by
      cases down with
      | true => rw [h4 rfl]; exact Nat.zero_le _
      | false =>
        have h6 := (h5 rfl).length_eq
        rw [List.length_append] at h6
        unfold keyS at h6
        rw [List.length_map, List.length_map] at h6
        omega
    (repeat' (first | refine a_go ?_ | (with_reducible apply Fin.thenK; assumption) | (with_reducible (first | apply C.seqK | apply C.regionK); intro _ _) | (apply R.buildSlice0; exact rfl; intro bz) | (apply R.box; exact rfl; (simp only [Value.cells]; rfl); exact rfl; intro bx) | (apply R.alloc; (simp only [Value.cells]; rfl); exact rfl; intro ba) | (apply R.buildSlice; (exact a_prt); exact rfl; exact rfl; (exact a_fills); exact rfl; intro bl) | (refine a_sp ?_ ?_; (intro h; skip; rotate_left; intro h; skip; rotate_left)) | fail))
    (apply R.call; (exact a_evs); exact rfl; (apply K.arr (h := sort_K (H := (it, oi) :: (db, .cells [.int .i64 room, .map (some sb), .map (some nb), pv, .int .i64 fuse, .bool down].toArray 59 (0, 0)) :: (nb, no) :: H) h3 hns)); (exact a_arrs); rintro _ M2 _ ⟨rfl, rfl, hp2, ho2, rfl⟩)
    (repeat' (first | refine a_go ?_ | (with_reducible apply Fin.thenK; assumption) | (with_reducible (first | apply C.seqK | apply C.regionK); intro _ _) | (apply R.buildSlice0; exact rfl; intro bz) | (apply R.box; exact rfl; (simp only [Value.cells]; rfl); exact rfl; intro bx) | (apply R.alloc; (simp only [Value.cells]; rfl); exact rfl; intro ba) | (apply R.buildSlice; (exact a_prt); exact rfl; exact rfl; (exact a_fills); exact rfl; intro bl) | (refine a_sp ?_ ?_; (intro h; skip; rotate_left; intro h; skip; rotate_left)) | fail))
    (apply Fin.returnA (H2 := hp2 ++ ((db, .cells [.int .i64 room, .map (some sb), .map (some nb), pv, .int .i64 fuse, .bool down].toArray 59 (0, 0)) :: (nb, no) :: H)); assumption; (first | exact .inl rfl | exact .inr rfl); exact rfl; (exact a_res); (simp only [retv]; rfl); (exact a_arr))
    refine ⟨rfl, hp2, ?_, rfl⟩
    rw [hN, sortT_len]
    exact ho2
  · intro r1 k v r2 oi2 hrest h6 h7
    subst hrest
    obtain ⟨b, G2, q1, q2, q3⟩ := h2.mid
    obtain ⟨A1, c1, rfl, _, _, _⟩ := q1
    have hl : (r1 ++ r2).length < (r1 ++ (k, Value.slice A1 b.length c1) :: r2).length := by
      rw [List.length_append, List.length_append, List.length_cons]
      omega
    cases down with
    | true =>
      (repeat' (first | (apply R.step; (apply Ok.move; exact rfl); exact rfl) | (apply R.step; (apply Ok.entryS (h := h7); exact rfl; exact a_mm; exact a_mm); exact rfl) | refine a_go ?_ | (with_reducible apply Fin.thenK; assumption) | (with_reducible (first | apply C.seqK | apply C.regionK); intro _ _) | (apply R.buildSlice0; exact rfl; intro bz) | (apply R.box; exact rfl; (simp only [Value.cells]; rfl); exact rfl; intro bx) | (apply R.alloc; (simp only [Value.cells]; rfl); exact rfl; intro ba) | (apply R.buildSlice; (exact a_prt); exact rfl; exact rfl; (exact a_fills); exact rfl; intro bl) | (refine a_sp ?_ ?_; (intro h; skip; rotate_left; intro h; skip; rotate_left)) | fail))
      refine Fin.again (⟨ns, .slice A ns.length c, hv, oi2, r1 ++ r2, G2⟩ : NmX) ⟨h6, q3, h3, h4, fun e => by cases e⟩ hl ?_ rfl rfl
      (exact a_subs)
    | false =>
      have hp := h5 rfl
      have hp2 : (ns ++ [k] ++ keyS G2).Perm (keyS F) := by
        refine List.Perm.trans ?_ hp
        rw [List.append_assoc]
        exact List.Perm.append_left ns (q2.map Prod.fst).symm
      have hns : ns.length ≤ 1000000 := by
        have h8 := hp.length_eq
        rw [List.length_append] at h8
        unfold keyS at h8
        rw [List.length_map, List.length_map] at h8
        omega
      (repeat' (first | (apply R.step; (apply Ok.move; exact rfl); exact rfl) | (apply R.step; (apply Ok.entryS (h := h7); exact rfl; exact a_mm; exact a_mm); exact rfl) | refine a_go ?_ | (with_reducible apply Fin.thenK; assumption) | (with_reducible (first | apply C.seqK | apply C.regionK); intro _ _) | (apply R.buildSlice0; exact rfl; intro bz) | (apply R.box; exact rfl; (simp only [Value.cells]; rfl); exact rfl; intro bx) | (apply R.alloc; (simp only [Value.cells]; rfl); exact rfl; intro ba) | (apply R.buildSlice; (exact a_prt); exact rfl; exact rfl; (exact a_fills); exact rfl; intro bl) | (refine a_sp ?_ ?_; (intro h; skip; rotate_left; intro h; skip; rotate_left)) | fail))
      (apply R.append (news := [str k]) (k := 1); exact rfl; exact rfl; exact h3; (exact a_tk); exact Rd.at_ (l := [str k]) (by (exact a_at)) (fun j u h => by rw [Nat.zero_add]; exact h); exact rfl; (intro u hu; rw [List.mem_singleton] at hu; rw [hu]; rfl); omega; exact rfl; decide; decide; exact rfl; rintro v4 hp4 hown4)
      obtain ⟨A4, c4, rfl, _, _⟩ := hown4.form
      (repeat' (first | refine a_go ?_ | (with_reducible apply Fin.thenK; assumption) | (with_reducible (first | apply C.seqK | apply C.regionK); intro _ _) | (apply R.buildSlice0; exact rfl; intro bz) | (apply R.box; exact rfl; (simp only [Value.cells]; rfl); exact rfl; intro bx) | (apply R.alloc; (simp only [Value.cells]; rfl); exact rfl; intro ba) | (apply R.buildSlice; (exact a_prt); exact rfl; exact rfl; (exact a_fills); exact rfl; intro bl) | (refine a_sp ?_ ?_; (intro h; skip; rotate_left; intro h; skip; rotate_left)) | fail))
      apply Fin.arr (H2 := (it, oi2) :: (hp4 ++ ((db, .cells [.int .i64 room, .map (some sb), .map (some nb), pv, .int .i64 fuse, .bool false].toArray 59 (0, 0)) :: (nb, no) :: H))) (by (exact a_arrs))
      refine Fin.again (⟨ns ++ [k], .slice A4 (ns.length + 1) c4, hp4, oi2, r1 ++ r2, G2⟩ : NmX) ⟨h6, q3, ?_, fun e => (by cases e), fun _ => hp2⟩ hl ?_ rfl rfl
      · dsimp only
        rw [List.length_append, List.map_append]
        exact hown4
      · (exact a_subs)
theorem names_KD {db : Nat} {d : Dk} {hp : Hp} (ho : DkO M db d hp) (hl : d.now.length ≤ 1000000) : K Try.prog 12 [.pointer (some ⟨db, 0, none⟩)] M (hp ++ H) fun v' M' H' => M' = M ∧ ∃ hn, Own 9 1 v' (namesD d.down d.now).length ((namesD d.down d.now).map str) hn ∧ H' = hn ++ (hp ++ H) := by
  obtain ⟨h0, sb, nb, so, no, pv, hr, h1, h2, h3, rfl⟩ := ho
  exact names_K h2 hl
end Go.Sx
end
section
namespace Go.Sx
open Go.RowKit
section
variable {P : Program} {F : Fence} {b : Frame} {a : Act} {k : List Item} {cs : List Frame} {w : World} {n : Nat} {Q : Exit → Act → World → Prop}
theorem stepR_scope {c : Code} : step P (lone (b.atR a (.code (.scope c) :: k)) cs w) = .next (lone (b.atR a (.code c :: .inScope c :: k)) cs w) :=
  step_lone_go (by simp [stepG, stepG.exec, Frame.atR])
theorem stepR_inScope {c : Code} : step P (lone (b.atR a (.inScope c :: k)) cs w) = .next (lone (b.atR a k) cs w) :=
  step_lone_go (by simp [stepG, stepG.exec, Frame.atR])
theorem wpIn_scope {c : Code} (h : c.wpIn F n P (Exit.noGoto Q) a w) : (Code.scope c).wpIn F n P Q a w := by
  intro b k cs hro hb hr
  have h0 : (lone (b.atR a (.code (.scope c) :: k)) cs w).fenced P F := fenced_calm hb hr rfl
  obtain ⟨e, a₁, w₁, hq, harr⟩ := h b (.inScope c :: k) cs hro hb hr
  cases e with
  | normal => exact ⟨.normal, a₁, w₁, hq, .head h0 stepR_scope (StepsIn.trans harr (.one (fenced_calm hb hr rfl) stepR_inScope))⟩
  | exit id' =>
    have hx : exitTo id' (.inScope c :: k) = exitTo id' k := by simp [exitTo]
    exact ⟨.exit id', a₁, w₁, hq, fun k' hk => .head h0 stepR_scope (harr.1 k' (by rw [hx]; exact hk)),
      fun hr' hk => let ⟨k₁, h1, h2⟩ := harr.2 hr' (by rw [hx]; exact hk); ⟨k₁, h1, .head h0 stepR_scope h2⟩⟩
  | goto l => exact hq.elim
  | ret => exact ⟨_, a₁, w₁, hq, .of_steps (.one h0 stepR_scope) harr⟩
  | panic ch => exact ⟨_, a₁, w₁, hq, .of_steps (.one h0 stepR_scope) harr⟩
  | outgrown => exact ⟨_, a₁, w₁, hq, .of_steps (.one h0 stepR_scope) harr⟩
end
section
variable {P : Program} {r : Option Nat} {n : Nat} {D : List Deferred} {L : Sl} {M : Mem} {H : Hp} {Q : Post}
theorem C.scope {c : Code} (h : C P r n c (Exit.noGoto Q) D L M H) : C P r n (.scope c) Q D L M H := fun a w hf hh => wpIn_scope (h a w hf hh)
theorem NoPanic.noGoto (h : NoPanic Q) : NoPanic (Exit.noGoto Q) := fun c a w hq => h c a w hq
theorem RetOk.noGoto {fn : Func} {T : Value → Mem → Hp → Prop} (h : RetOk P fn T Q) : RetOk P fn T (Exit.noGoto Q) := by
  intro n L M H H2 rs vs e he h1 h2 h3 h4
  rcases he with rfl | rfl
  · exact fun a w hf hh => h n L M H H2 rs vs _ (.inl rfl) h1 h2 h3 h4 a w hf hh
  · exact fun a w hf hh => h n L M H H2 rs vs _ (.inr rfl) h1 h2 h3 h4 a w hf hh
theorem RetOkM.noGoto {fn : Func} {T : Value → Mem → Hp → Prop} (h : RetOkM P fn T Q) : RetOkM P fn T (Exit.noGoto Q) := by
  intro n D L M H H1 H2 rs vs e he h1 hm h2 h3 h4
  rcases he with rfl | rfl
  · exact fun a w hf hh => h n D L M H H1 H2 rs vs _ (.inl rfl) h1 hm h2 h3 h4 a w hf hh
  · exact fun a w hf hh => h n D L M H H1 H2 rs vs _ (.inr rfl) h1 hm h2 h3 h4 a w hf hh
end
end Go.Sx
end
section
namespace Go.Sx
open Go Go.Proofs Go.RowKit
attribute [local irreducible] C R Fin K Own OwnT Rd Pl Ok KOf RetOk OpsOf RP KP Res NoPanic KV KE MapS ItS EntS FsO FsR RowD PlD DkO RT KT OneT RS KS OneS
variable {M M' : Mem} {H H1 H2 : Hp}
def numsF (l : List Txt) : List Nat := l.filterMap numO
noncomputable def openG : Dk → List Nat → List Sg → Int × Dk × List Sg
  | d, [], ss => (0, d, ss)
  | d, n :: ns, ss =>
    if (readF (lastO ss) n ((readD d (nameS n)).getD [])).2 then
      openG d ns (if 0 < (readF (lastO ss) n ((readD d (nameS n)).getD [])).1.length then ss ++ [⟨n, (readF (lastO ss) n ((readD d (nameS n)).getD [])).1⟩] else ss)
    else if (mendD d (n :: ns) n (readF (lastO ss) n ((readD d (nameS n)).getD [])).1).1 ≠ 0 then ((mendD d (n :: ns) n (readF (lastO ss) n ((readD d (nameS n)).getD [])).1).1, (mendD d (n :: ns) n (readF (lastO ss) n ((readD d (nameS n)).getD [])).1).2, [])
    else (0, (mendD d (n :: ns) n (readF (lastO ss) n ((readD d (nameS n)).getD [])).1).2, if 0 < (readF (lastO ss) n ((readD d (nameS n)).getD [])).1.length then ss ++ [⟨n, (readF (lastO ss) n ((readD d (nameS n)).getD [])).1⟩] else ss)
noncomputable def openS (d : Dk) : Int × Dk × List Sg := openG d (numsF (namesD d.down d.now)) []
theorem numsF_snoc (l : List Txt) (t : Txt) : numsF (l ++ [t]) = numsF l ++ (match numO t with | some n => [n] | none => []) := by
  unfold numsF
  rw [List.filterMap_append]
  congr 1
  rw [List.filterMap_cons]
  cases numO t <;> rfl
theorem numsF_len (l : List Txt) : (numsF l).length ≤ l.length := List.length_filterMap_le ..
theorem nmC_len (l : List Nat) : (nmC l).length = l.length := List.length_map ..
theorem numsF_ok {l : List Txt} : ∀ n ∈ numsF l, n ≤ 72057594037927935 := by
  intro n hn
  obtain ⟨t, _, h⟩ := List.mem_filterMap.1 hn
  exact (numO_some h).2
theorem namesD_len {d : Dk} : (namesD d.down d.now).length ≤ d.now.length := by
  unfold namesD
  split
  · exact Nat.zero_le _
  · rw [sortT_len]
    unfold keyS
    rw [List.length_map]
    exact Nat.le_refl _
theorem SgO.nil {lb db : Nat} {lim : Int} : SgO M lb db lim [] [(lb, .cells [.pointer (some ⟨db, 0, none⟩), .int .i64 lim, .slice none 0 0].toArray 62 (0, 0))] :=
  ⟨[], .slice none 0 0, [], rfl, OwnT.nil _ _, fun p h => absurd h List.not_mem_nil, rfl⟩
structure OqX where
  k : Nat
  kk : Int
  ss : List Sg
  hL : Hp
  M : Mem
structure OpX where
  k : Nat
  kk : Int
  v : Value
  ns : List Nat
  hv : Hp
theorem sopen_K {db : Nat} {d : Dk} {lim : Int} {hp : Hp} (hl : 64 ≤ lim ∧ lim ≤ 16384) (ho : DkO M db d hp) (hlen : d.ps.length ≤ 300000) (hnow : d.now.length ≤ 90000) : K Try.prog 9 [.pointer (some ⟨db, 0, none⟩), .int .i64 lim] M (hp ++ H) fun v' M' H' => M.le M' ∧ ∃ hp', DkO M' db (openS d).2.1 hp' ∧ (((openS d).1 ≠ 0 ∧ v' = .tuple #[.pointer none, .int .i64 (openS d).1] ∧ H' = hp' ++ H) ∨ ((openS d).1 = 0 ∧ ∃ lb hL, v' = .tuple #[.pointer (some ⟨lb, 0, none⟩), .int .i64 0] ∧ SgO M' lb db lim (openS d).2.2 hL ∧ H' = hL ++ (hp' ++ H))) := by
  refine K.enterK Try.func9 rfl rfl rfl ?_
  intro Q hNP hQ
  (repeat' (first | refine a_go ?_ | (with_reducible apply Fin.thenK; assumption) | (with_reducible (first | apply C.seqK | apply C.regionK); intro _ _) | (apply R.buildSlice0; exact rfl; intro bz) | (apply R.box; exact rfl; (simp only [Value.cells]; rfl); exact rfl; intro bx) | (apply R.alloc; (simp only [Value.cells]; rfl); exact rfl; intro ba) | (apply R.buildSlice; (exact a_prt); exact rfl; exact rfl; (exact a_fills); exact rfl; intro bl) | (refine a_sp ?_ ?_; (intro h; skip; rotate_left; intro h; skip; rotate_left)) | fail))
  apply C.scope
  replace hNP := hNP.noGoto
  replace hQ := hQ.noGoto
  generalize Exit.noGoto Q = Q at hNP hQ ⊢
  (repeat' (first | (apply R.step; (apply Ok.move; exact rfl); exact rfl) | (apply R.step; (first | (apply Ok.ltTr; exact rfl; exact rfl; omega) | (apply Ok.ltF; exact rfl; exact rfl; omega) | (apply Ok.gtTr; exact rfl; exact rfl; omega) | (apply Ok.gtF; exact rfl; exact rfl; omega) | (apply Ok.geTr; exact rfl; exact rfl; omega) | (apply Ok.geF; exact rfl; exact rfl; omega) | (apply Ok.leTr; exact rfl; exact rfl; omega) | (apply Ok.leF; exact rfl; exact rfl; omega) | (apply Ok.neIT; exact rfl; exact rfl; omega) | (apply Ok.eqIF; exact rfl; exact rfl; omega)); exact rfl) | (apply R.step; (apply Ok.eqPN; exact rfl; exact rfl); exact rfl) | refine a_go ?_ | (with_reducible apply Fin.thenK; assumption) | (with_reducible (first | apply C.seqK | apply C.regionK); intro _ _) | (apply R.buildSlice0; exact rfl; intro bz) | (apply R.box; exact rfl; (simp only [Value.cells]; rfl); exact rfl; intro bx) | (apply R.alloc; (simp only [Value.cells]; rfl); exact rfl; intro ba) | (apply R.buildSlice; (exact a_prt); exact rfl; exact rfl; (exact a_fills); exact rfl; intro bl) | (refine a_sp ?_ ?_; (intro h; skip; rotate_left; intro h; skip; rotate_left)) | fail))
  apply R.arr (H2 := hp ++ ((bx, .cells [.pointer (some ⟨db, 0, none⟩), .int .i64 lim, .slice none 0 0].toArray 62 (0, 0)) :: H)) (by (exact a_arrs))
  (apply R.call; (exact a_evs); exact rfl; exact names_KD ho (by omega); rintro vn M _ ⟨rfl, hn, hown, rfl⟩)
  have hNl := namesD_len (d := d)
  have hOS : openS d = openG d (numsF (namesD d.down d.now)) [] := rfl
  rw [hOS] at hQ
  clear hOS
  generalize namesD d.down d.now = N at hown hNl hQ
  obtain ⟨An, cn, rfl, n1, n2⟩ := hown.form
  apply R.ice (hp := hn) (H1 := hp ++ ((bx, .cells [.pointer (some ⟨db, 0, none⟩), .int .i64 lim, .slice none 0 0].toArray 62 (0, 0)) :: H)) (by (exact a_arrs))
  intro M1 hM1 hin1
  have hpn := hown.plIn hin1
  replace ho := ho.mono hM1
  (repeat' (first | refine a_go ?_ | (with_reducible apply Fin.thenK; assumption) | (with_reducible (first | apply C.seqK | apply C.regionK); intro _ _) | (apply R.buildSlice0; exact rfl; intro bz) | (apply R.box; exact rfl; (simp only [Value.cells]; rfl); exact rfl; intro bx) | (apply R.alloc; (simp only [Value.cells]; rfl); exact rfl; intro ba) | (apply R.buildSlice; (exact a_prt); exact rfl; exact rfl; (exact a_fills); exact rfl; intro bl) | (refine a_sp ?_ ?_; (intro h; skip; rotate_left; intro h; skip; rotate_left)) | fail))
  apply C.loop (fun y : OpX => (y.k : Int) = y.kk ∧ y.k ≤ N.length ∧ Own 31 1 y.v y.ns.length (nmC y.ns) y.hv ∧ y.ns = numsF (N.take y.k))
    (fun y => [(0, .pointer (some ⟨db, 0, none⟩)), (6, .pointer (some ⟨bx, 0, none⟩)), (7, y.v), (32, .slice An N.length cn), (33, .int .i64 (N.length : Int)), (34, .int .i64 y.kk)]) (fun _ => M1) (fun y => y.hv ++ (hp ++ ((bx, .cells [.pointer (some ⟨db, 0, none⟩), .int .i64 lim, .slice none 0 0].toArray 62 (0, 0)) :: H))) (fun y => N.length - y.k) ⟨0, 0, .slice none 0 0, [], []⟩
  · exact ⟨rfl, Nat.zero_le _, Own.nil _ _, rfl⟩
  · (exact a_subs)
  · exact rfl
  · exact rfl
  rintro ⟨k, kk, v, ns, hv⟩ ⟨hkk, hk, hon, hns⟩
  dsimp only at hkk hk hon hns ⊢
  obtain ⟨Av, cv, rfl, v1, v2⟩ := hon.form
  have hnsl : ns.length ≤ k := by
    rw [hns]
    exact Nat.le_trans (numsF_len _) (by rw [List.length_take]; omega)
  by_cases hkN : k < N.length
  · have htk : N.take (k + 1) = N.take k ++ [N[k]] := List.take_succ_eq_append_getElem hkN
    have hce : (N.map str)[k]? = some (str N[k]) := by rw [List.getElem?_map, List.getElem?_eq_getElem hkN]; rfl
    obtain ⟨b, o, cc, e, fr, hAe, hMb, hcell⟩ := hpn.get hce
    subst hAe
    rw [show o + k = o + kk.toNat * 1 by omega] at hcell
    generalize N[k] = t at htk hcell
    (repeat' (first | (apply R.step; (apply Ok.move; exact rfl); exact rfl) | (apply R.step; (first | (apply Ok.ltTr; exact rfl; exact rfl; omega) | (apply Ok.ltF; exact rfl; exact rfl; omega) | (apply Ok.gtTr; exact rfl; exact rfl; omega) | (apply Ok.gtF; exact rfl; exact rfl; omega) | (apply Ok.geTr; exact rfl; exact rfl; omega) | (apply Ok.geF; exact rfl; exact rfl; omega) | (apply Ok.leTr; exact rfl; exact rfl; omega) | (apply Ok.leF; exact rfl; exact rfl; omega) | (apply Ok.neIT; exact rfl; exact rfl; omega) | (apply Ok.eqIF; exact rfl; exact rfl; omega)); exact rfl) | (apply R.step; (first | (apply Ok.indexAddr; exact rfl; exact rfl; omega; omega) | (apply Ok.loadP; exact rfl; exact rfl; exact hMb; exact hcell)); exact rfl) | refine a_go ?_ | (with_reducible apply Fin.thenK; assumption) | (with_reducible (first | apply C.seqK | apply C.regionK); intro _ _) | (apply R.buildSlice0; exact rfl; intro bz) | (apply R.box; exact rfl; (simp only [Value.cells]; rfl); exact rfl; intro bx) | (apply R.alloc; (simp only [Value.cells]; rfl); exact rfl; intro ba) | (apply R.buildSlice; (exact a_prt); exact rfl; exact rfl; (exact a_fills); exact rfl; intro bl) | (refine a_sp ?_ ?_; (intro h; skip; rotate_left; intro h; skip; rotate_left)) | fail))
    (apply R.call; (exact a_evs); exact rfl; exact segNum_K (t := t); rintro _ M1 _ ⟨n, rfl, hnum, rfl, rfl⟩)
    cases ht : numO t with
    | none =>
      (repeat' (first | refine a_go ?_ | (with_reducible apply Fin.thenK; assumption) | (with_reducible (first | apply C.seqK | apply C.regionK); intro _ _) | (apply R.buildSlice0; exact rfl; intro bz) | (apply R.box; exact rfl; (simp only [Value.cells]; rfl); exact rfl; intro bx) | (apply R.alloc; (simp only [Value.cells]; rfl); exact rfl; intro ba) | (apply R.buildSlice; (exact a_prt); exact rfl; exact rfl; (exact a_fills); exact rfl; intro bl) | (refine a_sp ?_ ?_; (intro h; skip; rotate_left; intro h; skip; rotate_left)) | fail))
      refine Fin.again (⟨k + 1, kk + 1, .slice Av ns.length cv, ns, hv⟩ : OpX) ⟨by dsimp only; omega, by dsimp only; omega, hon, ?_⟩ (by dsimp only; omega) ?_ rfl rfl
      · dsimp only
        rw [htk, numsF_snoc, ht, List.append_nil, hns]
      · (exact a_subs)
    | some m =>
      have hnm : n = m := hnum m ht
      subst hnm
      (repeat' (first | refine a_go ?_ | (with_reducible apply Fin.thenK; assumption) | (with_reducible (first | apply C.seqK | apply C.regionK); intro _ _) | (apply R.buildSlice0; exact rfl; intro bz) | (apply R.box; exact rfl; (simp only [Value.cells]; rfl); exact rfl; intro bx) | (apply R.alloc; (simp only [Value.cells]; rfl); exact rfl; intro ba) | (apply R.buildSlice; (exact a_prt); exact rfl; exact rfl; (exact a_fills); exact rfl; intro bl) | (refine a_sp ?_ ?_; (intro h; skip; rotate_left; intro h; skip; rotate_left)) | fail))
      (apply R.append (news := [.int .u64 (n : Int)]) (k := 1); exact rfl; exact rfl; exact hon; (exact a_tk); exact Rd.at_ (l := [.int .u64 (n : Int)]) (by (exact a_at)) (fun j u h => by rw [Nat.zero_add]; exact h); exact rfl; (intro u hu; rw [List.mem_singleton] at hu; subst hu; rfl); omega; exact rfl; decide; decide; exact rfl; rintro v2 hv2 hon2)
      (repeat' (first | refine a_go ?_ | (with_reducible apply Fin.thenK; assumption) | (with_reducible (first | apply C.seqK | apply C.regionK); intro _ _) | (apply R.buildSlice0; exact rfl; intro bz) | (apply R.box; exact rfl; (simp only [Value.cells]; rfl); exact rfl; intro bx) | (apply R.alloc; (simp only [Value.cells]; rfl); exact rfl; intro ba) | (apply R.buildSlice; (exact a_prt); exact rfl; exact rfl; (exact a_fills); exact rfl; intro bl) | (refine a_sp ?_ ?_; (intro h; skip; rotate_left; intro h; skip; rotate_left)) | fail))
      (apply Fin.arr (H2 := hv2 ++ (hp ++ ((bx, .cells [.pointer (some ⟨db, 0, none⟩), .int .i64 lim, .slice none 0 0].toArray 62 (0, 0)) :: H))); (exact a_arrs))
      refine Fin.again (⟨k + 1, kk + 1, v2, ns ++ [n], hv2⟩ : OpX) ⟨by dsimp only; omega, by dsimp only; omega, ?_, ?_⟩ (by dsimp only; omega) ?_ rfl rfl
      · dsimp only
        rw [List.length_append]
        unfold nmC
        rw [List.map_append]
        exact hon2
      · dsimp only
        rw [htk, numsF_snoc, ht, hns]
      · (exact a_subs)
  · have hke : k = N.length := by omega
    rw [hke, List.take_of_length_le (Nat.le_refl _)] at hns
    rw [← hns] at hQ
    have hnok : ∀ n ∈ ns, n ≤ 72057594037927935 := by rw [hns]; exact numsF_ok
    clear hns
    (repeat' (first | (apply R.step; (apply Ok.move; exact rfl); exact rfl) | (apply R.step; (first | (apply Ok.ltTr; exact rfl; exact rfl; omega) | (apply Ok.ltF; exact rfl; exact rfl; omega) | (apply Ok.gtTr; exact rfl; exact rfl; omega) | (apply Ok.gtF; exact rfl; exact rfl; omega) | (apply Ok.geTr; exact rfl; exact rfl; omega) | (apply Ok.geF; exact rfl; exact rfl; omega) | (apply Ok.leTr; exact rfl; exact rfl; omega) | (apply Ok.leF; exact rfl; exact rfl; omega) | (apply Ok.neIT; exact rfl; exact rfl; omega) | (apply Ok.eqIF; exact rfl; exact rfl; omega)); exact rfl) | refine a_go ?_ | (with_reducible apply Fin.thenK; assumption) | (with_reducible (first | apply C.seqK | apply C.regionK); intro _ _) | (apply R.buildSlice0; exact rfl; intro bz) | (apply R.box; exact rfl; (simp only [Value.cells]; rfl); exact rfl; intro bx) | (apply R.alloc; (simp only [Value.cells]; rfl); exact rfl; intro ba) | (apply R.buildSlice; (exact a_prt); exact rfl; exact rfl; (exact a_fills); exact rfl; intro bl) | (refine a_sp ?_ ?_; (intro h; skip; rotate_left; intro h; skip; rotate_left)) | fail))
    apply C.label
    (repeat' (first | refine a_go ?_ | (with_reducible apply Fin.thenK; assumption) | (with_reducible (first | apply C.seqK | apply C.regionK); intro _ _) | (apply R.buildSlice0; exact rfl; intro bz) | (apply R.box; exact rfl; (simp only [Value.cells]; rfl); exact rfl; intro bx) | (apply R.alloc; (simp only [Value.cells]; rfl); exact rfl; intro ba) | (apply R.buildSlice; (exact a_prt); exact rfl; exact rfl; (exact a_fills); exact rfl; intro bl) | (refine a_sp ?_ ?_; (intro h; skip; rotate_left; intro h; skip; rotate_left)) | fail))
    apply C.ice (hp := hv) (H1 := (bx, .cells [.pointer (some ⟨db, 0, none⟩), .int .i64 lim, .slice none 0 0].toArray 62 (0, 0)) :: (hp ++ H)) (by (exact a_arrs))
    intro M2 hM2 hin2
    have hpA := hon.plIn hin2
    replace ho := ho.mono hM2
    apply C.loop (fun y : OqX => (y.k : Int) = y.kk ∧ y.k ≤ ns.length ∧ M2.le y.M ∧ SgO y.M bx db lim y.ss y.hL ∧ sgsOk y.ss ∧ y.ss.length ≤ y.k ∧ openG d ns [] = openG d (ns.drop y.k) y.ss)
      (fun y => [(0, .pointer (some ⟨db, 0, none⟩)), (6, .pointer (some ⟨bx, 0, none⟩)), (7, .slice Av ns.length cv), (49, .slice Av ns.length cv), (50, .int .i64 (ns.length : Int)), (51, .int .i64 y.kk)]) (fun y => y.M) (fun y => y.hL ++ (hp ++ H)) (fun y => ns.length - y.k) ⟨0, 0, [], [(bx, .cells [.pointer (some ⟨db, 0, none⟩), .int .i64 lim, .slice none 0 0].toArray 62 (0, 0))], M2⟩
    · exact ⟨rfl, Nat.zero_le _, Mem.le_refl _, SgO.nil, fun s h => absurd h List.not_mem_nil, Nat.le_refl _, rfl⟩
    · (exact a_subs)
    · exact rfl
    · exact rfl
    rintro ⟨j, jj, ss, hL, M3⟩ ⟨hjj, hj, hM3, hg, hok, hssl, hop⟩
    dsimp only at hjj hj hM3 hg hok hssl hop ⊢
    by_cases hjl : j < ns.length
    · have hdrop : ns.drop j = ns[j] :: ns.drop (j + 1) := List.drop_eq_getElem_cons hjl
      have hnb := hnok _ (List.getElem_mem hjl)
      have hce : (nmC ns)[j]? = some (.int .u64 (ns[j] : Int)) := by
        unfold nmC
        rw [List.getElem?_map, List.getElem?_eq_getElem hjl]
        rfl
      obtain ⟨b, o, cc, e, fr, hAe, hMb, hcell⟩ := (hpA.mono hM3).get hce
      subst hAe
      rw [show o + j = o + jj.toNat * 1 by omega] at hcell
      generalize ns[j] = n at hdrop hnb hcell
      rw [hdrop] at hop
      (repeat' (first | (apply R.step; (apply Ok.move; exact rfl); exact rfl) | (apply R.step; (first | (apply Ok.ltTr; exact rfl; exact rfl; omega) | (apply Ok.ltF; exact rfl; exact rfl; omega) | (apply Ok.gtTr; exact rfl; exact rfl; omega) | (apply Ok.gtF; exact rfl; exact rfl; omega) | (apply Ok.geTr; exact rfl; exact rfl; omega) | (apply Ok.geF; exact rfl; exact rfl; omega) | (apply Ok.leTr; exact rfl; exact rfl; omega) | (apply Ok.leF; exact rfl; exact rfl; omega) | (apply Ok.neIT; exact rfl; exact rfl; omega) | (apply Ok.eqIF; exact rfl; exact rfl; omega)); exact rfl) | (apply R.step; (first | (apply Ok.indexAddr; exact rfl; exact rfl; omega; omega) | (apply Ok.loadP; exact rfl; exact rfl; exact hMb; exact hcell)); exact rfl) | refine a_go ?_ | (with_reducible apply Fin.thenK; assumption) | (with_reducible (first | apply C.seqK | apply C.regionK); intro _ _) | (apply R.buildSlice0; exact rfl; intro bz) | (apply R.box; exact rfl; (simp only [Value.cells]; rfl); exact rfl; intro bx) | (apply R.alloc; (simp only [Value.cells]; rfl); exact rfl; intro ba) | (apply R.buildSlice; (exact a_prt); exact rfl; exact rfl; (exact a_fills); exact rfl; intro bl) | (refine a_sp ?_ ?_; (intro h; skip; rotate_left; intro h; skip; rotate_left)) | fail))
      (apply R.call; (exact a_evs); exact rfl; exact sread_K (f := n) hg hok (ho.mono hM3) hnb; rintro _ M4 _ ⟨p, rfl, hpo, hpf, hpi, hpe, hM4, rfl⟩)
      have hop2 : openG d (n :: ns.drop (j + 1)) ss = if (readF (lastO ss) n ((readD d (nameS n)).getD [])).2 then
          openG d (ns.drop (j + 1)) (if 0 < (readF (lastO ss) n ((readD d (nameS n)).getD [])).1.length then ss ++ [⟨n, (readF (lastO ss) n ((readD d (nameS n)).getD [])).1⟩] else ss)
        else if (mendD d (n :: ns.drop (j + 1)) n (readF (lastO ss) n ((readD d (nameS n)).getD [])).1).1 ≠ 0 then ((mendD d (n :: ns.drop (j + 1)) n (readF (lastO ss) n ((readD d (nameS n)).getD [])).1).1, (mendD d (n :: ns.drop (j + 1)) n (readF (lastO ss) n ((readD d (nameS n)).getD [])).1).2, [])
        else (0, (mendD d (n :: ns.drop (j + 1)) n (readF (lastO ss) n ((readD d (nameS n)).getD [])).1).2, if 0 < (readF (lastO ss) n ((readD d (nameS n)).getD [])).1.length then ss ++ [⟨n, (readF (lastO ss) n ((readD d (nameS n)).getD [])).1⟩] else ss) := by rw [openG]
      obtain ⟨⟨f_, it⟩, lv, ev, lh, eh⟩ := p
      dsimp only at hpf hpi hpe ⊢
      subst hpf
      rw [← hpi] at hop2
      generalize (readF (lastO ss) f_ ((readD d (nameS f_)).getD [])).2 = fine at hop2
      obtain ⟨hoP, hoT⟩ := id hpo
      obtain ⟨Al, cl, hlv, kl1, kl2⟩ := hoP.form
      obtain ⟨Ae, ce, hev, ke1, ke2⟩ := hoT.form
      have hel : (⟨f_, it⟩ : Sg).es.length = it.length := Sg.es_len _
      change lv = .slice Al (⟨f_, it⟩ : Sg).es.length cl at hlv
      change ev = .slice Ae it.length ce at hev
      rw [hel] at hlv
      subst hlv hev
      change OwnT 3 1 (.slice Ae it.length ce) it.length (endC (endsA 0 (it.map Prod.snd))) eh at hoT
      unfold ptC
      dsimp only
      (repeat' (first | (apply R.step; (exact a_ok); exact rfl) | (first | (with_reducible first | apply R.nil | apply C.ret | apply C.block | apply C.skip | apply C.exit | apply Fin.thenRet | apply Fin.thenExit | apply Fin.blockNormal | apply Fin.blockRet | apply Fin.blockExit) | (with_reducible apply Fin.thenK; assumption) | (with_reducible apply C.seqK; intro _ _) | (with_reducible apply C.regionK; intro _ _) | (with_reducible apply Fin.blockOther; exact rfl)) | (apply R.store; exact rfl; exact rfl; exact rfl; (exact a_at); (exact a_blit); exact rfl; (focus (simp [Value.oneCell']; done))) | (first | (apply R.guardT; assumption; exact rfl; exact rfl; exact rfl) | (apply R.guardF; assumption; exact rfl; exact rfl; exact rfl; exact rfl; exact rfl) | (apply R.guardU; assumption; exact rfl; exact rfl; exact rfl; exact rfl) | (apply R.guardDec; assumption; exact rfl; exact rfl; (intro h; skip; rotate_left; intro h; skip; rotate_left)) | (apply R.guardBeq; assumption; exact rfl; exact rfl; (intro h; skip; rotate_left; intro h; skip; rotate_left)) | (apply R.guardBne; assumption; exact rfl; exact rfl; (intro h; skip; rotate_left; intro h; skip; rotate_left)) | (apply R.guardNDec; assumption; exact rfl; exact rfl; (intro h; skip; rotate_left; intro h; skip; rotate_left)) | (apply R.guardNot; assumption; exact rfl; exact rfl; (intro h; skip; rotate_left; intro h; skip; rotate_left)) | (apply R.guardC; assumption; exact rfl; exact rfl; (intro h; skip; rotate_left; intro h; skip; rotate_left))) | (first | (apply C.condT; exact rfl) | (apply C.condF; exact rfl) | (apply C.condDec; exact rfl; (intro h; skip; rotate_left; intro h; skip; rotate_left)) | (apply C.condBeq; exact rfl; (intro h; skip; rotate_left; intro h; skip; rotate_left)) | (apply C.condBne; exact rfl; (intro h; skip; rotate_left; intro h; skip; rotate_left)) | (apply C.condNDec; exact rfl; (intro h; skip; rotate_left; intro h; skip; rotate_left)) | (apply C.condNot; exact rfl; (intro h; skip; rotate_left; intro h; skip; rotate_left)) | (apply C.cond; exact rfl; (intro h; skip; rotate_left; intro h; skip; rotate_left)))))
      ((apply R.alloc; (simp only [Value.cells]; rfl); exact rfl); intro b14)
      obtain ⟨ps, pv, hrow, hss, hrw, hpt, rfl⟩ := hg.mono hM4
      obtain ⟨Ap, cpp, rfl, pc1, pc2⟩ := hrw.form
      have hpl : ps.length = ss.length := by rw [← hss, List.length_map]
      (repeat' (first | refine a_go ?_ | (with_reducible apply Fin.thenK; assumption) | (with_reducible (first | apply C.seqK | apply C.regionK); intro _ _) | (apply R.buildSlice0; exact rfl; intro bz) | (apply R.box; exact rfl; (simp only [Value.cells]; rfl); exact rfl; intro bx) | (apply R.alloc; (simp only [Value.cells]; rfl); exact rfl; intro ba) | (apply R.buildSlice; (exact a_prt); exact rfl; exact rfl; (exact a_fills); exact rfl; intro bl) | (refine a_sp ?_ ?_; (intro h; skip; rotate_left; intro h; skip; rotate_left)) | fail))
      · have h0 : 0 < it.length := by omega
        unfold lgO
        (apply C.regionS (A := [0, 1, 2, 3, 4, 5, 6, 7]) (t := .free 0 (.free 1 (.free 2 (.free 3 (.free 4 (.free 5 (.one 6 (.one 7 .nil)))))))) (u := .free 8 (.free 9 (.one 10 .nil))) (Hs := [(b14, .cells [.int .u64 ↑f_, .slice Al it.length cl, .slice Ae it.length ce].toArray 68 (0, 0)), (bx, .cells [.pointer (some ⟨db, 0, none⟩), .int .i64 lim, .slice Ap ps.length cpp].toArray 62 (0, 0))]); exact Mix.h; (first | exact Arr.all _ | (exact a_arr) | (exact a_arrs)); (exact a_np); kernel_rfl)
        (repeat' (first | (apply RS.step; exact rfl; intro _ _ _; (exact a_ok); exact rfl) | (apply RS.stepT; exact rfl; exact rfl; exact rfl; exact rfl; intro _ _ _; (exact a_ok); exact rfl) | (apply RS.stepF; exact rfl; exact rfl; exact rfl; exact rfl; exact rfl; exact rfl) | (apply RS.stepU; exact rfl; exact rfl; exact rfl; exact rfl; exact rfl) | (apply RS.one; apply OneS.effF; exact rfl; exact rfl; exact rfl; exact rfl; exact rfl; exact rfl) | (apply RS.one; apply OneS.effU; exact rfl; exact rfl; exact rfl; exact rfl; exact rfl)))
        (apply RS.one; apply OneS.eff; exact rfl; intro Kc hKc ops0)
        (apply R.buildSlice; (exact a_prt); exact rfl; exact rfl; (exact a_fills); exact rfl; intro bq)
        (apply R.nil; apply Fin.ks hKc; exact Mem.le_refl _; (exact a_arrs))
        (apply RS.one; apply OneS.eff; exact rfl; intro Kc hKc ops0)
        (apply R.arr (H2 := hrow ++ ((b14, .cells [.int .u64 (f_ : Int), .slice Al it.length cl, .slice Ae it.length ce].toArray 68 (0, 0)) :: (bq, .cells [.int .u64 (f_ : Int), .slice Al it.length cl, .slice Ae it.length ce].toArray 68 (0, 0)) :: (bx, .cells [.pointer (some ⟨db, 0, none⟩), .int .i64 lim, .slice Ap ps.length cpp].toArray 62 (0, 0)) :: (ptH ps ++ (lh ++ (eh ++ (hp ++ H)))))) (by (exact a_art)))
        (apply R.appendT (news := [.int .u64 (f_ : Int), .slice Al it.length cl, .slice Ae it.length ce]) (k := 1); exact rfl; exact rfl; exact hrw; (exact a_tk); exact Rd.at_ (l := [.int .u64 (f_ : Int), .slice Al it.length cl, .slice Ae it.length ce]) (by (exact a_at)) (fun j u h => by rw [Nat.zero_add]; exact h); exact rfl; (intro u hu; simp only [List.mem_cons, List.not_mem_nil, or_false] at hu; rcases hu with rfl | rfl | rfl <;> rfl); omega; exact rfl; decide; decide; exact rfl; rintro pv2 hrow2 hrw2)
        obtain ⟨Ap2, cp2, rfl, qc1, qc2⟩ := hrw2.form
        have hg2 : SgO M4 bx db lim (ss ++ [⟨f_, it⟩]) ((bx, lgO db lim (.slice Ap2 (ps.length + 1) cp2)) :: (hrow2 ++ ptH (ps ++ [⟨⟨f_, it⟩, .slice Al it.length cl, .slice Ae it.length ce, lh, eh⟩]))) := by
          refine ⟨ps ++ [⟨⟨f_, it⟩, .slice Al it.length cl, .slice Ae it.length ce, lh, eh⟩], _, hrow2, by rw [List.map_append, hss]; rfl, ?_, ?_, rfl⟩
          · rw [List.length_append, List.map_append, List.flatten_append]
            exact hrw2
          · intro p hp
            rcases List.mem_append.1 hp with hp | hp
            · exact hpt p hp
            · rw [List.mem_singleton] at hp
              subst hp
              exact hpo
        have hok2 : sgsOk (ss ++ [⟨f_, it⟩]) := hok.snoc h0 hpe
        rw [if_pos h0] at hop2
        (apply R.nil; apply Fin.ks (Hx := hrow2 ++ (ptH ps ++ (lh ++ (eh ++ (hp ++ H))))) hKc; exact Mem.le_refl _; (exact a_art))
        refine RS.later (Hs2 := []) (Hx2 := (b14, .cells [.int .u64 (f_ : Int), .slice Al it.length cl, .slice Ae it.length ce].toArray 68 (0, 0)) :: (bx, .cells [.pointer (some ⟨db, 0, none⟩), .int .i64 lim, .slice Ap ps.length cpp].toArray 62 (0, 0)) :: (hrow2 ++ (ptH ps ++ (lh ++ (eh ++ (hp ++ H)))))) (by (exact a_art)) ?_
        (repeat' (first | (apply RT.step; exact rfl; intro _ _ _; (exact a_ok); exact rfl) | (apply RT.stepT; exact rfl; exact rfl; exact rfl; exact rfl; intro _ _ _; (exact a_ok); exact rfl) | (apply RT.stepF; exact rfl; exact rfl; exact rfl; exact rfl; exact rfl; exact rfl) | (apply RT.stepU; exact rfl; exact rfl; exact rfl; exact rfl; exact rfl) | (apply RT.one; apply OneT.effF; exact rfl; exact rfl; exact rfl; exact rfl; exact rfl; exact rfl) | (apply RT.one; apply OneT.effU; exact rfl; exact rfl; exact rfl; exact rfl; exact rfl)))
        (apply RT.one; apply OneT.eff; exact rfl; intro Kc hKc ops0)
        (repeat' (first | refine a_go ?_ | (with_reducible apply Fin.thenK; assumption) | (with_reducible (first | apply C.seqK | apply C.regionK); intro _ _) | (apply R.buildSlice0; exact rfl; intro bz) | (apply R.box; exact rfl; (simp only [Value.cells]; rfl); exact rfl; intro bx) | (apply R.alloc; (simp only [Value.cells]; rfl); exact rfl; intro ba) | (apply R.buildSlice; (exact a_prt); exact rfl; exact rfl; (exact a_fills); exact rfl; intro bl) | (refine a_sp ?_ ?_; (intro h; skip; rotate_left; intro h; skip; rotate_left)) | fail))
        ((first | apply R.nil | skip); apply Fin.kt hKc; exact Mem.le_refl _; (exact a_arrs))
        apply RT.nil
        (repeat' (first | refine a_go ?_ | (with_reducible apply Fin.thenK; assumption) | (with_reducible (first | apply C.seqK | apply C.regionK); intro _ _) | (apply R.buildSlice0; exact rfl; intro bz) | (apply R.box; exact rfl; (simp only [Value.cells]; rfl); exact rfl; intro bx) | (apply R.alloc; (simp only [Value.cells]; rfl); exact rfl; intro ba) | (apply R.buildSlice; (exact a_prt); exact rfl; exact rfl; (exact a_fills); exact rfl; intro bl) | (refine a_sp ?_ ?_; (intro h; skip; rotate_left; intro h; skip; rotate_left)) | fail))
        · have hf : fine = true := by assumption
          subst hf
          rw [if_pos rfl] at hop2
          rw [hop2] at hop
          apply Fin.arr (H2 := ((bx, lgO db lim (.slice Ap2 (ps.length + 1) cp2)) :: (hrow2 ++ ptH (ps ++ [⟨⟨f_, it⟩, .slice Al it.length cl, .slice Ae it.length ce, lh, eh⟩]))) ++ (hp ++ H)) (by rw [ptH_snoc]; dsimp only; unfold lgO; (exact a_art))
          refine Fin.again (⟨j + 1, jj + 1, ss ++ [⟨f_, it⟩], (bx, lgO db lim (.slice Ap2 (ps.length + 1) cp2)) :: (hrow2 ++ ptH (ps ++ [⟨⟨f_, it⟩, .slice Al it.length cl, .slice Ae it.length ce, lh, eh⟩])), M4⟩ : OqX) ⟨by dsimp only; omega, by dsimp only; omega, hM3.trans_ hM4, hg2, hok2, ?_, ?_⟩ (by dsimp only; omega) ?_ rfl rfl
          · dsimp only
            (try rw [List.length_append, List.length_singleton])
            omega
          · dsimp only
            exact hop
          · (exact a_subs)
        · have hf : fine = false := by assumption
          subst hf
          rw [if_neg (by decide)] at hop2
          rw [hop2] at hop
          clear hop2
          have hlenD : (f_ :: ns.drop (j + 1)).length = ns.length - jj.toNat := by rw [← hdrop, List.length_drop]; omega
          have hcut : Pl M4 (adv (some ⟨b, o, none⟩) jj.toNat 1 cv) (nmC (f_ :: ns.drop (j + 1))) := by
            have h1 := ((hpA.mono hM3).mono hM4).cut (l := jj.toNat) (size := 1) (cap := cv) (by rw [nmC_len]; omega)
            rw [Nat.mul_one, show jj.toNat = j by omega] at h1
            rw [← hdrop, show jj.toNat = j by omega]
            unfold nmC at h1 ⊢
            rw [List.map_drop]
            exact h1
          have hnsD : ∀ n ∈ f_ :: ns.drop (j + 1), n ≤ 72057594037927935 := by rw [← hdrop]; exact fun n hn => hnok n (List.mem_of_mem_drop hn)
          have hK := mend_K (lb := bx) (lim := lim) (Al := Al) (cl := cl) (cap := cv - jj.toNat) (Apv := Ap2) (npv := ps.length + 1) (cpv := cp2) (H := (b14, .cells [.int .u64 ↑f_, .slice Al it.length cl, .slice Ae it.length ce].toArray 68 (0, 0)) :: (hrow2 ++ (ptH ps ++ (lh ++ H)))) hcut hnsD (by rw [hlenD]; omega) ((ho.mono hM3).mono hM4) (by omega) hnb hoT
          rw [hlenD] at hK
          (apply C.regionT (t := .free 0 (.free 1 (.free 2 (.free 3 (.free 4 (.one 5 (.free 6 .nil))))))) (Hs := [(b14, .cells [.int .u64 ↑f_, .slice Al it.length cl, .slice Ae it.length ce].toArray 68 (0, 0))]); exact Mix.h; (first | exact Arr.all _ | (exact a_arr) | (exact a_arrs)); (exact a_np); kernel_rfl)
          (repeat' (first | (apply RT.step; exact rfl; intro _ _ _; (apply Ok.move; exact rfl); exact rfl) | (apply RT.step; exact rfl; intro _ _ _; (apply Ok.sliceLo; exact rfl; exact rfl; omega; omega); exact rfl) | (first | (apply RT.step; exact rfl; intro _ _ _; (exact a_ok); exact rfl) | (apply RT.stepT; exact rfl; exact rfl; exact rfl; exact rfl; intro _ _ _; (exact a_ok); exact rfl) | (apply RT.stepF; exact rfl; exact rfl; exact rfl; exact rfl; exact rfl; exact rfl) | (apply RT.stepU; exact rfl; exact rfl; exact rfl; exact rfl; exact rfl) | (apply RT.one; apply OneT.effF; exact rfl; exact rfl; exact rfl; exact rfl; exact rfl; exact rfl) | (apply RT.one; apply OneT.effU; exact rfl; exact rfl; exact rfl; exact rfl; exact rfl))))
          (apply RT.one; apply OneT.eff; exact rfl; intro Kc hKc ops0)
          apply R.arr (H2 := (bx, lgO db lim (.slice Ap2 (ps.length + 1) cp2)) :: (eh ++ (hp ++ ((b14, .cells [.int .u64 ↑f_, .slice Al it.length cl, .slice Ae it.length ce].toArray 68 (0, 0)) :: (hrow2 ++ (ptH ps ++ (lh ++ H))))))) (by unfold lgO; (exact a_art))
          (apply R.call; (exact a_evs); exact rfl; exact hK; rintro _ M5 _ ⟨rfl, hM5, hp5, ho5, rfl⟩)
          (apply R.nil; apply Fin.kt hKc; exact hM5; (exact a_art))
          (repeat' (first | (apply RT.step; exact rfl; intro _ _ _; (exact a_ok); exact rfl) | (apply RT.stepT; exact rfl; exact rfl; exact rfl; exact rfl; intro _ _ _; (exact a_ok); exact rfl) | (apply RT.stepF; exact rfl; exact rfl; exact rfl; exact rfl; exact rfl; exact rfl) | (apply RT.stepU; exact rfl; exact rfl; exact rfl; exact rfl; exact rfl) | (apply RT.one; apply OneT.effF; exact rfl; exact rfl; exact rfl; exact rfl; exact rfl; exact rfl) | (apply RT.one; apply OneT.effU; exact rfl; exact rfl; exact rfl; exact rfl; exact rfl)))
          apply RT.nil
          (repeat' (first | refine a_go ?_ | (with_reducible apply Fin.thenK; assumption) | (with_reducible (first | apply C.seqK | apply C.regionK); intro _ _) | (apply R.buildSlice0; exact rfl; intro bz) | (apply R.box; exact rfl; (simp only [Value.cells]; rfl); exact rfl; intro bx) | (apply R.alloc; (simp only [Value.cells]; rfl); exact rfl; intro ba) | (apply R.buildSlice; (exact a_prt); exact rfl; exact rfl; (exact a_fills); exact rfl; intro bl) | (refine a_sp ?_ ?_; (intro h; skip; rotate_left; intro h; skip; rotate_left)) | fail))
          · have he : (mendD d (f_ :: ns.drop (j + 1)) f_ it).1 ≠ 0 := by assumption
            rw [if_pos he] at hop
            rw [hop] at hQ
            (apply Fin.returnA (H2 := hp5 ++ H); assumption; (first | exact .inl rfl | exact .inr rfl); exact rfl; (exact a_res); (simp only [retv]; rfl); (exact a_arr))
            exact ⟨hM1.trans_ (hM2.trans_ (hM3.trans_ (hM4.trans_ hM5))), hp5, ho5, .inl ⟨he, rfl, rfl⟩⟩
          · have he : (mendD d (f_ :: ns.drop (j + 1)) f_ it).1 = 0 := by assumption
            rw [if_neg (fun h => h he)] at hop
            rw [hop] at hQ
            apply Fin.blockOther rfl
            (repeat' (first | refine a_go ?_ | (with_reducible apply Fin.thenK; assumption) | (with_reducible (first | apply C.seqK | apply C.regionK); intro _ _) | (apply R.buildSlice0; exact rfl; intro bz) | (apply R.box; exact rfl; (simp only [Value.cells]; rfl); exact rfl; intro bx) | (apply R.alloc; (simp only [Value.cells]; rfl); exact rfl; intro ba) | (apply R.buildSlice; (exact a_prt); exact rfl; exact rfl; (exact a_fills); exact rfl; intro bl) | (refine a_sp ?_ ?_; (intro h; skip; rotate_left; intro h; skip; rotate_left)) | fail))
            apply Fin.arr (H2 := ((bx, lgO db lim (.slice Ap2 (ps.length + 1) cp2)) :: (hrow2 ++ ptH (ps ++ [⟨⟨f_, it⟩, .slice Al it.length cl, .slice Ae it.length ce, lh, eh⟩]))) ++ (hp5 ++ H)) (by rw [ptH_snoc]; dsimp only; (exact a_art))
            obtain ⟨hL2, hHL⟩ : ∃ x : Hp, x = ((bx, lgO db lim (.slice Ap2 (ps.length + 1) cp2)) :: (hrow2 ++ ptH (ps ++ [⟨⟨f_, it⟩, .slice Al it.length cl, .slice Ae it.length ce, lh, eh⟩]))) := ⟨_, rfl⟩
            rw [← hHL] at hg2 ⊢
            (apply Fin.returnA (H2 := hL2 ++ (hp5 ++ H)); assumption; (first | exact .inl rfl | exact .inr rfl); exact rfl; (exact a_res); (simp only [retv]; rfl); (exact a_arr))
            exact ⟨hM1.trans_ (hM2.trans_ (hM3.trans_ (hM4.trans_ hM5))), hp5, ho5, .inr ⟨rfl, bx, hL2, rfl, hg2.mono hM5, rfl⟩⟩
      · have hf : fine = true := by assumption
        have h0 : ¬ 0 < it.length := by omega
        subst hf
        rw [if_neg h0, if_pos rfl] at hop2
        rw [hop2] at hop
        have hg2 := hg.mono hM4
        have hok2 := hok
        · skip
          apply Fin.arr (H2 := ((bx, lgO db lim (.slice Ap ps.length cpp)) :: (hrow ++ ptH ps)) ++ (hp ++ H)) (by (exact a_art))
          refine Fin.again (⟨j + 1, jj + 1, ss, (bx, lgO db lim (.slice Ap ps.length cpp)) :: (hrow ++ ptH ps), M4⟩ : OqX) ⟨by dsimp only; omega, by dsimp only; omega, hM3.trans_ hM4, hg2, hok2, ?_, ?_⟩ (by dsimp only; omega) ?_ rfl rfl
          · dsimp only
            (try rw [List.length_append, List.length_singleton])
            omega
          · dsimp only
            exact hop
          · (exact a_subs)
      · have hf : fine = false := by assumption
        have h0 : ¬ 0 < it.length := by omega
        subst hf
        rw [if_neg (by decide), if_neg h0] at hop2
        rw [hop2] at hop
        clear hop2
        have hg2 := hg.mono hM4
        · skip
          have hlenD : (f_ :: ns.drop (j + 1)).length = ns.length - jj.toNat := by rw [← hdrop, List.length_drop]; omega
          have hcut : Pl M4 (adv (some ⟨b, o, none⟩) jj.toNat 1 cv) (nmC (f_ :: ns.drop (j + 1))) := by
            have h1 := ((hpA.mono hM3).mono hM4).cut (l := jj.toNat) (size := 1) (cap := cv) (by rw [nmC_len]; omega)
            rw [Nat.mul_one, show jj.toNat = j by omega] at h1
            rw [← hdrop, show jj.toNat = j by omega]
            unfold nmC at h1 ⊢
            rw [List.map_drop]
            exact h1
          have hnsD : ∀ n ∈ f_ :: ns.drop (j + 1), n ≤ 72057594037927935 := by rw [← hdrop]; exact fun n hn => hnok n (List.mem_of_mem_drop hn)
          have hK := mend_K (lb := bx) (lim := lim) (Al := Al) (cl := cl) (cap := cv - jj.toNat) (Apv := Ap) (npv := ps.length) (cpv := cpp) (H := (b14, .cells [.int .u64 ↑f_, .slice Al it.length cl, .slice Ae it.length ce].toArray 68 (0, 0)) :: (hrow ++ (ptH ps ++ (lh ++ H)))) hcut hnsD (by rw [hlenD]; omega) ((ho.mono hM3).mono hM4) (by omega) hnb hoT
          rw [hlenD] at hK
          (apply C.regionT (t := .free 0 (.free 1 (.free 2 (.free 3 (.free 4 (.one 5 (.free 6 .nil))))))) (Hs := [(b14, .cells [.int .u64 ↑f_, .slice Al it.length cl, .slice Ae it.length ce].toArray 68 (0, 0))]); exact Mix.h; (first | exact Arr.all _ | (exact a_arr) | (exact a_arrs)); (exact a_np); kernel_rfl)
          (repeat' (first | (apply RT.step; exact rfl; intro _ _ _; (apply Ok.move; exact rfl); exact rfl) | (apply RT.step; exact rfl; intro _ _ _; (apply Ok.sliceLo; exact rfl; exact rfl; omega; omega); exact rfl) | (first | (apply RT.step; exact rfl; intro _ _ _; (exact a_ok); exact rfl) | (apply RT.stepT; exact rfl; exact rfl; exact rfl; exact rfl; intro _ _ _; (exact a_ok); exact rfl) | (apply RT.stepF; exact rfl; exact rfl; exact rfl; exact rfl; exact rfl; exact rfl) | (apply RT.stepU; exact rfl; exact rfl; exact rfl; exact rfl; exact rfl) | (apply RT.one; apply OneT.effF; exact rfl; exact rfl; exact rfl; exact rfl; exact rfl; exact rfl) | (apply RT.one; apply OneT.effU; exact rfl; exact rfl; exact rfl; exact rfl; exact rfl))))
          (apply RT.one; apply OneT.eff; exact rfl; intro Kc hKc ops0)
          apply R.arr (H2 := (bx, lgO db lim (.slice Ap ps.length cpp)) :: (eh ++ (hp ++ ((b14, .cells [.int .u64 ↑f_, .slice Al it.length cl, .slice Ae it.length ce].toArray 68 (0, 0)) :: (hrow ++ (ptH ps ++ (lh ++ H))))))) (by (exact a_art))
          (apply R.call; (exact a_evs); exact rfl; exact hK; rintro _ M5 _ ⟨rfl, hM5, hp5, ho5, rfl⟩)
          (apply R.nil; apply Fin.kt hKc; exact hM5; (exact a_art))
          (repeat' (first | (apply RT.step; exact rfl; intro _ _ _; (exact a_ok); exact rfl) | (apply RT.stepT; exact rfl; exact rfl; exact rfl; exact rfl; intro _ _ _; (exact a_ok); exact rfl) | (apply RT.stepF; exact rfl; exact rfl; exact rfl; exact rfl; exact rfl; exact rfl) | (apply RT.stepU; exact rfl; exact rfl; exact rfl; exact rfl; exact rfl) | (apply RT.one; apply OneT.effF; exact rfl; exact rfl; exact rfl; exact rfl; exact rfl; exact rfl) | (apply RT.one; apply OneT.effU; exact rfl; exact rfl; exact rfl; exact rfl; exact rfl)))
          apply RT.nil
          (repeat' (first | refine a_go ?_ | (with_reducible apply Fin.thenK; assumption) | (with_reducible (first | apply C.seqK | apply C.regionK); intro _ _) | (apply R.buildSlice0; exact rfl; intro bz) | (apply R.box; exact rfl; (simp only [Value.cells]; rfl); exact rfl; intro bx) | (apply R.alloc; (simp only [Value.cells]; rfl); exact rfl; intro ba) | (apply R.buildSlice; (exact a_prt); exact rfl; exact rfl; (exact a_fills); exact rfl; intro bl) | (refine a_sp ?_ ?_; (intro h; skip; rotate_left; intro h; skip; rotate_left)) | fail))
          · have he : (mendD d (f_ :: ns.drop (j + 1)) f_ it).1 ≠ 0 := by assumption
            rw [if_pos he] at hop
            rw [hop] at hQ
            (apply Fin.returnA (H2 := hp5 ++ H); assumption; (first | exact .inl rfl | exact .inr rfl); exact rfl; (exact a_res); (simp only [retv]; rfl); (exact a_arr))
            exact ⟨hM1.trans_ (hM2.trans_ (hM3.trans_ (hM4.trans_ hM5))), hp5, ho5, .inl ⟨he, rfl, rfl⟩⟩
          · have he : (mendD d (f_ :: ns.drop (j + 1)) f_ it).1 = 0 := by assumption
            rw [if_neg (fun h => h he)] at hop
            rw [hop] at hQ
            apply Fin.blockOther rfl
            (repeat' (first | refine a_go ?_ | (with_reducible apply Fin.thenK; assumption) | (with_reducible (first | apply C.seqK | apply C.regionK); intro _ _) | (apply R.buildSlice0; exact rfl; intro bz) | (apply R.box; exact rfl; (simp only [Value.cells]; rfl); exact rfl; intro bx) | (apply R.alloc; (simp only [Value.cells]; rfl); exact rfl; intro ba) | (apply R.buildSlice; (exact a_prt); exact rfl; exact rfl; (exact a_fills); exact rfl; intro bl) | (refine a_sp ?_ ?_; (intro h; skip; rotate_left; intro h; skip; rotate_left)) | fail))
            apply Fin.arr (H2 := ((bx, lgO db lim (.slice Ap ps.length cpp)) :: (hrow ++ ptH ps)) ++ (hp5 ++ H)) (by (exact a_art))
            obtain ⟨hL2, hHL⟩ : ∃ x : Hp, x = ((bx, lgO db lim (.slice Ap ps.length cpp)) :: (hrow ++ ptH ps)) := ⟨_, rfl⟩
            rw [← hHL] at hg2 ⊢
            (apply Fin.returnA (H2 := hL2 ++ (hp5 ++ H)); assumption; (first | exact .inl rfl | exact .inr rfl); exact rfl; (exact a_res); (simp only [retv]; rfl); (exact a_arr))
            exact ⟨hM1.trans_ (hM2.trans_ (hM3.trans_ (hM4.trans_ hM5))), hp5, ho5, .inr ⟨rfl, bx, hL2, rfl, hg2.mono hM5, rfl⟩⟩
    · have hdr : ns.drop j = [] := List.drop_eq_nil_of_le (by omega)
      rw [hdr] at hop
      have hopS : openG d ns [] = (0, d, ss) := hop
      rw [hopS] at hQ
      (repeat' (first | (apply R.step; (apply Ok.move; exact rfl); exact rfl) | (apply R.step; (first | (apply Ok.ltTr; exact rfl; exact rfl; omega) | (apply Ok.ltF; exact rfl; exact rfl; omega) | (apply Ok.gtTr; exact rfl; exact rfl; omega) | (apply Ok.gtF; exact rfl; exact rfl; omega) | (apply Ok.geTr; exact rfl; exact rfl; omega) | (apply Ok.geF; exact rfl; exact rfl; omega) | (apply Ok.leTr; exact rfl; exact rfl; omega) | (apply Ok.leF; exact rfl; exact rfl; omega) | (apply Ok.neIT; exact rfl; exact rfl; omega) | (apply Ok.eqIF; exact rfl; exact rfl; omega)); exact rfl) | refine a_go ?_ | (with_reducible apply Fin.thenK; assumption) | (with_reducible (first | apply C.seqK | apply C.regionK); intro _ _) | (apply R.buildSlice0; exact rfl; intro bz) | (apply R.box; exact rfl; (simp only [Value.cells]; rfl); exact rfl; intro bx) | (apply R.alloc; (simp only [Value.cells]; rfl); exact rfl; intro ba) | (apply R.buildSlice; (exact a_prt); exact rfl; exact rfl; (exact a_fills); exact rfl; intro bl) | (refine a_sp ?_ ?_; (intro h; skip; rotate_left; intro h; skip; rotate_left)) | fail))
      (apply Fin.returnA (H2 := hL ++ (hp ++ H)); assumption; (first | exact .inl rfl | exact .inr rfl); exact rfl; (exact a_res); (simp only [retv]; rfl); (exact a_arr))
      exact ⟨hM1.trans_ (hM2.trans_ hM3), hp, ho.mono hM3, .inr ⟨rfl, bx, hL, rfl, hg, rfl⟩⟩
end Go.Sx
end
section
namespace Go.Sx
open Go Go.Proofs Go.RowKit
attribute [local irreducible] C R Fin K Own OwnT Rd Pl Ok KOf RetOk OpsOf RP KP Res NoPanic KV KE RT KT OneT RS KS OneS
variable {M M' : Mem} {H H1 H2 : Hp}
theorem stwin_KO {e : En} {A : Option Addr} {cap : Nat} (hp : Pl M A (e.data.map bv)) (hl : e.data.length ≤ 140737488351232) : K Try.prog 37 [eV e (.slice A e.data.length cap)] M H fun v M' H' => ∃ v' hp', v = eV e v' ∧ Own 5 1 v' e.data.length (e.data.map bv) hp' ∧ M' = M ∧ H' = hp' ++ H := by
  refine K.enterK Try.func37 rfl rfl rfl ?_
  intro Q hNP hQ
  (repeat' (first | refine a_go ?_ | (with_reducible apply Fin.thenK; assumption) | (with_reducible (first | apply C.seqK | apply C.regionK); intro _ _) | (apply R.buildSlice0; exact rfl; intro bz) | (apply R.box; exact rfl; (simp only [Value.cells]; rfl); exact rfl; intro bx) | (apply R.alloc; (simp only [Value.cells]; rfl); exact rfl; intro ba) | (apply R.buildSlice; (exact a_prt); exact rfl; exact rfl; (exact a_fills); exact rfl; intro bl) | (refine a_sp ?_ ?_; (intro h; skip; rotate_left; intro h; skip; rotate_left)) | fail))
  (apply R.append; exact rfl; exact rfl; exact Own.empty; (exact a_tk); exact hp.rd; (focus (simp; done)); (intro u hu; obtain ⟨_, _, rfl⟩ := List.mem_map.1 hu; rfl); omega; exact rfl; decide; decide; exact rfl; rintro v4 hp4 hown4)
  have hown : Own 5 1 v4 e.data.length (e.data.map bv) hp4 := by simpa using hown4
  clear hown4
  obtain ⟨A4, c4, rfl, _, _⟩ := hown.form
  (repeat' (first | refine a_go ?_ | (with_reducible apply Fin.thenK; assumption) | (with_reducible (first | apply C.seqK | apply C.regionK); intro _ _) | (apply R.buildSlice0; exact rfl; intro bz) | (apply R.box; exact rfl; (simp only [Value.cells]; rfl); exact rfl; intro bx) | (apply R.alloc; (simp only [Value.cells]; rfl); exact rfl; intro ba) | (apply R.buildSlice; (exact a_prt); exact rfl; exact rfl; (exact a_fills); exact rfl; intro bl) | (refine a_sp ?_ ?_; (intro h; skip; rotate_left; intro h; skip; rotate_left)) | fail))
  (apply Fin.returnA (H2 := hp4 ++ H); assumption; (first | exact .inl rfl | exact .inr rfl); exact rfl; (exact a_res); (simp only [retv]; rfl); (exact a_arr))
  exact ⟨_, hp4, rfl, hown, rfl, rfl⟩
theorem stwin_K {e : En} {A : Option Addr} {cap : Nat} (hp : Pl M A (e.data.map bv)) (hl : e.data.length ≤ 140737488351232) : K Try.prog 37 [eV e (.slice A e.data.length cap)] M H fun v M' H' => ∃ A' c', v = eV e (.slice A' e.data.length c') ∧ PlB M' (.slice A' e.data.length c') e.data ∧ M.le M' ∧ H' = H := by
  refine (stwin_KO hp hl).freezeT ?_
  rintro v M' H' ⟨v', hp', rfl, hown, rfl, rfl⟩
  obtain ⟨A', c', rfl, _, _⟩ := hown.form
  exact ⟨hp', H, by (exact a_arr), fun M2 hM2 hin => ⟨A', c', rfl, hown.plB hin, hM2, rfl⟩⟩
def listG (ss : List Sg) : List En := ss.flatMap Sg.es
theorem listG_snoc (ss : List Sg) (s : Sg) : listG (ss ++ [s]) = listG ss ++ s.es := by simp [listG]
theorem listG_take_le (ss : List Sg) (k : Nat) : (listG (ss.take k)).length ≤ (listG ss).length := by
  have h : listG ss = listG (ss.take k) ++ listG (ss.drop k) := by
    unfold listG
    rw [← List.flatMap_append, List.take_append_drop]
  rw [h, List.length_append]
  omega
structure LsX where
  k : Nat
  kk : Int
  xs : List Ow
  v : Value
  hrow : Hp
theorem slist_KO {lb db : Nat} {lim : Int} {ss : List Sg} (hg : SgP M lb db lim ss) (hok : sgsOk ss) (hn : (listG ss).length ≤ 2513169434842) : K Try.prog 23 [.pointer (some ⟨lb, 0, none⟩)] M H fun v' M' H' => ∃ xs hrow, OwnEs v' xs hrow ∧ owE xs = listG ss ∧ M' = M ∧ H' = hrow ++ (owH xs ++ H) := by
  obtain ⟨ps, Ap, cp, hss, hMl, p1, p2, p3, p4⟩ := hg
  have hpl : ps.length = ss.length := by rw [← hss, List.length_map]
  refine K.enterK Try.func23 rfl rfl rfl ?_
  intro Q hNP hQ
  unfold lgO at hMl
  have hpv : (#[.pointer (some ⟨db, 0, none⟩), .int .i64 lim, .slice Ap ps.length cp] : Array Value)[0 + 2]? = some (.slice Ap ps.length cp) := rfl
  (repeat' (first | (apply R.step; (apply Ok.move; exact rfl); exact rfl) | (apply R.step; (apply Ok.loadP; exact rfl; exact rfl; exact hMl; exact hpv); exact rfl) | refine a_go ?_ | (with_reducible apply Fin.thenK; assumption) | (with_reducible (first | apply C.seqK | apply C.regionK); intro _ _) | (apply R.buildSlice0; exact rfl; intro bz) | (apply R.box; exact rfl; (simp only [Value.cells]; rfl); exact rfl; intro bx) | (apply R.alloc; (simp only [Value.cells]; rfl); exact rfl; intro ba) | (apply R.buildSlice; (exact a_prt); exact rfl; exact rfl; (exact a_fills); exact rfl; intro bl) | (refine a_sp ?_ ?_; (intro h; skip; rotate_left; intro h; skip; rotate_left)) | fail))
  apply C.loop (fun x : LsX => (x.k : Int) = x.kk ∧ x.k ≤ ss.length ∧ OwnEs x.v x.xs x.hrow ∧ owE x.xs = listG (ss.take x.k))
    (fun x => [(3, x.v), (11, .slice Ap ps.length cp), (12, .int .i64 (ps.length : Int)), (13, .int .i64 x.kk)]) (fun _ => M) (fun x => x.hrow ++ (owH x.xs ++ H)) (fun x => ss.length - x.k) ⟨0, 0, [], .slice none 0 0, []⟩
  · exact ⟨rfl, Nat.zero_le _, OwnEs.nil, by simp [owE, listG]⟩
  · (exact a_subs)
  · exact rfl
  · exact rfl
  rintro ⟨k, kk, xs, v, hrow⟩ ⟨hkk, hk, how, hxs⟩
  dsimp only at hkk hk how hxs ⊢
  by_cases hks : k < ss.length
  · have htk : ss.take (k + 1) = ss.take k ++ [ss[k]] := List.take_succ_eq_append_getElem hks
    have hkp : k < ps.length := by omega
    obtain ⟨b, o, cc, e0, fr, hA, hMb, hcell⟩ := row_agg p3 (ptC_all ps) (by decide) (k := k) (by rw [List.length_map]; exact hkp)
    subst hA
    rw [List.getElem_map, show o + k * 3 = o + kk.toNat * 3 by omega] at hcell
    have hsp : ps[k].s = ss[k] := by
      have h1 : (ps.map PtV.s)[k]? = ss[k]? := by rw [hss]
      rw [List.getElem?_map, List.getElem?_eq_getElem hkp, List.getElem?_eq_getElem hks] at h1
      exact Option.some.inj h1
    have hpm := p4 ps[k] (List.getElem_mem hkp)
    have hso := hok ss[k] (List.getElem_mem hks)
    have hle : (listG (ss.take (k + 1))).length ≤ (listG ss).length := listG_take_le ss (k + 1)
    rw [htk, listG_snoc, List.length_append] at hle
    generalize ps[k] = p at hcell hsp hpm
    generalize ss[k] = s at htk hsp hso hle
    obtain ⟨s_, lv, ev, lh, eh⟩ := p
    dsimp only at hsp
    subst hsp
    obtain ⟨hE, Ae, ce, hev, e1, e2, e3⟩ := hpm
    obtain ⟨Al, cl, vs, hlv, l1, l2, l3, l4⟩ := hE
    dsimp only at hev e1 e2 e3 hlv l1 l3 l4
    subst hev hlv
    have hel := Sg.es_len s_
    rw [hel] at l1
    have hcell' : ∀ (q : Nat) u, [Value.int .u64 (s_.first : Int), .slice Al s_.es.length cl, .slice Ae s_.it.length ce][q]? = some u → cc[o + kk.toNat * 3 + q]? = some u := hcell
    have hsl : s_.es.length < 9223372036854775807 := by omega
    (repeat' (first | (apply R.step; (apply Ok.move; exact rfl); exact rfl) | (apply R.step; (first | (apply Ok.ltTr; exact rfl; exact rfl; omega) | (apply Ok.ltF; exact rfl; exact rfl; omega) | (apply Ok.gtTr; exact rfl; exact rfl; omega) | (apply Ok.gtF; exact rfl; exact rfl; omega) | (apply Ok.geTr; exact rfl; exact rfl; omega) | (apply Ok.geF; exact rfl; exact rfl; omega) | (apply Ok.leTr; exact rfl; exact rfl; omega) | (apply Ok.leF; exact rfl; exact rfl; omega) | (apply Ok.neIT; exact rfl; exact rfl; omega) | (apply Ok.eqIF; exact rfl; exact rfl; omega)); exact rfl) | (apply R.step; (first | (apply Ok.indexAddr; exact rfl; exact rfl; omega; omega) | (apply Ok.loadAggP (vs := [Value.int .u64 (s_.first : Int), .slice Al s_.es.length cl, .slice Ae s_.it.length ce]); exact rfl; exact rfl; exact hMb; exact rfl; exact hcell')); exact rfl) | refine a_go ?_ | (with_reducible apply Fin.thenK; assumption) | (with_reducible (first | apply C.seqK | apply C.regionK); intro _ _) | (apply R.buildSlice0; exact rfl; intro bz) | (apply R.box; exact rfl; (simp only [Value.cells]; rfl); exact rfl; intro bx) | (apply R.alloc; (simp only [Value.cells]; rfl); exact rfl; intro ba) | (apply R.buildSlice; (exact a_prt); exact rfl; exact rfl; (exact a_fills); exact rfl; intro bl) | (refine a_sp ?_ ?_; (intro h; skip; rotate_left; intro h; skip; rotate_left)) | fail))
    apply C.arr (H2 := hrow ++ (owH xs ++ H)) (by (exact a_arrs))
    apply C.loop (fun x : LsX => (x.k : Int) = x.kk ∧ x.k ≤ s_.es.length ∧ OwnEs x.v x.xs x.hrow ∧ owE x.xs = listG (ss.take k) ++ s_.es.take x.k)
      (fun x => [(3, x.v), (11, .slice (some ⟨b, o, none⟩) ps.length cp), (12, .int .i64 (ps.length : Int)), (13, .int .i64 kk), (18, .slice Al s_.es.length cl), (19, .int .i64 (s_.es.length : Int)), (20, .int .i64 x.kk)]) (fun _ => M) (fun x => x.hrow ++ (owH x.xs ++ H)) (fun x => s_.es.length - x.k) ⟨0, 0, xs, v, hrow⟩
    · exact ⟨rfl, Nat.zero_le _, how, by rw [hxs, List.take_zero, List.append_nil]⟩
    · (exact a_subs)
    · exact rfl
    · exact rfl
    rintro ⟨i, ii, ys, w, hrw⟩ ⟨hii, hi, how2, hys⟩
    dsimp only at hii hi how2 hys ⊢
    by_cases his : i < s_.es.length
    · obtain ⟨b2, o2, c2, e2', fr2, Ai, ci, rfl, hMb2, hcell2, _, _, _, hpi⟩ := en_at l3 l4 his
      rw [show o2 + i * 5 = o2 + ii.toNat * 5 by omega] at hcell2
      have hdl : s_.es[i].data.length ≤ 140737488351232 := by
        have := (entS_kind (hso.2 _ (List.getElem_mem his))).2.2.2.2.2.2
        omega
      have htk2 : s_.es.take (i + 1) = s_.es.take i ++ [s_.es[i]] := List.take_succ_eq_append_getElem his
      have hyl : ys.length + 1 ≤ 2513169434842 := by
        have h1 := congrArg List.length hys
        rw [List.length_append, List.length_take] at h1
        unfold owE at h1
        rw [List.length_map] at h1
        omega
      generalize s_.es[i] = x at hcell2 hpi hdl htk2
      obtain ⟨AO, capO, rfl, hoc, hoc2⟩ := how2.1.form
      (repeat' (first | (apply R.step; (apply Ok.move; exact rfl); exact rfl) | (apply R.step; (first | (apply Ok.ltTr; exact rfl; exact rfl; omega) | (apply Ok.ltF; exact rfl; exact rfl; omega) | (apply Ok.gtTr; exact rfl; exact rfl; omega) | (apply Ok.gtF; exact rfl; exact rfl; omega) | (apply Ok.geTr; exact rfl; exact rfl; omega) | (apply Ok.geF; exact rfl; exact rfl; omega) | (apply Ok.leTr; exact rfl; exact rfl; omega) | (apply Ok.leF; exact rfl; exact rfl; omega) | (apply Ok.neIT; exact rfl; exact rfl; omega) | (apply Ok.eqIF; exact rfl; exact rfl; omega)); exact rfl) | (apply R.step; (first | (apply Ok.indexAddr; exact rfl; exact rfl; omega; omega) | (apply Ok.loadAggP (vs := ecells x (.slice Ai x.data.length ci)); exact rfl; exact rfl; exact hMb2; exact rfl; exact hcell2)); exact rfl) | refine a_go ?_ | (with_reducible apply Fin.thenK; assumption) | (with_reducible (first | apply C.seqK | apply C.regionK); intro _ _) | (apply R.buildSlice0; exact rfl; intro bz) | (apply R.box; exact rfl; (simp only [Value.cells]; rfl); exact rfl; intro bx) | (apply R.alloc; (simp only [Value.cells]; rfl); exact rfl; intro ba) | (apply R.buildSlice; (exact a_prt); exact rfl; exact rfl; (exact a_fills); exact rfl; intro bl) | (refine a_sp ?_ ?_; (intro h; skip; rotate_left; intro h; skip; rotate_left)) | fail))
      (apply R.call; (exact a_evs); exact rfl); exact stwin_KO hpi hdl; rintro _ M H' ⟨v', hp', rfl, hown', rfl, rfl⟩
      (repeat' (first | refine a_go ?_ | (with_reducible apply Fin.thenK; assumption) | (with_reducible (first | apply C.seqK | apply C.regionK); intro _ _) | (apply R.buildSlice0; exact rfl; intro bz) | (apply R.box; exact rfl; (simp only [Value.cells]; rfl); exact rfl; intro bx) | (apply R.alloc; (simp only [Value.cells]; rfl); exact rfl; intro ba) | (apply R.buildSlice; (exact a_prt); exact rfl; exact rfl; (exact a_fills); exact rfl; intro bl) | (refine a_sp ?_ ?_; (intro h; skip; rotate_left; intro h; skip; rotate_left)) | fail))
      (apply R.append (news := ecells x v'); exact rfl; exact rfl; exact how2.1; (exact a_tk); exact Rd.at_ (l := ecells x v') (by (exact a_at)) (fun j u h => by rw [Nat.zero_add]; exact h); exact rfl; (intro u hu; obtain ⟨Ao, co, rfl, _, _⟩ := hown'.form; simp only [ecells, List.mem_cons, List.not_mem_nil, or_false] at hu; rcases hu with rfl | rfl | rfl | rfl | rfl <;> rfl); omega; exact rfl; decide; decide; exact rfl; rintro ov1 hrow1 how1)
      apply R.arr (H2 := hrow1 ++ (owH ys ++ (hp' ++ H))) (by (exact a_arr))
      (repeat' (first | refine a_go ?_ | (with_reducible apply Fin.thenK; assumption) | (with_reducible (first | apply C.seqK | apply C.regionK); intro _ _) | (apply R.buildSlice0; exact rfl; intro bz) | (apply R.box; exact rfl; (simp only [Value.cells]; rfl); exact rfl; intro bx) | (apply R.alloc; (simp only [Value.cells]; rfl); exact rfl; intro ba) | (apply R.buildSlice; (exact a_prt); exact rfl; exact rfl; (exact a_fills); exact rfl; intro bl) | (refine a_sp ?_ ?_; (intro h; skip; rotate_left; intro h; skip; rotate_left)) | fail))
      refine Fin.again (⟨i + 1, ii + 1, ys ++ [⟨x, v', hp'⟩], ov1, hrow1⟩ : LsX) ⟨by dsimp only; omega, by dsimp only; omega, OwnEs.snoc how2.2 hown' how1, by dsimp only; rw [owE_snoc, hys, htk2, List.append_assoc]⟩ (by dsimp only; omega) ?_ rfl (by dsimp only; rw [ow_snoc, List.append_assoc])
      dsimp only
      (exact a_subs)
    · have hie : i = s_.es.length := by omega
      rw [hie, List.take_of_length_le (Nat.le_refl _)] at hys
      (repeat' (first | (apply R.step; (apply Ok.move; exact rfl); exact rfl) | (apply R.step; (first | (apply Ok.ltTr; exact rfl; exact rfl; omega) | (apply Ok.ltF; exact rfl; exact rfl; omega) | (apply Ok.gtTr; exact rfl; exact rfl; omega) | (apply Ok.gtF; exact rfl; exact rfl; omega) | (apply Ok.geTr; exact rfl; exact rfl; omega) | (apply Ok.geF; exact rfl; exact rfl; omega) | (apply Ok.leTr; exact rfl; exact rfl; omega) | (apply Ok.leF; exact rfl; exact rfl; omega) | (apply Ok.neIT; exact rfl; exact rfl; omega) | (apply Ok.eqIF; exact rfl; exact rfl; omega)); exact rfl) | refine a_go ?_ | (with_reducible apply Fin.thenK; assumption) | (with_reducible (first | apply C.seqK | apply C.regionK); intro _ _) | (apply R.buildSlice0; exact rfl; intro bz) | (apply R.box; exact rfl; (simp only [Value.cells]; rfl); exact rfl; intro bx) | (apply R.alloc; (simp only [Value.cells]; rfl); exact rfl; intro ba) | (apply R.buildSlice; (exact a_prt); exact rfl; exact rfl; (exact a_fills); exact rfl; intro bl) | (refine a_sp ?_ ?_; (intro h; skip; rotate_left; intro h; skip; rotate_left)) | fail))
      refine Fin.again (⟨k + 1, kk + 1, ys, w, hrw⟩ : LsX) ⟨by dsimp only; omega, by dsimp only; omega, how2, by dsimp only; rw [htk, listG_snoc, hys]⟩ (by dsimp only; omega) ?_ rfl rfl
      dsimp only
      (exact a_subs)
  · have hke : k = ss.length := by omega
    rw [hke, List.take_of_length_le (Nat.le_refl _)] at hxs
    (repeat' (first | (apply R.step; (apply Ok.move; exact rfl); exact rfl) | (apply R.step; (first | (apply Ok.ltTr; exact rfl; exact rfl; omega) | (apply Ok.ltF; exact rfl; exact rfl; omega) | (apply Ok.gtTr; exact rfl; exact rfl; omega) | (apply Ok.gtF; exact rfl; exact rfl; omega) | (apply Ok.geTr; exact rfl; exact rfl; omega) | (apply Ok.geF; exact rfl; exact rfl; omega) | (apply Ok.leTr; exact rfl; exact rfl; omega) | (apply Ok.leF; exact rfl; exact rfl; omega) | (apply Ok.neIT; exact rfl; exact rfl; omega) | (apply Ok.eqIF; exact rfl; exact rfl; omega)); exact rfl) | refine a_go ?_ | (with_reducible apply Fin.thenK; assumption) | (with_reducible (first | apply C.seqK | apply C.regionK); intro _ _) | (apply R.buildSlice0; exact rfl; intro bz) | (apply R.box; exact rfl; (simp only [Value.cells]; rfl); exact rfl; intro bx) | (apply R.alloc; (simp only [Value.cells]; rfl); exact rfl; intro ba) | (apply R.buildSlice; (exact a_prt); exact rfl; exact rfl; (exact a_fills); exact rfl; intro bl) | (refine a_sp ?_ ?_; (intro h; skip; rotate_left; intro h; skip; rotate_left)) | fail))
    (refine Fin.rt ?_)
    exact ⟨xs, hrow, how, hxs, rfl, rfl⟩
theorem slist_KL {lb db : Nat} {lim : Int} {ss : List Sg} {hL : Hp} (hg : SgO M lb db lim ss hL) (hok : sgsOk ss) (hn : (listG ss).length ≤ 2513169434842) (ha : Arr H (hL ++ H1)) : K Try.prog 23 [.pointer (some ⟨lb, 0, none⟩)] M H fun v' M' H' => EnL M' v' (listG ss) ∧ M.le M' ∧ H' = hL ++ H1 := by
  have h0 : K Try.prog 23 [.pointer (some ⟨lb, 0, none⟩)] M H fun v' M' H' => ∃ xs hrow, OwnEs v' xs hrow ∧ owE xs = listG ss ∧ M' = M ∧ H' = hL ++ (hrow ++ (owH xs ++ H1)) :=
    K.lends ha fun M2 hM2 hin => by
      refine (slist_KO (hg.sgP hM2 hin) hok hn).mono ?_
      rintro v' M' H' ⟨xs, hrow, h1, h2, rfl, rfl⟩
      exact ⟨rfl, xs, hrow, h1, h2, rfl, rfl⟩
  refine h0.freezeT ?_
  rintro v' M' H' ⟨xs, hrow, how, hxs, rfl, rfl⟩
  exact ⟨hrow ++ owH xs, hL ++ H1, by rw [List.append_assoc]; (exact a_arr), fun M2 hM2 hin => ⟨hxs ▸ how.enL hin, hM2, rfl⟩⟩
def firstG (ss : List Sg) : Int := match ss.head? with
  | some s => match s.es.head? with
    | some e => e.idx
    | none => 0
  | none => 0
def lastG (ss : List Sg) : Int := match lastO ss with
  | some a => a.idx
  | none => 0
theorem sfirst_K {lb db : Nat} {lim : Int} {ss : List Sg} (hg : SgP M lb db lim ss) (hok : sgsOk ss) : K Try.prog 16 [.pointer (some ⟨lb, 0, none⟩)] M H fun v' M' H' => v' = .int .u64 (firstG ss) ∧ M' = M ∧ H' = H := by
  obtain ⟨ps, Ap, cp, hss, hMl, p1, p2, p3, p4⟩ := hg
  have hpl : ps.length = ss.length := by rw [← hss, List.length_map]
  refine K.enterK Try.func16 rfl rfl rfl ?_
  intro Q hNP hQ
  unfold lgO at hMl
  have hpv : (#[.pointer (some ⟨db, 0, none⟩), .int .i64 lim, .slice Ap ps.length cp] : Array Value)[0 + 2]? = some (.slice Ap ps.length cp) := rfl
  match ps, hss, hpl with
  | [], hss, hpl =>
    cases hss
    (repeat' (first | (apply R.step; (apply Ok.move; exact rfl); exact rfl) | (apply R.step; (first | (apply Ok.loadP; exact rfl; exact rfl; exact hMl; exact hpv) | (apply Ok.eqIR; exact rfl; exact rfl; rfl)); exact rfl) | refine a_go ?_ | (with_reducible apply Fin.thenK; assumption) | (with_reducible (first | apply C.seqK | apply C.regionK); intro _ _) | (apply R.buildSlice0; exact rfl; intro bz) | (apply R.box; exact rfl; (simp only [Value.cells]; rfl); exact rfl; intro bx) | (apply R.alloc; (simp only [Value.cells]; rfl); exact rfl; intro ba) | (apply R.buildSlice; (exact a_prt); exact rfl; exact rfl; (exact a_fills); exact rfl; intro bl) | (refine a_sp ?_ ?_; (intro h; skip; rotate_left; intro h; skip; rotate_left)) | fail))
    (refine Fin.rt ?_)
    exact ⟨rfl, rfl, rfl⟩
  | p :: ps', hss, hpl =>
    obtain ⟨b, o, cc, e0, fr, hA, hMb, hcell⟩ := row_agg p3 (ptC_all (p :: ps')) (by decide) (k := 0) (by rw [List.length_map]; exact Nat.zero_lt_succ _)
    subst hA
    have hpm := p4 p (List.mem_cons_self ..)
    have hsh : ss.head? = some p.s := by rw [← hss]; rfl
    have hso := hok p.s (by rw [← hss]; exact List.mem_cons_self ..)
    obtain ⟨s_, lv, ev, lh, eh⟩ := p
    obtain ⟨hE, Ae, ce, hev, e1, e2, e3⟩ := hpm
    obtain ⟨Al, cl, vs, hlv, l1, l2, l3, l4⟩ := hE
    dsimp only at hev e1 e2 e3 hlv l1 l3 l4 hsh hso
    subst hev hlv
    have hel := Sg.es_len s_
    have h0 : 0 < s_.es.length := by omega
    have hfg : firstG ss = (s_.es[0]).idx := by
      unfold firstG
      rw [hsh]
      dsimp only
      rw [List.head?_eq_getElem?, List.getElem?_eq_getElem h0]
    have hcell1 : cc[o + (0 : Int).toNat * 3 + 1]? = some (.slice Al s_.es.length cl) := hcell 1 _ rfl
    obtain ⟨b2, o2, c2, e2', fr2, Ai, ci, rfl, hMb2, hcell2, _, _, _, hpi⟩ := en_at l3 l4 h0
    have hcell3 : c2[o2 + (0 : Int).toNat * 5 + 2]? = some (.int .u64 (s_.es[0]).idx) := hcell2 2 _ rfl
    have hne : (((⟨s_, .slice (some ⟨b2, o2, none⟩) s_.es.length cl, .slice Ae s_.it.length ce, lh, eh⟩ :: ps' : List PtV).length : Nat) : Int) ≠ 0 := by rw [List.length_cons]; omega
    have hpos : 0 < (⟨s_, .slice (some ⟨b2, o2, none⟩) s_.es.length cl, .slice Ae s_.it.length ce, lh, eh⟩ :: ps' : List PtV).length := Nat.zero_lt_succ _
    generalize (⟨s_, .slice (some ⟨b2, o2, none⟩) s_.es.length cl, .slice Ae s_.it.length ce, lh, eh⟩ :: ps' : List PtV).length = pn at hpv hMl p1 hne hpos
    rw [hfg] at hQ
    generalize s_.es[0] = x at hcell3 hQ
    (repeat' (first | (apply R.step; (apply Ok.move; exact rfl); exact rfl) | (apply R.step; (first | (apply Ok.eqIF; exact rfl; exact rfl; exact hne) | (apply Ok.indexAddr; exact rfl; exact rfl; omega; omega) | (apply Ok.loadP; exact rfl; exact rfl; (first | exact hMl | exact hMb | exact hMb2); (first | exact hpv | exact hcell1 | exact hcell3))); exact rfl) | refine a_go ?_ | (with_reducible apply Fin.thenK; assumption) | (with_reducible (first | apply C.seqK | apply C.regionK); intro _ _) | (apply R.buildSlice0; exact rfl; intro bz) | (apply R.box; exact rfl; (simp only [Value.cells]; rfl); exact rfl; intro bx) | (apply R.alloc; (simp only [Value.cells]; rfl); exact rfl; intro ba) | (apply R.buildSlice; (exact a_prt); exact rfl; exact rfl; (exact a_fills); exact rfl; intro bl) | (refine a_sp ?_ ?_; (intro h; skip; rotate_left; intro h; skip; rotate_left)) | fail))
    (refine Fin.rt ?_)
    exact ⟨rfl, rfl, rfl⟩
theorem slast_K {lb db : Nat} {lim : Int} {ss : List Sg} (hg : SgP M lb db lim ss) (hok : sgsOk ss) : K Try.prog 15 [.pointer (some ⟨lb, 0, none⟩)] M H fun v' M' H' => v' = .int .u64 (lastG ss) ∧ M' = M ∧ H' = H := by
  refine K.enterK Try.func15 rfl rfl rfl ?_
  intro Q hNP hQ
  by_cases h2 : ss.length = 0
  · have hnl : ss = [] := List.eq_nil_of_length_eq_zero h2
    subst hnl
    obtain ⟨Ap, cp, hMl2⟩ := hg.recE
    have hpv : (#[.pointer (some ⟨db, 0, none⟩), .int .i64 lim, .slice Ap 0 cp] : Array Value)[0 + 2]? = some (.slice Ap 0 cp) := rfl
    (repeat' (first | (apply R.step; (apply Ok.move; exact rfl); exact rfl) | (apply R.step; (first | (apply Ok.eqIR; exact rfl; exact rfl; rfl) | (apply Ok.loadP; exact rfl; exact rfl; exact hMl2; exact hpv)); exact rfl) | refine a_go ?_ | (with_reducible apply Fin.thenK; assumption) | (with_reducible (first | apply C.seqK | apply C.regionK); intro _ _) | (apply R.buildSlice0; exact rfl; intro bz) | (apply R.box; exact rfl; (simp only [Value.cells]; rfl); exact rfl; intro bx) | (apply R.alloc; (simp only [Value.cells]; rfl); exact rfl; intro ba) | (apply R.buildSlice; (exact a_prt); exact rfl; exact rfl; (exact a_fills); exact rfl; intro bl) | (refine a_sp ?_ ?_; (intro h; skip; rotate_left; intro h; skip; rotate_left)) | fail))
    (refine Fin.rt ?_)
    exact ⟨rfl, rfl, rfl⟩
  obtain ⟨s0, a, b, o, cp, cl0, ce', Al0, Ae, cc, hL⟩ := hg.last hok (by omega)
  have hMl2 := hL.rec_
  have hpv : (#[.pointer (some ⟨db, 0, none⟩), .int .i64 lim, .slice (some ⟨b, o, none⟩) ss.length cp] : Array Value)[0 + 2]? = some (.slice (some ⟨b, o, none⟩) ss.length cp) := rfl
  obtain ⟨e0, fr, hMb⟩ := hL.row
  have hcap := hL.cap1
  have hcap2 := hL.cap2
  have hak2 := hL.num
  have hagg := hL.cell
  obtain ⟨Al, cl, hbl, hK⟩ := plast_KQ (f := s0.first) (B := Ae) (m := s0.it.length) (cb := ce') hL.enl hL.lastE
  have hll : (ss.length : Int) - 1 = ((ss.length - 1 : Nat) : Int) := by omega
  have hlg : lastG ss = a.idx := by unfold lastG; rw [hL.lastOE]
  rw [hlg] at hQ
  (repeat' (first | (apply R.step; (apply Ok.move; exact rfl); exact rfl) | (apply R.step; (first | (apply Ok.eqIF; exact rfl; exact rfl; omega) | (apply Ok.loadP; exact rfl; exact rfl; exact hMl2; exact hpv)); exact rfl) | refine a_go ?_ | (with_reducible apply Fin.thenK; assumption) | (with_reducible (first | apply C.seqK | apply C.regionK); intro _ _) | (apply R.buildSlice0; exact rfl; intro bz) | (apply R.box; exact rfl; (simp only [Value.cells]; rfl); exact rfl; intro bx) | (apply R.alloc; (simp only [Value.cells]; rfl); exact rfl; intro ba) | (apply R.buildSlice; (exact a_prt); exact rfl; exact rfl; (exact a_fills); exact rfl; intro bl) | (refine a_sp ?_ ?_; (intro h; skip; rotate_left; intro h; skip; rotate_left)) | fail))
  (apply C.regionT (t := .free 0 (.free 1 (.free 2 (.free 3 (.free 4 (.free 5 (.free 6 (.free 7 (.free 8 (.free 9 (.free 10 (.free 11 (.free 12 (.free 13 (.free 14 .nil))))))))))))))) (Hs := []); exact Mix.h; (first | exact Arr.all _ | (exact a_arr) | (exact a_arrs)); (exact a_np); kernel_rfl)
  (repeat' (first | (apply RT.step; exact rfl; intro _ _ _; (apply Ok.move; exact rfl); exact rfl) | (apply RT.callQ; exact rfl; exact inferInstance; (exact a_evs); exact rfl; (intro M' Hx' hM'; exact hK M' _ hM')) | (apply RT.step; exact rfl; intro _ _ hMx; (first | (apply Ok.loadP; exact rfl; exact rfl; exact hMx.2.2 _ _ hMl2; exact hpv) | (apply Ok.subQ ((ss.length - 1 : Nat) : Int); exact rfl; exact rfl; exact hll; apply w64; omega; omega) | (apply Ok.indexAddr; exact rfl; exact rfl; omega; omega) | (apply Ok.loadAggP (vs := [Value.int .u64 (s0.first : Int), .slice Al0 s0.es.length cl0, .slice Ae s0.it.length ce']); exact rfl; exact rfl; exact hMx.2.2 _ _ hMb; exact rfl; exact hagg)); exact rfl) | (first | (apply RT.step; exact rfl; intro _ _ _; (exact a_ok); exact rfl) | (apply RT.stepT; exact rfl; exact rfl; exact rfl; exact rfl; intro _ _ _; (exact a_ok); exact rfl) | (apply RT.stepF; exact rfl; exact rfl; exact rfl; exact rfl; exact rfl; exact rfl) | (apply RT.stepU; exact rfl; exact rfl; exact rfl; exact rfl; exact rfl) | (apply RT.one; apply OneT.effF; exact rfl; exact rfl; exact rfl; exact rfl; exact rfl; exact rfl) | (apply RT.one; apply OneT.effU; exact rfl; exact rfl; exact rfl; exact rfl; exact rfl))))
  apply RT.nil
  (repeat' (first | refine a_go ?_ | (with_reducible apply Fin.thenK; assumption) | (with_reducible (first | apply C.seqK | apply C.regionK); intro _ _) | (apply R.buildSlice0; exact rfl; intro bz) | (apply R.box; exact rfl; (simp only [Value.cells]; rfl); exact rfl; intro bx) | (apply R.alloc; (simp only [Value.cells]; rfl); exact rfl; intro ba) | (apply R.buildSlice; (exact a_prt); exact rfl; exact rfl; (exact a_fills); exact rfl; intro bl) | (refine a_sp ?_ ?_; (intro h; skip; rotate_left; intro h; skip; rotate_left)) | fail))
  (apply Fin.returnA (H2 := H); assumption; (first | exact .inl rfl | exact .inr rfl); exact rfl; (exact a_res); (simp only [retv]; rfl); (exact a_arr))
  exact ⟨rfl, rfl, rfl⟩
theorem sfirst_KL {lb db : Nat} {lim : Int} {ss : List Sg} {hL : Hp} (hg : SgO M lb db lim ss hL) (hok : sgsOk ss) (ha : Arr H (hL ++ H1)) : K Try.prog 16 [.pointer (some ⟨lb, 0, none⟩)] M H fun v' M' H' => v' = .int .u64 (firstG ss) ∧ M' = M ∧ H' = hL ++ H1 :=
  K.lends ha fun M2 hM2 hin => (sfirst_K (hg.sgP hM2 hin) hok).mono fun v' M' H' ⟨h1, h2, h3⟩ => ⟨h2, h1, rfl, by rw [h3]⟩
theorem slast_KL {lb db : Nat} {lim : Int} {ss : List Sg} {hL : Hp} (hg : SgO M lb db lim ss hL) (hok : sgsOk ss) (ha : Arr H (hL ++ H1)) : K Try.prog 15 [.pointer (some ⟨lb, 0, none⟩)] M H fun v' M' H' => v' = .int .u64 (lastG ss) ∧ M' = M ∧ H' = hL ++ H1 :=
  K.lends ha fun M2 hM2 hin => (slast_K (hg.sgP hM2 hin) hok).mono fun v' M' H' ⟨h1, h2, h3⟩ => ⟨h2, h1, rfl, by rw [h3]⟩
end Go.Sx
end
section
namespace Go.Sx
open Go Go.Proofs Go.RowKit
attribute [local irreducible] C R Fin K Own OwnT Rd Pl Ok KOf RetOk OpsOf RP KP Res NoPanic KV KE RT KT OneT RS KS OneS
variable {M M' : Mem} {H H1 H2 : Hp}
def prevE (prev : Option En) (e : En) : Prop := match prev with
  | some a => fitE a e
  | none => True
instance (prev : Option En) (e : En) : Decidable (prevE prev e) := by unfold prevE; cases prev <;> exact inferInstance
def folE : Option En → List En → Prop
  | _, [] => True
  | prev, e :: es => entS e ∧ prevE prev e ∧ folE (some e) es
noncomputable instance (prev : Option En) (es : List En) : Decidable (folE prev es) := Classical.propDecidable _
def aheadC (prev : Option En) (cs : List Value) : Prop := match prev with
  | some a => 1 ≤ a.idx ∧ a.idx ≤ 72057594037927935 ∧ ∃ A c, cs = ecells a (.slice A a.data.length c)
  | none => cs = [.int .i64 0, .int .u64 0, .int .u64 0, .slice none 0 0, .int .i64 0]
structure FlX where
  k : Nat
  kk : Int
  prev : Option En
  cs : List Value
theorem sfollow_K {lb db : Nat} {lim : Int} {ss : List Sg} {v : Value} {es : List En} (hg : SgP M lb db lim ss) (hok : sgsOk ss) (he : EnL M v es) : K Try.prog 32 [.pointer (some ⟨lb, 0, none⟩), v] M H fun v' M' H' => v' = .bool (decide (folE (lastO ss) es)) ∧ M' = M ∧ H' = H := by
  obtain ⟨A, cap, vs, rfl, k1, k2, k3, k4⟩ := he
  refine K.enterK Try.func32 rfl rfl rfl ?_
  intro Q hNP hQ
  (repeat' (first | (apply R.step; (exact a_ok); exact rfl) | (first | (with_reducible first | apply R.nil | apply C.ret | apply C.block | apply C.skip | apply C.exit | apply Fin.thenRet | apply Fin.thenExit | apply Fin.blockNormal | apply Fin.blockRet | apply Fin.blockExit) | (with_reducible apply Fin.thenK; assumption) | (with_reducible apply C.seqK; intro _ _) | (with_reducible apply C.regionK; intro _ _) | (with_reducible apply Fin.blockOther; exact rfl)) | (apply R.store; exact rfl; exact rfl; exact rfl; (exact a_at); (exact a_blit); exact rfl; (focus (simp [Value.oneCell']; done))) | (first | (apply R.guardT; assumption; exact rfl; exact rfl; exact rfl) | (apply R.guardF; assumption; exact rfl; exact rfl; exact rfl; exact rfl; exact rfl) | (apply R.guardU; assumption; exact rfl; exact rfl; exact rfl; exact rfl) | (apply R.guardDec; assumption; exact rfl; exact rfl; (intro h; skip; rotate_left; intro h; skip; rotate_left)) | (apply R.guardBeq; assumption; exact rfl; exact rfl; (intro h; skip; rotate_left; intro h; skip; rotate_left)) | (apply R.guardBne; assumption; exact rfl; exact rfl; (intro h; skip; rotate_left; intro h; skip; rotate_left)) | (apply R.guardNDec; assumption; exact rfl; exact rfl; (intro h; skip; rotate_left; intro h; skip; rotate_left)) | (apply R.guardNot; assumption; exact rfl; exact rfl; (intro h; skip; rotate_left; intro h; skip; rotate_left)) | (apply R.guardC; assumption; exact rfl; exact rfl; (intro h; skip; rotate_left; intro h; skip; rotate_left))) | (first | (apply C.condT; exact rfl) | (apply C.condF; exact rfl) | (apply C.condDec; exact rfl; (intro h; skip; rotate_left; intro h; skip; rotate_left)) | (apply C.condBeq; exact rfl; (intro h; skip; rotate_left; intro h; skip; rotate_left)) | (apply C.condBne; exact rfl; (intro h; skip; rotate_left; intro h; skip; rotate_left)) | (apply C.condNDec; exact rfl; (intro h; skip; rotate_left; intro h; skip; rotate_left)) | (apply C.condNot; exact rfl; (intro h; skip; rotate_left; intro h; skip; rotate_left)) | (apply C.cond; exact rfl; (intro h; skip; rotate_left; intro h; skip; rotate_left)))))
  ((apply R.alloc; (simp only [Value.cells]; rfl); exact rfl); intro b5)
  (repeat' (first | (apply R.step; (exact a_ok); exact rfl) | (first | (with_reducible first | apply R.nil | apply C.ret | apply C.block | apply C.skip | apply C.exit | apply Fin.thenRet | apply Fin.thenExit | apply Fin.blockNormal | apply Fin.blockRet | apply Fin.blockExit) | (with_reducible apply Fin.thenK; assumption) | (with_reducible apply C.seqR; intro _ _) | (with_reducible apply C.regionK; intro _ _) | (with_reducible apply Fin.blockOther; exact rfl)) | (first | (apply R.store; exact rfl; exact rfl; exact rfl; (exact a_at); (exact a_blit); exact rfl; (focus (simp [Value.oneCell']; done))) | (apply R.buildSlice0; exact rfl; intro bz) | (apply R.box; exact rfl; (simp only [Value.cells]; rfl); exact rfl; intro bx) | (apply R.alloc; (simp only [Value.cells]; rfl); exact rfl; intro ba) | (apply R.buildSlice; (exact a_prt); exact rfl; exact rfl; (exact a_fills); exact rfl; intro bl)) | (first | (apply R.guardT; assumption; exact rfl; exact rfl; exact rfl) | (apply R.guardF; assumption; exact rfl; exact rfl; exact rfl; exact rfl; exact rfl) | (apply R.guardU; assumption; exact rfl; exact rfl; exact rfl; exact rfl) | (apply R.guardDec; assumption; exact rfl; exact rfl; (intro h; skip; rotate_left; intro h; skip; rotate_left)) | (apply R.guardBeq; assumption; exact rfl; exact rfl; (intro h; skip; rotate_left; intro h; skip; rotate_left)) | (apply R.guardBne; assumption; exact rfl; exact rfl; (intro h; skip; rotate_left; intro h; skip; rotate_left)) | (apply R.guardNDec; assumption; exact rfl; exact rfl; (intro h; skip; rotate_left; intro h; skip; rotate_left)) | (apply R.guardNot; assumption; exact rfl; exact rfl; (intro h; skip; rotate_left; intro h; skip; rotate_left)) | (apply R.guardC; assumption; exact rfl; exact rfl; (intro h; skip; rotate_left; intro h; skip; rotate_left)))))
  apply C.seqCut (X := List Value) (fun cs => aheadC (lastO ss) cs) (fun _ => [(0, .pointer (some ⟨lb, 0, none⟩)), (1, .slice A es.length cap), (5, .pointer (some ⟨b5, 0, none⟩))]) (fun _ => M) (fun cs => (b5, .cells cs.toArray 34 (0, 0)) :: H)
  · by_cases h2 : ss.length = 0
    · have hnl : ss = [] := List.eq_nil_of_length_eq_zero h2
      subst hnl
      obtain ⟨Ap, cp, hMl2⟩ := hg.recE
      have hpv : (#[.pointer (some ⟨db, 0, none⟩), .int .i64 lim, .slice Ap 0 cp] : Array Value)[0 + 2]? = some (.slice Ap 0 cp) := rfl
      (repeat' (first | (apply R.step; (apply Ok.move; exact rfl); exact rfl) | (apply R.step; (first | (apply Ok.gtF; exact rfl; exact rfl; decide) | (apply Ok.loadP; exact rfl; exact rfl; exact hMl2; exact hpv)); exact rfl) | refine a_go ?_ | (with_reducible apply Fin.thenK; assumption) | (with_reducible (first | apply C.seqK | apply C.regionK); intro _ _) | (apply R.buildSlice0; exact rfl; intro bz) | (apply R.box; exact rfl; (simp only [Value.cells]; rfl); exact rfl; intro bx) | (apply R.alloc; (simp only [Value.cells]; rfl); exact rfl; intro ba) | (apply R.buildSlice; (exact a_prt); exact rfl; exact rfl; (exact a_fills); exact rfl; intro bl) | (refine a_sp ?_ ?_; (intro h; skip; rotate_left; intro h; skip; rotate_left)) | fail))
      refine Fin.join ([.int .i64 0, .int .u64 0, .int .u64 0, .slice none 0 0, .int .i64 0] : List Value) rfl ?_ rfl rfl
      (exact a_subs)
    · obtain ⟨s0, a, b, o, cp, cl0, ce', Al0, Ae, cc, hL⟩ := hg.last hok (by omega)
      have hMl2 := hL.rec_
      have hpv : (#[.pointer (some ⟨db, 0, none⟩), .int .i64 lim, .slice (some ⟨b, o, none⟩) ss.length cp] : Array Value)[0 + 2]? = some (.slice (some ⟨b, o, none⟩) ss.length cp) := rfl
      obtain ⟨e0, fr, hMb⟩ := hL.row
      have hcap := hL.cap1
      have hcap2 := hL.cap2
      have hak2 := hL.num
      have hagg := hL.cell
      obtain ⟨Al, cl, hbl, hK⟩ := plast_KQ (f := s0.first) (B := Ae) (m := s0.it.length) (cb := ce') hL.enl hL.lastE
      have hll : (ss.length : Int) - 1 = ((ss.length - 1 : Nat) : Int) := by omega
      (repeat' (first | (apply R.step; (apply Ok.move; exact rfl); exact rfl) | (apply R.step; (first | (apply Ok.gtTr; exact rfl; exact rfl; omega) | (apply Ok.loadP; exact rfl; exact rfl; exact hMl2; exact hpv)); exact rfl) | refine a_go ?_ | (with_reducible apply Fin.thenK; assumption) | (with_reducible (first | apply C.seqK | apply C.regionK); intro _ _) | (apply R.buildSlice0; exact rfl; intro bz) | (apply R.box; exact rfl; (simp only [Value.cells]; rfl); exact rfl; intro bx) | (apply R.alloc; (simp only [Value.cells]; rfl); exact rfl; intro ba) | (apply R.buildSlice; (exact a_prt); exact rfl; exact rfl; (exact a_fills); exact rfl; intro bl) | (refine a_sp ?_ ?_; (intro h; skip; rotate_left; intro h; skip; rotate_left)) | fail))
      (apply C.regionT (t := .free 0 (.free 1 (.free 2 (.free 3 (.free 4 (.free 5 (.free 6 (.free 7 (.free 8 (.free 9 (.free 10 (.free 11 (.free 12 (.one 13 .nil)))))))))))))) (Hs := []); exact Mix.h; (first | exact Arr.all _ | (exact a_arr) | (exact a_arrs)); (exact a_np); kernel_rfl)
      (repeat' (first | (apply RT.step; exact rfl; intro _ _ _; (apply Ok.move; exact rfl); exact rfl) | (apply RT.callQ; exact rfl; exact inferInstance; (exact a_evs); exact rfl; (intro M' Hx' hM'; exact hK M' _ hM')) | (apply RT.step; exact rfl; intro _ _ hMx; (first | (apply Ok.loadP; exact rfl; exact rfl; exact hMx.2.2 _ _ hMl2; exact hpv) | (apply Ok.subQ ((ss.length - 1 : Nat) : Int); exact rfl; exact rfl; exact hll; apply w64; omega; omega) | (apply Ok.indexAddr; exact rfl; exact rfl; omega; omega) | (apply Ok.loadAggP (vs := [Value.int .u64 (s0.first : Int), .slice Al0 s0.es.length cl0, .slice Ae s0.it.length ce']); exact rfl; exact rfl; exact hMx.2.2 _ _ hMb; exact rfl; exact hagg)); exact rfl) | (first | (apply RT.step; exact rfl; intro _ _ _; (exact a_ok); exact rfl) | (apply RT.stepT; exact rfl; exact rfl; exact rfl; exact rfl; intro _ _ _; (exact a_ok); exact rfl) | (apply RT.stepF; exact rfl; exact rfl; exact rfl; exact rfl; exact rfl; exact rfl) | (apply RT.stepU; exact rfl; exact rfl; exact rfl; exact rfl; exact rfl) | (apply RT.one; apply OneT.effF; exact rfl; exact rfl; exact rfl; exact rfl; exact rfl; exact rfl) | (apply RT.one; apply OneT.effU; exact rfl; exact rfl; exact rfl; exact rfl; exact rfl))))
      (apply RT.one; apply OneT.eff; exact rfl; intro Kc hKc ops0)
      unfold eV ecells
      (repeat' (first | refine a_go ?_ | (with_reducible apply Fin.thenK; assumption) | (with_reducible (first | apply C.seqK | apply C.regionK); intro _ _) | (apply R.buildSlice0; exact rfl; intro bz) | (apply R.box; exact rfl; (simp only [Value.cells]; rfl); exact rfl; intro bx) | (apply R.alloc; (simp only [Value.cells]; rfl); exact rfl; intro ba) | (apply R.buildSlice; (exact a_prt); exact rfl; exact rfl; (exact a_fills); exact rfl; intro bl) | (refine a_sp ?_ ?_; (intro h; skip; rotate_left; intro h; skip; rotate_left)) | fail))
      (apply Fin.kt (Hx := (b5, .cells [.int .i64 a.kind, .int .u64 a.term, .int .u64 a.idx, .slice Al a.data.length cl, .int .i64 a.conf].toArray 34 (0, 0)) :: H) hKc; exact Mem.le_refl _; (exact a_arrs))
      (repeat' (first | (apply RT.step; exact rfl; intro _ _ _; (exact a_ok); exact rfl) | (apply RT.stepT; exact rfl; exact rfl; exact rfl; exact rfl; intro _ _ _; (exact a_ok); exact rfl) | (apply RT.stepF; exact rfl; exact rfl; exact rfl; exact rfl; exact rfl; exact rfl) | (apply RT.stepU; exact rfl; exact rfl; exact rfl; exact rfl; exact rfl) | (apply RT.one; apply OneT.effF; exact rfl; exact rfl; exact rfl; exact rfl; exact rfl; exact rfl) | (apply RT.one; apply OneT.effU; exact rfl; exact rfl; exact rfl; exact rfl; exact rfl)))
      apply RT.nil
      (repeat' (first | refine a_go ?_ | (with_reducible apply Fin.thenK; assumption) | (with_reducible (first | apply C.seqK | apply C.regionK); intro _ _) | (apply R.buildSlice0; exact rfl; intro bz) | (apply R.box; exact rfl; (simp only [Value.cells]; rfl); exact rfl; intro bx) | (apply R.alloc; (simp only [Value.cells]; rfl); exact rfl; intro ba) | (apply R.buildSlice; (exact a_prt); exact rfl; exact rfl; (exact a_fills); exact rfl; intro bl) | (refine a_sp ?_ ?_; (intro h; skip; rotate_left; intro h; skip; rotate_left)) | fail))
      refine Fin.join (ecells a (.slice Al a.data.length cl)) (by rw [hL.lastOE]; exact ⟨hak2.1, hak2.2, Al, cl, rfl⟩) ?_ rfl rfl
      (exact a_subs)
  rintro cs hcs
  (repeat' (first | refine a_go ?_ | (with_reducible apply Fin.thenK; assumption) | (with_reducible (first | apply C.seqK | apply C.regionK); intro _ _) | (apply R.buildSlice0; exact rfl; intro bz) | (apply R.box; exact rfl; (simp only [Value.cells]; rfl); exact rfl; intro bx) | (apply R.alloc; (simp only [Value.cells]; rfl); exact rfl; intro ba) | (apply R.buildSlice; (exact a_prt); exact rfl; exact rfl; (exact a_fills); exact rfl; intro bl) | (refine a_sp ?_ ?_; (intro h; skip; rotate_left; intro h; skip; rotate_left)) | fail))
  apply C.loop (fun x : FlX => (x.k : Int) = x.kk ∧ x.k ≤ es.length ∧ aheadC x.prev x.cs ∧ (folE (lastO ss) es ↔ folE x.prev (es.drop x.k)))
    (fun x => [(0, .pointer (some ⟨lb, 0, none⟩)), (5, .pointer (some ⟨b5, 0, none⟩)), (27, .slice A es.length cap), (28, .int .i64 (es.length : Int)), (29, .int .i64 x.kk)]) (fun _ => M) (fun x => (b5, .cells x.cs.toArray 34 (0, 0)) :: H) (fun x => es.length - x.k) ⟨0, 0, lastO ss, cs⟩
  · exact ⟨rfl, Nat.zero_le _, hcs, Iff.rfl⟩
  · (exact a_subs)
  · exact rfl
  · exact rfl
  clear hcs cs
  rintro ⟨k, kk, prev, cs⟩ ⟨hkk, hk, hcs, hfo⟩
  dsimp only at hkk hk hcs hfo ⊢
  by_cases hke : k < es.length
  · obtain ⟨b2, o2, c2, e2', fr2, Ai, ci, rfl, hMb2, hcell2, _, hi1, hi2, hpi⟩ := en_at k3 k4 hke
    rw [show o2 + k * 5 = o2 + kk.toNat * 5 by omega] at hcell2
    have hdr : es.drop k = es[k] :: es.drop (k + 1) := List.drop_eq_getElem_cons hke
    generalize es[k] = x at hcell2 hpi hdr hi1
    rw [hdr, folE] at hfo
    (repeat' (first | (apply R.step; (apply Ok.move; exact rfl); exact rfl) | (apply R.step; (first | (apply Ok.ltTr; exact rfl; exact rfl; omega) | (apply Ok.ltF; exact rfl; exact rfl; omega) | (apply Ok.gtTr; exact rfl; exact rfl; omega) | (apply Ok.gtF; exact rfl; exact rfl; omega) | (apply Ok.geTr; exact rfl; exact rfl; omega) | (apply Ok.geF; exact rfl; exact rfl; omega) | (apply Ok.leTr; exact rfl; exact rfl; omega) | (apply Ok.leF; exact rfl; exact rfl; omega) | (apply Ok.neIT; exact rfl; exact rfl; omega) | (apply Ok.eqIF; exact rfl; exact rfl; omega)); exact rfl) | (apply R.step; (first | (apply Ok.indexAddr; exact rfl; exact rfl; omega; omega) | (apply Ok.loadAggP (vs := ecells x (.slice Ai x.data.length ci)); exact rfl; exact rfl; exact hMb2; exact rfl; exact hcell2)); exact rfl) | refine a_go ?_ | (with_reducible apply Fin.thenK; assumption) | (with_reducible (first | apply C.seqK | apply C.regionK); intro _ _) | (apply R.buildSlice0; exact rfl; intro bz) | (apply R.box; exact rfl; (simp only [Value.cells]; rfl); exact rfl; intro bx) | (apply R.alloc; (simp only [Value.cells]; rfl); exact rfl; intro ba) | (apply R.buildSlice; (exact a_prt); exact rfl; exact rfl; (exact a_fills); exact rfl; intro bl) | (refine a_sp ?_ ?_; (intro h; skip; rotate_left; intro h; skip; rotate_left)) | fail))
    (apply R.call; (exact a_evs); exact rfl; exact rentry_K (e := x) (A := Ai) (cap := ci); rintro _ M _ ⟨rfl, rfl, rfl⟩)
    by_cases hE : entS x
    rotate_left
    · rw [decide_eq_false hE]
      (repeat' (first | refine a_go ?_ | (with_reducible apply Fin.thenK; assumption) | (with_reducible (first | apply C.seqK | apply C.regionK); intro _ _) | (apply R.buildSlice0; exact rfl; intro bz) | (apply R.box; exact rfl; (simp only [Value.cells]; rfl); exact rfl; intro bx) | (apply R.alloc; (simp only [Value.cells]; rfl); exact rfl; intro ba) | (apply R.buildSlice; (exact a_prt); exact rfl; exact rfl; (exact a_fills); exact rfl; intro bl) | (refine a_sp ?_ ?_; (intro h; skip; rotate_left; intro h; skip; rotate_left)) | fail))
      (apply Fin.returnA (H2 := H); assumption; (first | exact .inl rfl | exact .inr rfl); exact rfl; (exact a_res); (simp only [retv]; rfl); (exact a_arr))
      exact ⟨by rw [decide_eq_false (fun h => hE (hfo.1 h).1)], rfl, rfl⟩
    rw [decide_eq_true hE]
    have hxk := (entS_kind hE).2.2.2.2.2.1
    match prev, hcs, hfo with
    | none, hcs, hfo =>
      cases hcs
      (repeat' (first | (apply R.step; (apply Ok.move; exact rfl); exact rfl) | (apply R.step; (first | (apply Ok.gtF; exact rfl; exact rfl; decide)); exact rfl) | refine a_go ?_ | (with_reducible apply Fin.thenK; assumption) | (with_reducible (first | apply C.seqK | apply C.regionK); intro _ _) | (apply R.buildSlice0; exact rfl; intro bz) | (apply R.box; exact rfl; (simp only [Value.cells]; rfl); exact rfl; intro bx) | (apply R.alloc; (simp only [Value.cells]; rfl); exact rfl; intro ba) | (apply R.buildSlice; (exact a_prt); exact rfl; exact rfl; (exact a_fills); exact rfl; intro bl) | (refine a_sp ?_ ?_; (intro h; skip; rotate_left; intro h; skip; rotate_left)) | fail))
      apply Fin.arr (H2 := (b5, .cells (ecells x (.slice Ai x.data.length ci)).toArray 34 (0, 0)) :: H) (by unfold ecells; (exact a_arrs))
      refine Fin.again (⟨k + 1, kk + 1, some x, ecells x (.slice Ai x.data.length ci)⟩ : FlX) ⟨by dsimp only; omega, by dsimp only; omega, ⟨hxk.1, hxk.2, Ai, ci, rfl⟩, ?_⟩ (by dsimp only; omega) ?_ rfl rfl
      · dsimp only
        exact ⟨fun h => (hfo.1 h).2.2, fun h => hfo.2 ⟨hE, trivial, h⟩⟩
      · (exact a_subs)
    | some a, hcs, hfo =>
      obtain ⟨a1, a2, Aa, ca, rfl⟩ := hcs
      unfold ecells
      by_cases h1 : x.idx = a.idx + 1
      · by_cases h2 : a.term ≤ x.term
        · (repeat' (first | (apply R.step; (apply Ok.move; exact rfl); exact rfl) | (apply R.step; (first | (apply Ok.gtTr; exact rfl; exact rfl; omega) | (apply Ok.addB; exact rfl; exact rfl; apply wu64; omega; omega) | (apply Ok.neIR; exact rfl; exact rfl; exact h1) | (apply Ok.ltF; exact rfl; exact rfl; omega)); exact rfl) | refine a_go ?_ | (with_reducible apply Fin.thenK; assumption) | (with_reducible (first | apply C.seqK | apply C.regionK); intro _ _) | (apply R.buildSlice0; exact rfl; intro bz) | (apply R.box; exact rfl; (simp only [Value.cells]; rfl); exact rfl; intro bx) | (apply R.alloc; (simp only [Value.cells]; rfl); exact rfl; intro ba) | (apply R.buildSlice; (exact a_prt); exact rfl; exact rfl; (exact a_fills); exact rfl; intro bl) | (refine a_sp ?_ ?_; (intro h; skip; rotate_left; intro h; skip; rotate_left)) | fail))
          apply Fin.arr (H2 := (b5, .cells (ecells x (.slice Ai x.data.length ci)).toArray 34 (0, 0)) :: H) (by unfold ecells; (exact a_arrs))
          refine Fin.again (⟨k + 1, kk + 1, some x, ecells x (.slice Ai x.data.length ci)⟩ : FlX) ⟨by dsimp only; omega, by dsimp only; omega, ⟨hxk.1, hxk.2, Ai, ci, rfl⟩, ?_⟩ (by dsimp only; omega) ?_ rfl rfl
          · dsimp only
            exact ⟨fun h => (hfo.1 h).2.2, fun h => hfo.2 ⟨hE, ⟨h1, h2⟩, h⟩⟩
          · (exact a_subs)
        · (repeat' (first | (apply R.step; (apply Ok.move; exact rfl); exact rfl) | (apply R.step; (first | (apply Ok.gtTr; exact rfl; exact rfl; omega) | (apply Ok.addB; exact rfl; exact rfl; apply wu64; omega; omega) | (apply Ok.neIR; exact rfl; exact rfl; exact h1) | (apply Ok.ltTr; exact rfl; exact rfl; omega)); exact rfl) | refine a_go ?_ | (with_reducible apply Fin.thenK; assumption) | (with_reducible (first | apply C.seqK | apply C.regionK); intro _ _) | (apply R.buildSlice0; exact rfl; intro bz) | (apply R.box; exact rfl; (simp only [Value.cells]; rfl); exact rfl; intro bx) | (apply R.alloc; (simp only [Value.cells]; rfl); exact rfl; intro ba) | (apply R.buildSlice; (exact a_prt); exact rfl; exact rfl; (exact a_fills); exact rfl; intro bl) | (refine a_sp ?_ ?_; (intro h; skip; rotate_left; intro h; skip; rotate_left)) | fail))
          (apply Fin.returnA (H2 := H); assumption; (first | exact .inl rfl | exact .inr rfl); exact rfl; (exact a_res); (simp only [retv]; rfl); (exact a_arr))
          exact ⟨by rw [decide_eq_false (fun h => h2 (hfo.1 h).2.1.2)], rfl, rfl⟩
      · (repeat' (first | (apply R.step; (apply Ok.move; exact rfl); exact rfl) | (apply R.step; (first | (apply Ok.gtTr; exact rfl; exact rfl; omega) | (apply Ok.addB; exact rfl; exact rfl; apply wu64; omega; omega) | (apply Ok.neIT; exact rfl; exact rfl; exact h1)); exact rfl) | refine a_go ?_ | (with_reducible apply Fin.thenK; assumption) | (with_reducible (first | apply C.seqK | apply C.regionK); intro _ _) | (apply R.buildSlice0; exact rfl; intro bz) | (apply R.box; exact rfl; (simp only [Value.cells]; rfl); exact rfl; intro bx) | (apply R.alloc; (simp only [Value.cells]; rfl); exact rfl; intro ba) | (apply R.buildSlice; (exact a_prt); exact rfl; exact rfl; (exact a_fills); exact rfl; intro bl) | (refine a_sp ?_ ?_; (intro h; skip; rotate_left; intro h; skip; rotate_left)) | fail))
        (apply Fin.returnA (H2 := H); assumption; (first | exact .inl rfl | exact .inr rfl); exact rfl; (exact a_res); (simp only [retv]; rfl); (exact a_arr))
        exact ⟨by rw [decide_eq_false (fun h => h1 (hfo.1 h).2.1.1)], rfl, rfl⟩
  · have hke' : k = es.length := by omega
    rw [hke', List.drop_eq_nil_of_le (Nat.le_refl _)] at hfo
    (repeat' (first | (apply R.step; (apply Ok.move; exact rfl); exact rfl) | (apply R.step; (first | (apply Ok.ltTr; exact rfl; exact rfl; omega) | (apply Ok.ltF; exact rfl; exact rfl; omega) | (apply Ok.gtTr; exact rfl; exact rfl; omega) | (apply Ok.gtF; exact rfl; exact rfl; omega) | (apply Ok.geTr; exact rfl; exact rfl; omega) | (apply Ok.geF; exact rfl; exact rfl; omega) | (apply Ok.leTr; exact rfl; exact rfl; omega) | (apply Ok.leF; exact rfl; exact rfl; omega) | (apply Ok.neIT; exact rfl; exact rfl; omega) | (apply Ok.eqIF; exact rfl; exact rfl; omega)); exact rfl) | refine a_go ?_ | (with_reducible apply Fin.thenK; assumption) | (with_reducible (first | apply C.seqK | apply C.regionK); intro _ _) | (apply R.buildSlice0; exact rfl; intro bz) | (apply R.box; exact rfl; (simp only [Value.cells]; rfl); exact rfl; intro bx) | (apply R.alloc; (simp only [Value.cells]; rfl); exact rfl; intro ba) | (apply R.buildSlice; (exact a_prt); exact rfl; exact rfl; (exact a_fills); exact rfl; intro bl) | (refine a_sp ?_ ?_; (intro h; skip; rotate_left; intro h; skip; rotate_left)) | fail))
    (apply Fin.returnA (H2 := H); assumption; (first | exact .inl rfl | exact .inr rfl); exact rfl; (exact a_res); (simp only [retv]; rfl); (exact a_arr))
    exact ⟨by rw [decide_eq_true (hfo.2 trivial)], rfl, rfl⟩
end Go.Sx
end
section
namespace Go.Sx
open Go.RowKit
theorem OwnT.split {e sz m cap : Nat} {A : Option Addr} {xs : List Value} {hp : Hp} (h : OwnT e sz (.slice A m cap) m xs hp) (h0 : 0 < m) : ∃ (b o : Nat) (c : List Value), A = some ⟨b, o, none⟩ ∧ hp = [(b, .cells c.toArray e (0, 0))] ∧ o + cap * sz ≤ c.length ∧ m ≤ cap ∧ cap ≤ maxLen ∧ ∀ (j : Nat) u, xs[j]? = some u → c[o + j]? = some u := by
  rcases h.2 with ⟨_, h2, _⟩ | ⟨b, o, cap', c, h1, h2, h3, h4, h5, h6⟩
  · omega
  · injection h1 with e1 _ e3
    subst e1 e3 h2
    refine ⟨b, o, c.toList, rfl, by simp, by simpa using h5, h3, h4, fun j u hj => ?_⟩
    have hl : j < m * sz := by have := (List.getElem?_eq_some_iff.1 hj).1; have := h.1; omega
    rw [← h6, List.getElem?_take, if_pos hl, List.getElem?_drop] at hj
    exact hj
theorem OwnT.putLast {e sz m cap b o : Nat} {c ys zs vs : List Value} (h : OwnT e sz (.slice (some ⟨b, o, none⟩) (m + 1) cap) (m + 1) (ys ++ zs) [(b, .cells c.toArray e (0, 0))]) (hy : ys.length = m * sz) (hv : vs.length = sz) : OwnT e sz (.slice (some ⟨b, o, none⟩) (m + 1) cap) (m + 1) (ys ++ vs) [(b, .cells (c.take (o + m * sz) ++ vs ++ c.drop (o + m * sz + vs.length)).toArray e (0, 0))] := by
  have hmz : (m + 1) * sz = m * sz + sz := Nat.succ_mul ..
  refine ⟨by rw [List.length_append, hy, hv, hmz], ?_⟩
  rcases h.2 with ⟨_, h2, _⟩ | ⟨b', o', cap', c', h1, h2, h3, h4, h5, h6⟩
  · omega
  · injection h1 with e1 _ e3
    injection e1 with e1
    injection e1 with e1 e4
    subst e1 e4 e3
    injection h2 with h2 _
    injection h2 with _ h2
    injection h2 with h2 _ _
    subst h2
    have hcl : (m + 1) * sz ≤ cap * sz := Nat.mul_le_mul_right _ h3
    have h5' : o + cap * sz ≤ c.length := by simpa using h5
    have h6' : (c.drop o).take ((m + 1) * sz) = ys ++ zs := by simpa using h6
    have hys : (c.drop o).take (m * sz) = ys := by
      have h7 := congrArg (List.take (m * sz)) h6'
      rw [List.take_take, Nat.min_eq_left (by omega), List.take_append_of_le_length (by omega)] at h7
      exact h7.trans (List.take_of_length_le (by omega))
    refine .inr ⟨b, o, cap, _, rfl, rfl, h3, h4, ?_, ?_⟩
    · simp only [List.size_toArray, List.length_append, List.length_take, List.length_drop]
      omega
    · simp only
      have hA : (c.take (o + m * sz)).length = o + m * sz := by rw [List.length_take]; omega
      rw [List.append_assoc, List.drop_append_of_le_length (by omega), List.drop_take, Nat.add_sub_cancel_left, hys, ← List.append_assoc]
      rw [List.take_append_of_le_length (by rw [List.length_append, hy, hv]; omega)]
      exact List.take_of_length_le (by rw [List.length_append, hy, hv]; omega)
theorem OwnT.shrink {e sz m k cap : Nat} {A : Option Addr} {xs : List Value} {hp : Hp} (h : OwnT e sz (.slice A m cap) m xs hp) (hk : k ≤ m) : OwnT e sz (.slice A k cap) k (xs.take (k * sz)) hp := by
  have hkm : k * sz ≤ m * sz := Nat.mul_le_mul_right _ hk
  refine ⟨by rw [List.length_take, h.1]; omega, ?_⟩
  rcases h.2 with ⟨h1, h2, h3⟩ | ⟨b, o, cap', c, h1, h2, h3, h4, h5, h6⟩
  · injection h1 with e1 _ e3
    subst e1 e3
    have : k = 0 := by omega
    subst this
    exact .inl ⟨rfl, rfl, h3⟩
  · injection h1 with e1 _ e3
    subst e1 e3
    exact .inr ⟨b, o, cap, c, rfl, h2, by omega, h4, h5, by rw [← h6, List.take_take, Nat.min_eq_left hkm]⟩
section
variable {P : Program} {r : Option Nat} {n : Nat} {D : List Deferred} {L : Sl} {M : Mem} {H : Hp} {Q : Post}
theorem C.cutK {X : Type} (I : X → Prop) (Lf : X → Sl) (Mf : X → Mem) (Hf : X → Hp) {x y : Code} {Kn : Act → World → Prop} (hk : KOf P r n y Q Kn) (hx : C P r n x (Exit.then (Join n D I Lf Mf Hf) Q) D L M H)
    (hy : ∀ z, I z → C P r n y Q D (Lf z) (Mf z) (Hf z)) : C P r n x (Exit.then Kn Q) D L M H := by
  intro a w hf hh
  refine wpIn_mono (hx a w hf hh) ?_
  intro e a' w' hq
  cases e with
  | normal =>
    obtain ⟨z, h1, h2, h3⟩ := hq
    exact hk _ _ _ _ (hy z h1) a' w' h2 h3
  | exit id => exact hq
  | goto l => exact hq
  | ret => exact hq
  | panic ch => exact hq
  | outgrown => exact hq
end
end Go.Sx
end
section
namespace Go.Sx
open Go Go.Proofs Go.RowKit
attribute [local irreducible] C R Fin K Own OwnT Rd Pl Ok KOf RetOk OpsOf RP KP Res NoPanic KV KE MapS ItS EntS FsO FsR RowD PlD DkO RT KT OneT RS KS OneS
variable {M M' : Mem} {H H1 H2 : Hp}
def freshG (lim : Int) (ss : List Sg) (z : Nat) : Bool := match ss.getLast? with
  | none => true
  | some s => decide (lim < ((s.size + z : Nat) : Int))
def tailG (fr : Bool) (ss : List Sg) (e : En) : Sg := if fr then ⟨e.idx.toNat, []⟩ else ss.getLastD ⟨0, []⟩
def headG (fr : Bool) (ss : List Sg) : List Sg := if fr then ss else ss.dropLast
def addS (s : Sg) (e : En) : Sg := ⟨s.first, s.it ++ [(e, (frameS (layE e)).length)]⟩
def appL : Dk → Int → List Sg → List En → Int × Dk × List Sg
  | d, _, ss, [] => (0, d, ss)
  | d, lim, ss, e :: es =>
    if appE d (nameS (tailG (freshG lim ss (frameS (layE e)).length) ss e).first) (frameS (layE e)) ≠ 0 then
      (appE d (nameS (tailG (freshG lim ss (frameS (layE e)).length) ss e).first) (frameS (layE e)), opD (appE d (nameS (tailG (freshG lim ss (frameS (layE e)).length) ss e).first) (frameS (layE e))) d (.app (nameS (tailG (freshG lim ss (frameS (layE e)).length) ss e).first) (frameS (layE e))), ss)
    else appL (opD 0 d (.app (nameS (tailG (freshG lim ss (frameS (layE e)).length) ss e).first) (frameS (layE e)))) lim (headG (freshG lim ss (frameS (layE e)).length) ss ++ [addS (tailG (freshG lim ss (frameS (layE e)).length) ss e) e]) es
noncomputable def appG (d : Dk) (lim : Int) (ss : List Sg) (es : List En) : Int × Dk × List Sg := if folE (lastO ss) es then appL d lim ss es else (1, d, ss)
theorem layF_len {e : En} (h : entS e) : (frameS (layE e)).length = 8 + (layE e).length ∧ (layE e).length ≤ 159 := by
  have h1 := layE_len h
  exact ⟨frameS_len (by omega), h1⟩
def smG (n : Nat) (ss : List Sg) : Prop := ∀ s ∈ ss, s.first ≤ 72057594037927935 ∧ s.it.length + s.size + 200 * n ≤ 1099511627776
theorem folE_drop {prev : Option En} {es : List En} (h : folE prev es) : ∀ e ∈ es, entS e := by
  induction es generalizing prev with
  | nil => intro e he; cases he
  | cons x xs ih =>
    intro e he
    rcases List.mem_cons.1 he with he | he
    · rw [he]; exact h.1
    · exact ih h.2.2 e he
theorem headG_mem {fr : Bool} {ss : List Sg} {s : Sg} (h : s ∈ headG fr ss) : s ∈ ss := by
  unfold headG at h
  split at h
  · exact h
  · exact List.dropLast_subset _ h
theorem tailG_mem {ss : List Sg} {e : En} (h : ss ≠ []) : tailG false ss e ∈ ss := by
  unfold tailG
  rw [if_neg (by decide), List.getLastD_eq_getLast?, List.getLast?_eq_some_getLast h]
  exact List.getLast_mem h
theorem headG_tailG {ss : List Sg} {e : En} (h : ss ≠ []) : ss = headG false ss ++ [tailG false ss e] := by
  unfold headG tailG
  rw [if_neg (by decide), if_neg (by decide), List.getLastD_eq_getLast?, List.getLast?_eq_some_getLast h]
  exact (List.dropLast_concat_getLast h).symm
theorem freshG_ne {lim : Int} {ss : List Sg} {z : Nat} (h : freshG lim ss z = false) : ss ≠ [] := by
  rintro rfl
  cases h
theorem headG_len (fr : Bool) (ss : List Sg) : (headG fr ss).length ≤ ss.length := by
  unfold headG
  split
  · exact Nat.le_refl _
  · rw [List.length_dropLast]; omega
theorem addS_size (s : Sg) (e : En) : (addS s e).size = s.size + (frameS (layE e)).length := by
  unfold addS Sg.size Sg.zs
  rw [List.map_append, List.sum_append]
  simp
theorem addS_es (s : Sg) (e : En) : (addS s e).es = s.es ++ [e] := by
  unfold addS Sg.es
  rw [List.map_append]
  rfl
theorem addS_len (s : Sg) (e : En) : (addS s e).it.length = s.it.length + 1 := by
  unfold addS
  rw [List.length_append]
  rfl
theorem next_ok {lim : Int} {ss : List Sg} {e : En} {fr : Bool} (hok : sgsOk ss) (he : entS e) (hf : freshG lim ss (frameS (layE e)).length = fr) : sgsOk (headG fr ss ++ [addS (tailG fr ss e) e]) := by
  refine sgsOk.snoc (hok.sub (fun s h => headG_mem h)) (by rw [addS_len]; exact Nat.zero_lt_succ _) ?_
  intro x hx
  rw [addS_es] at hx
  rcases List.mem_append.1 hx with hx | hx
  · cases fr with
    | true => cases hx
    | false => exact (hok _ (tailG_mem (freshG_ne hf))).2 x hx
  · rw [List.mem_singleton] at hx
    rw [hx]
    exact he
theorem tailG_sm {lim : Int} {ss : List Sg} {e : En} {fr : Bool} {n : Nat} (hs : smG n ss) (he : entS e) (hn : n ≤ 1000000) (hf : freshG lim ss (frameS (layE e)).length = fr) : (tailG fr ss e).first ≤ 72057594037927935 ∧ (tailG fr ss e).it.length + (tailG fr ss e).size + 200 * n ≤ 1099511627776 := by
  cases fr with
  | true =>
    have h1 := (entS_kind he).2.2.2.2.2.1
    refine ⟨?_, ?_⟩
    · show e.idx.toNat ≤ _
      omega
    · show 0 + ([] : List Nat).sum + _ ≤ _
      simp
      omega
  | false => exact hs _ (tailG_mem (freshG_ne hf))
theorem next_sm {lim : Int} {ss : List Sg} {e : En} {fr : Bool} {n : Nat} (hs : smG (n + 1) ss) (he : entS e) (hn : n + 1 ≤ 1000000) (hf : freshG lim ss (frameS (layE e)).length = fr) : smG n (headG fr ss ++ [addS (tailG fr ss e) e]) := by
  intro x hx
  rcases List.mem_append.1 hx with hx | hx
  · have := hs x (headG_mem hx)
    exact ⟨this.1, by omega⟩
  · rw [List.mem_singleton] at hx
    rw [hx]
    have h1 := tailG_sm hs he hn hf
    have h2 := layF_len he
    refine ⟨h1.1, ?_⟩
    rw [addS_len, addS_size]
    omega
theorem next_len {ss : List Sg} {e : En} {fr : Bool} {lim : Int} (hf : freshG lim ss (frameS (layE e)).length = fr) : (headG fr ss ++ [addS (tailG fr ss e) e]).length ≤ ss.length + 1 := by
  rw [List.length_append, List.length_singleton]
  have := headG_len fr ss
  omega
theorem ptC_flat (ps : List PtV) : (ps.map ptC).flatten.length = ps.length * 3 := by
  induction ps with
  | nil => rfl
  | cons p ps ih => rw [List.map_cons, List.flatten_cons, List.length_append, ih, List.length_cons]; show 3 + _ = _; omega
theorem rowP_snoc (qs : List PtV) (p : PtV) : ((qs ++ [p]).map ptC).flatten = (qs.map ptC).flatten ++ ptC p := by simp
structure EndO (M : Mem) (lb db : Nat) (lim : Int) (ss : List Sg) (hL : Hp) (qs : List PtV) (p : PtV) (b o cap : Nat) (c : List Value) : Prop where
  segs : ss = qs.map PtV.s ++ [p.s]
  len : qs.length + 1 = ss.length
  heap : hL = (lb, lgO db lim (.slice (some ⟨b, o, none⟩) ss.length cap)) :: (b, .cells c.toArray 68 (0, 0)) :: (ptH qs ++ (p.lh ++ p.eh))
  row : OwnT 68 3 (.slice (some ⟨b, o, none⟩) ss.length cap) ss.length ((qs.map ptC).flatten ++ ptC p) [(b, .cells c.toArray 68 (0, 0))]
  room : o + cap * 3 ≤ c.length
  cap1 : ss.length ≤ cap
  cap2 : cap ≤ 9223372036854775807
  cell : ∀ (q : Nat) u, (ptC p)[q]? = some u → c[o + (ss.length - 1) * 3 + q]? = some u
  all : ∀ x ∈ qs, PtO M x
  own : PtO M p
theorem SgO.endO {lb db : Nat} {lim : Int} {ss : List Sg} {hL : Hp} (hg : SgO M lb db lim ss hL) (h0 : 0 < ss.length) : ∃ qs p b o cap c, EndO M lb db lim ss hL qs p b o cap c := by
  obtain ⟨ps, pv, hrow, hss, hrw, hpt, rfl⟩ := hg
  have hpl : ps.length = ss.length := by rw [← hss, List.length_map]
  obtain ⟨A, cap, rfl, _, _⟩ := hrw.form
  obtain ⟨b, o, c, rfl, rfl, h1, h2, h3, h4⟩ := hrw.split (by omega)
  obtain ⟨qs, p, rfl⟩ : ∃ qs p, ps = qs ++ [p] := ⟨ps.dropLast, ps.getLast (List.ne_nil_of_length_pos (by omega)), (List.dropLast_concat_getLast _).symm⟩
  rw [List.length_append, List.length_singleton] at hpl
  rw [rowP_snoc] at hrw h4
  refine ⟨qs, p, b, o, cap, c, by rw [← hss, List.map_append]; rfl, hpl, ?_, ?_, h1, by rw [List.length_append] at h2; simp at h2; omega, by unfold maxLen at h3; omega, ?_, fun x hx => hpt x (List.mem_append_left _ hx), hpt p (List.mem_append_right _ (List.mem_singleton_self _))⟩
  · rw [ptH_snoc, List.length_append, List.length_singleton, hpl]
    rfl
  · rw [List.length_append, List.length_singleton, hpl] at hrw
    exact hrw
  · intro q u hq
    have := h4 (qs.length * 3 + q) u (by rw [List.getElem?_append_right (by rw [ptC_flat]; omega), ptC_flat, Nat.add_sub_cancel_left]; exact hq)
    rw [show o + (ss.length - 1) * 3 + q = o + (qs.length * 3 + q) by rw [← hpl]; omega]
    exact this
end Go.Sx
end
section
namespace Go.Sx
open Go Go.Proofs Go.RowKit
attribute [local irreducible] C R Fin K Own OwnT Rd Pl Ok KOf RetOk OpsOf RP KP Res NoPanic KV KE MapS ItS EntS FsO FsR RowD PlD DkO RT KT OneT RS KS OneS
variable {M M' : Mem} {H H1 H2 : Hp}
theorem sfollow_KL {lb db : Nat} {lim : Int} {ss : List Sg} {hL : Hp} {v : Value} {es : List En} (hg : SgO M lb db lim ss hL) (hok : sgsOk ss) (he : EnL M v es) (ha : Arr H (hL ++ H1)) : K Try.prog 32 [.pointer (some ⟨lb, 0, none⟩), v] M H fun v' M' H' => v' = .bool (decide (folE (lastO ss) es)) ∧ M' = M ∧ H' = hL ++ H1 :=
  K.lends ha fun M2 hM2 hin => (sfollow_K (hg.sgP hM2 hin) hok (he.mono hM2)).mono fun v' M' H' ⟨h1, h2, h3⟩ => ⟨h2, h1, rfl, by rw [h3]⟩
theorem psize_KO {p : PtV} (hp : PtO M p) (h0 : 0 < p.s.it.length) : K Try.prog 35 [.agg (ptC p).toArray] M (p.eh ++ H) fun v' M' H' => v' = .int .i64 (p.s.size : Int) ∧ M' = M ∧ H' = p.eh ++ H := by
  obtain ⟨h1, h2⟩ := hp
  obtain ⟨A, c, e1, _, _⟩ := h1.form
  obtain ⟨B, c2, e2, _, _⟩ := h2.form
  unfold ptC
  rw [e1, e2]
  rw [e2] at h2
  exact psize_KL rfl h2 (Sg.zs_len _) h0
theorem SgO.rec_ {lb db : Nat} {lim : Int} {ss : List Sg} {hL : Hp} (hg : SgO M lb db lim ss hL) : ∃ A c hR, hL = (lb, .cells [.pointer (some ⟨db, 0, none⟩), .int .i64 lim, .slice A ss.length c].toArray 62 (0, 0)) :: hR ∧ ss.length ≤ 9223372036854775807 := by
  obtain ⟨ps, pv, hrow, hss, hrw, hpt, rfl⟩ := hg
  obtain ⟨A, c, rfl, h1, h2⟩ := hrw.form
  have hpl : ps.length = ss.length := by rw [← hss, List.length_map]
  rw [hpl]
  exact ⟨A, c, _, rfl, by unfold maxLen at h2; omega⟩
theorem cells3_inj {lb : Nat} {a a2 u u' : Value} {e : Nat} {z : Nat × Nat} {hR hR' : Hp} (h : ((lb, .cells [a, a2, u].toArray e z) :: hR : Hp) = (lb, .cells [a, a2, u'].toArray e z) :: hR') : u = u' ∧ hR = hR' := by
  injection h with h1 h2
  injection h1 with _ h1
  injection h1 with h1 _ _
  simp at h1
  exact ⟨h1, h2⟩
structure ApX where
  k : Nat
  kk : Int
  d : Dk
  ss : List Sg
  hL : Hp
  hp : Hp
  M : Mem
structure AqX where
  qs : List PtV
  p : PtV
  pv : Value
  hrow : Hp
theorem sappend_K {lb db : Nat} {lim : Int} {d : Dk} {ss : List Sg} {v : Value} {es : List En} {hL hp : Hp} (hl : 64 ≤ lim ∧ lim ≤ 16384) (hg : SgO M lb db lim ss hL) (hok : sgsOk ss) (he : EnL M v es) (ho : DkO M db d hp) (hes : es.length ≤ 100000) (hlen : d.ps.length + es.length ≤ 900000) (hsl : ss.length + es.length ≤ 900000) (hsm : smG es.length ss) : K Try.prog 11 [.pointer (some ⟨lb, 0, none⟩), v] M (hL ++ (hp ++ H)) fun v' M' H' => v' = .int .i64 (appG d lim ss es).1 ∧ M.le M' ∧ ∃ hL' hp', SgO M' lb db lim (appG d lim ss es).2.2 hL' ∧ DkO M' db (appG d lim ss es).2.1 hp' ∧ H' = hL' ++ (hp' ++ H) := by
  refine K.enterK Try.func11 rfl rfl rfl ?_
  intro Q hNP hQ
  (repeat' (first | refine a_go ?_ | (with_reducible apply Fin.thenK; assumption) | (with_reducible (first | apply C.seqK | apply C.regionK); intro _ _) | (apply R.buildSlice0; exact rfl; intro bz) | (apply R.box; exact rfl; (simp only [Value.cells]; rfl); exact rfl; intro bx) | (apply R.alloc; (simp only [Value.cells]; rfl); exact rfl; intro ba) | (apply R.buildSlice; (exact a_prt); exact rfl; exact rfl; (exact a_fills); exact rfl; intro bl) | (refine a_sp ?_ ?_; (intro h; skip; rotate_left; intro h; skip; rotate_left)) | fail))
  (apply R.call; (exact a_evs); exact rfl; exact sfollow_KL (H1 := hp ++ H) hg hok he (Arr.all _); rintro _ M _ ⟨rfl, rfl, rfl⟩)
  by_cases hfol : folE (lastO ss) es
  rotate_left
  · rw [decide_eq_false hfol]
    have hA : appG d lim ss es = (1, d, ss) := if_neg hfol
    rw [hA] at hQ
    (repeat' (first | refine a_go ?_ | (with_reducible apply Fin.thenK; assumption) | (with_reducible (first | apply C.seqK | apply C.regionK); intro _ _) | (apply R.buildSlice0; exact rfl; intro bz) | (apply R.box; exact rfl; (simp only [Value.cells]; rfl); exact rfl; intro bx) | (apply R.alloc; (simp only [Value.cells]; rfl); exact rfl; intro ba) | (apply R.buildSlice; (exact a_prt); exact rfl; exact rfl; (exact a_fills); exact rfl; intro bl) | (refine a_sp ?_ ?_; (intro h; skip; rotate_left; intro h; skip; rotate_left)) | fail))
    (apply Fin.returnA (H2 := hL ++ (hp ++ H)); assumption; (first | exact .inl rfl | exact .inr rfl); exact rfl; (exact a_res); (simp only [retv]; rfl); (exact a_arr))
    exact ⟨rfl, Mem.le_refl _, hL, hp, hg, ho, rfl⟩
  rw [decide_eq_true hfol]
  have hA : appG d lim ss es = appL d lim ss es := if_pos hfol
  rw [hA] at hQ
  clear hA
  have hE := folE_drop hfol
  clear hfol
  obtain ⟨A, cap, vs, rfl, k1, k2, k3, k4⟩ := he
  (repeat' (first | refine a_go ?_ | (with_reducible apply Fin.thenK; assumption) | (with_reducible (first | apply C.seqK | apply C.regionK); intro _ _) | (apply R.buildSlice0; exact rfl; intro bz) | (apply R.box; exact rfl; (simp only [Value.cells]; rfl); exact rfl; intro bx) | (apply R.alloc; (simp only [Value.cells]; rfl); exact rfl; intro ba) | (apply R.buildSlice; (exact a_prt); exact rfl; exact rfl; (exact a_fills); exact rfl; intro bl) | (refine a_sp ?_ ?_; (intro h; skip; rotate_left; intro h; skip; rotate_left)) | fail))
  apply C.loop (fun y : ApX => (y.k : Int) = y.kk ∧ y.k ≤ es.length ∧ M.le y.M ∧ SgO y.M lb db lim y.ss y.hL ∧ sgsOk y.ss ∧ smG (es.length - y.k) y.ss ∧ DkO y.M db y.d y.hp ∧ y.d.ps.length ≤ d.ps.length + y.k ∧ y.ss.length ≤ ss.length + y.k ∧ appL d lim ss es = appL y.d lim y.ss (es.drop y.k))
    (fun y => [(0, .pointer (some ⟨lb, 0, none⟩)), (18, .slice A es.length cap), (19, .int .i64 (es.length : Int)), (20, .int .i64 y.kk)]) (fun y => y.M) (fun y => y.hL ++ (y.hp ++ H)) (fun y => es.length - y.k) ⟨0, 0, d, ss, hL, hp, M⟩
  · exact ⟨rfl, Nat.zero_le _, Mem.le_refl _, hg, hok, hsm, ho, Nat.le_refl _, Nat.le_refl _, rfl⟩
  · (exact a_subs)
  · exact rfl
  · exact rfl
  rintro ⟨k, kk, d1, s1, hL1, hp1, M1⟩ ⟨hkk, hk, hM1, hg1, hok1, hsm1, ho1, hd1, hs1, hap⟩
  dsimp only at hkk hk hM1 hg1 hok1 hsm1 ho1 hd1 hs1 hap ⊢
  by_cases hke : k < es.length
  · obtain ⟨b2, o2, c2, e2', fr2, Ai, ci, rfl, hMb2, hcell2, _, hi1, hi2, hpi⟩ := en_at k3 k4 hke
    rw [show o2 + k * 5 = o2 + kk.toNat * 5 by omega] at hcell2
    have hdr : es.drop k = es[k] :: es.drop (k + 1) := List.drop_eq_getElem_cons hke
    have hEx := hE _ (List.getElem_mem hke)
    generalize es[k] = x at hcell2 hpi hdr hi1 hEx
    rw [hdr] at hap
    have hxk := (entS_kind hEx).2.2.2.2.2
    have hz := layF_len hEx
    have hMb2' := hM1.2.2 _ _ hMb2
    (repeat' (first | (apply R.step; (apply Ok.move; exact rfl); exact rfl) | (apply R.step; (first | (apply Ok.ltTr; exact rfl; exact rfl; omega) | (apply Ok.ltF; exact rfl; exact rfl; omega) | (apply Ok.gtTr; exact rfl; exact rfl; omega) | (apply Ok.gtF; exact rfl; exact rfl; omega) | (apply Ok.geTr; exact rfl; exact rfl; omega) | (apply Ok.geF; exact rfl; exact rfl; omega) | (apply Ok.leTr; exact rfl; exact rfl; omega) | (apply Ok.leF; exact rfl; exact rfl; omega) | (apply Ok.neIT; exact rfl; exact rfl; omega) | (apply Ok.eqIF; exact rfl; exact rfl; omega)); exact rfl) | (apply R.step; (first | (apply Ok.indexAddr; exact rfl; exact rfl; omega; omega) | (apply Ok.loadAggP (vs := ecells x (.slice Ai x.data.length ci)); exact rfl; exact rfl; exact hMb2'; exact rfl; exact hcell2)); exact rfl) | refine a_go ?_ | (with_reducible apply Fin.thenK; assumption) | (with_reducible (first | apply C.seqK | apply C.regionK); intro _ _) | (apply R.buildSlice0; exact rfl; intro bz) | (apply R.box; exact rfl; (simp only [Value.cells]; rfl); exact rfl; intro bx) | (apply R.alloc; (simp only [Value.cells]; rfl); exact rfl; intro ba) | (apply R.buildSlice; (exact a_prt); exact rfl; exact rfl; (exact a_fills); exact rfl; intro bl) | (refine a_sp ?_ ?_; (intro h; skip; rotate_left; intro h; skip; rotate_left)) | fail))
    (apply R.call; (exact a_evs); exact rfl; exact layEntry_K (e := x) (hpi.mono hM1); rintro _ M2 _ ⟨hM2, rfl, hL2⟩)
    rcases hL2 with ⟨_, w, rfl, hw⟩ | ⟨hno, _⟩
    rotate_left
    · exact absurd hEx hno
    obtain ⟨Aw, cw, rfl, w1, w2, w3⟩ := id hw
    (repeat' (first | refine a_go ?_ | (with_reducible apply Fin.thenK; assumption) | (with_reducible (first | apply C.seqK | apply C.regionK); intro _ _) | (apply R.buildSlice0; exact rfl; intro bz) | (apply R.box; exact rfl; (simp only [Value.cells]; rfl); exact rfl; intro bx) | (apply R.alloc; (simp only [Value.cells]; rfl); exact rfl; intro ba) | (apply R.buildSlice; (exact a_prt); exact rfl; exact rfl; (exact a_fills); exact rfl; intro bl) | (refine a_sp ?_ ?_; (intro h; skip; rotate_left; intro h; skip; rotate_left)) | fail))
    (apply R.call; (exact a_evs); exact rfl; exact frame_KF w3 rfl (by omega); rintro _ M3 _ ⟨hfw, hM3, rfl⟩)
    obtain ⟨Af, cf, rfl, f1, f2, f3⟩ := id hfw
    obtain ⟨A1, c1, hR, rfl, _⟩ := hg1.rec_
    (repeat' (first | (apply R.step; (exact a_ok); exact rfl) | (first | (with_reducible first | apply R.nil | apply C.ret | apply C.block | apply C.skip | apply C.exit | apply Fin.thenRet | apply Fin.thenExit | apply Fin.blockNormal | apply Fin.blockRet | apply Fin.blockExit) | (with_reducible apply Fin.thenK; assumption) | (with_reducible apply C.seqR; intro _ _) | (with_reducible apply C.regionK; intro _ _) | (with_reducible apply Fin.blockOther; exact rfl)) | (first | (apply R.store; exact rfl; exact rfl; exact rfl; (exact a_at); (exact a_blit); exact rfl; (focus (simp [Value.oneCell']; done))) | (apply R.buildSlice0; exact rfl; intro bz) | (apply R.box; exact rfl; (simp only [Value.cells]; rfl); exact rfl; intro bx) | (apply R.alloc; (simp only [Value.cells]; rfl); exact rfl; intro ba) | (apply R.buildSlice; (exact a_prt); exact rfl; exact rfl; (exact a_fills); exact rfl; intro bl)) | (first | (apply R.guardT; assumption; exact rfl; exact rfl; exact rfl) | (apply R.guardF; assumption; exact rfl; exact rfl; exact rfl; exact rfl; exact rfl) | (apply R.guardU; assumption; exact rfl; exact rfl; exact rfl; exact rfl) | (apply R.guardDec; assumption; exact rfl; exact rfl; (intro h; skip; rotate_left; intro h; skip; rotate_left)) | (apply R.guardBeq; assumption; exact rfl; exact rfl; (intro h; skip; rotate_left; intro h; skip; rotate_left)) | (apply R.guardBne; assumption; exact rfl; exact rfl; (intro h; skip; rotate_left; intro h; skip; rotate_left)) | (apply R.guardNDec; assumption; exact rfl; exact rfl; (intro h; skip; rotate_left; intro h; skip; rotate_left)) | (apply R.guardNot; assumption; exact rfl; exact rfl; (intro h; skip; rotate_left; intro h; skip; rotate_left)) | (apply R.guardC; assumption; exact rfl; exact rfl; (intro h; skip; rotate_left; intro h; skip; rotate_left)))))
    apply C.cutK (X := Bool) (hk := by assumption) (fun fr => freshG lim s1 (frameS (layE x)).length = fr) (fun fr => [(0, .pointer (some ⟨lb, 0, none⟩)), (6, .pointer (some ⟨ba, 0, none⟩)), (7, .slice Af (frameS (layE x)).length cf), (9, .int .i64 (s1.length : Int)), (10, .bool fr), (18, .slice (some ⟨b2, o2, none⟩) es.length cap), (19, .int .i64 (es.length : Int)), (20, .int .i64 kk)]) (fun _ => M3) (fun _ => (ba, .cells (ecells x (.slice Ai x.data.length ci)).toArray 34 (0, 0)) :: (((lb, .cells [.pointer (some ⟨db, 0, none⟩), .int .i64 lim, .slice A1 s1.length c1].toArray 62 (0, 0)) :: hR) ++ (hp1 ++ H)))
    · by_cases h0 : s1.length = 0
      · have hnl : s1 = [] := List.eq_nil_of_length_eq_zero h0
        (apply C.regionT (t := .free 0 (.free 1 (.free 2 (.free 3 (.free 4 (.free 5 (.free 6 (.free 7 (.free 8 (.free 9 (.free 10 (.free 11 (.free 12 (.free 13 (.free 14 (.free 15 (.free 16 (.free 17 (.free 18 (.free 19 (.free 20 (.free 21 .nil)))))))))))))))))))))) (Hs := []); exact Mix.h; (first | exact Arr.all _ | (exact a_arr) | (exact a_arrs)); (exact a_np); kernel_rfl)
        (repeat' (first | (apply RT.step; exact rfl; intro _ _ _; (apply Ok.move; exact rfl); exact rfl) | (apply RT.step; exact rfl; intro _ _ _; (apply Ok.eqIR; exact rfl; exact rfl; omega); exact rfl) | (first | (apply RT.step; exact rfl; intro _ _ _; (exact a_ok); exact rfl) | (apply RT.stepT; exact rfl; exact rfl; exact rfl; exact rfl; intro _ _ _; (exact a_ok); exact rfl) | (apply RT.stepF; exact rfl; exact rfl; exact rfl; exact rfl; exact rfl; exact rfl) | (apply RT.stepU; exact rfl; exact rfl; exact rfl; exact rfl; exact rfl) | (apply RT.one; apply OneT.effF; exact rfl; exact rfl; exact rfl; exact rfl; exact rfl; exact rfl) | (apply RT.one; apply OneT.effU; exact rfl; exact rfl; exact rfl; exact rfl; exact rfl))))
        apply RT.nil
        (repeat' (first | refine a_go ?_ | (with_reducible apply Fin.thenK; assumption) | (with_reducible (first | apply C.seqK | apply C.regionK); intro _ _) | (apply R.buildSlice0; exact rfl; intro bz) | (apply R.box; exact rfl; (simp only [Value.cells]; rfl); exact rfl; intro bx) | (apply R.alloc; (simp only [Value.cells]; rfl); exact rfl; intro ba) | (apply R.buildSlice; (exact a_prt); exact rfl; exact rfl; (exact a_fills); exact rfl; intro bl) | (refine a_sp ?_ ?_; (intro h; skip; rotate_left; intro h; skip; rotate_left)) | fail))
        refine Fin.join (true : Bool) (by rw [hnl]; rfl) ?_ rfl rfl
        (exact a_subs)
      · obtain ⟨qs, p, b, o, cp, c, hX⟩ := hg1.endO (by omega)
        obtain ⟨hu, rfl⟩ := cells3_inj hX.heap
        injection hu with e1 e2 e3
        subst e1 e3
        have hgl : s1.getLast? = some p.s := by rw [hX.segs, List.getLast?_append]; rfl
        have hpm : p.s ∈ s1 := List.mem_of_getLast? hgl
        have hso := hok1 _ hpm
        have hsz := (hsm1 _ hpm).2
        have hfr : freshG lim s1 (frameS (layE x)).length = decide (lim < ((p.s.size + (frameS (layE x)).length : Nat) : Int)) := by unfold freshG; rw [hgl]
        have hcell := hX.cell
        have hroom := hX.room
        have hcp1 := hX.cap1
        have hcp2 := hX.cap2
        have hll : (s1.length : Int) - 1 = ((s1.length - 1 : Nat) : Int) := by omega
        have hcell' : ∀ (q : Nat) u, (ptC p)[q]? = some u → c[o + ((s1.length - 1 : Nat) : Int).toNat * 3 + q]? = some u := hcell
        have hPO : PtO M3 p := (hX.own.mono hM2).mono hM3
        have hK := psize_KO (H := (lb, .cells [.pointer (some ⟨db, 0, none⟩), .int .i64 lim, .slice (some ⟨b, o, none⟩) s1.length c1].toArray 62 (0, 0)) :: (b, .cells c.toArray 68 (0, 0)) :: (ba, .cells (ecells x (.slice Ai x.data.length ci)).toArray 34 (0, 0)) :: (ptH qs ++ (p.lh ++ (hp1 ++ H)))) hPO hso.1
        (apply C.regionT (t := .free 0 (.free 1 (.free 2 (.free 3 (.free 4 (.free 5 (.free 6 (.free 7 (.free 8 (.free 9 (.free 10 (.free 12 (.free 13 (.free 15 (.free 16 (.free 17 (.free 18 (.one 11 (.free 14 (.free 19 (.free 20 (.free 21 .nil)))))))))))))))))))))) (Hs := [(lb, .cells [.pointer (some ⟨db, 0, none⟩), .int .i64 lim, .slice (some ⟨b, o, none⟩) s1.length c1].toArray 62 (0, 0)), (b, .cells c.toArray 68 (0, 0))]); exact Mix.h; (first | exact Arr.all _ | (exact a_arr) | (exact a_arrs)); (exact a_np); kernel_rfl)
        (repeat' (first | (apply RT.step; exact rfl; intro _ _ _; (apply Ok.move; exact rfl); exact rfl) | (apply RT.step; exact rfl; intro _ _ _; (apply Ok.eqIF; exact rfl; exact rfl; omega); exact rfl) | (apply RT.stepT; exact rfl; exact rfl; exact rfl; exact rfl; intro _ _ _; (first | (apply Ok.subQ ((s1.length - 1 : Nat) : Int); exact rfl; exact rfl; exact hll; apply w64; omega; omega) | (apply Ok.indexAddr; exact rfl; exact rfl; omega; omega) | (apply Ok.loadAggO (vs := ptC p); exact rfl; exact rfl; (exact a_at); exact hcell'; exact rfl)); exact rfl) | (first | (apply RT.step; exact rfl; intro _ _ _; (exact a_ok); exact rfl) | (apply RT.stepT; exact rfl; exact rfl; exact rfl; exact rfl; intro _ _ _; (exact a_ok); exact rfl) | (apply RT.stepF; exact rfl; exact rfl; exact rfl; exact rfl; exact rfl; exact rfl) | (apply RT.stepU; exact rfl; exact rfl; exact rfl; exact rfl; exact rfl) | (apply RT.one; apply OneT.effF; exact rfl; exact rfl; exact rfl; exact rfl; exact rfl; exact rfl) | (apply RT.one; apply OneT.effU; exact rfl; exact rfl; exact rfl; exact rfl; exact rfl))))
        (apply RT.one; apply OneT.effT; exact rfl; exact rfl; exact rfl; exact rfl; intro Kc hKc ops0)
        apply R.arr (H2 := p.eh ++ ((lb, .cells [.pointer (some ⟨db, 0, none⟩), .int .i64 lim, .slice (some ⟨b, o, none⟩) s1.length c1].toArray 62 (0, 0)) :: (b, .cells c.toArray 68 (0, 0)) :: (ba, .cells (ecells x (.slice Ai x.data.length ci)).toArray 34 (0, 0)) :: (ptH qs ++ (p.lh ++ (hp1 ++ H))))) (by unfold ecells; (exact a_art))
        (apply R.call; (exact a_evs); exact rfl; exact hK; rintro _ M3 _ ⟨rfl, rfl, rfl⟩)
        (apply R.nil; apply Fin.kt (Hx := p.eh ++ ((ba, .cells (ecells x (.slice Ai x.data.length ci)).toArray 34 (0, 0)) :: (ptH qs ++ (p.lh ++ (hp1 ++ H))))) hKc; exact Mem.le_refl _; (exact a_art))
        by_cases hcm : lim < ((p.s.size + (frameS (layE x)).length : Nat) : Int)
        · (repeat' (first | (apply RT.step; exact rfl; intro _ _ _; (apply Ok.move; exact rfl); exact rfl) | (apply RT.stepT; exact rfl; exact rfl; exact rfl; exact rfl; intro _ _ _; (first | (apply Ok.addQ ((p.s.size + (frameS (layE x)).length : Nat) : Int); exact rfl; exact rfl; exact (Int.natCast_add _ _).symm; apply w64; omega; omega) | (apply Ok.gtTr; exact rfl; exact rfl; omega)); exact rfl) | (first | (apply RT.step; exact rfl; intro _ _ _; (exact a_ok); exact rfl) | (apply RT.stepT; exact rfl; exact rfl; exact rfl; exact rfl; intro _ _ _; (exact a_ok); exact rfl) | (apply RT.stepF; exact rfl; exact rfl; exact rfl; exact rfl; exact rfl; exact rfl) | (apply RT.stepU; exact rfl; exact rfl; exact rfl; exact rfl; exact rfl) | (apply RT.one; apply OneT.effF; exact rfl; exact rfl; exact rfl; exact rfl; exact rfl; exact rfl) | (apply RT.one; apply OneT.effU; exact rfl; exact rfl; exact rfl; exact rfl; exact rfl))))
          apply RT.nil
          (repeat' (first | refine a_go ?_ | (with_reducible apply Fin.thenK; assumption) | (with_reducible (first | apply C.seqK | apply C.regionK); intro _ _) | (apply R.buildSlice0; exact rfl; intro bz) | (apply R.box; exact rfl; (simp only [Value.cells]; rfl); exact rfl; intro bx) | (apply R.alloc; (simp only [Value.cells]; rfl); exact rfl; intro ba) | (apply R.buildSlice; (exact a_prt); exact rfl; exact rfl; (exact a_fills); exact rfl; intro bl) | (refine a_sp ?_ ?_; (intro h; skip; rotate_left; intro h; skip; rotate_left)) | fail))
          apply Fin.arr (H2 := (ba, .cells (ecells x (.slice Ai x.data.length ci)).toArray 34 (0, 0)) :: (((lb, .cells [.pointer (some ⟨db, 0, none⟩), .int .i64 lim, .slice (some ⟨b, o, none⟩) s1.length c1].toArray 62 (0, 0)) :: (b, .cells c.toArray 68 (0, 0)) :: (ptH qs ++ (p.lh ++ p.eh))) ++ (hp1 ++ H))) (by (exact a_art))
          refine Fin.join (true : Bool) (by rw [hfr]; exact decide_eq_true hcm) ?_ rfl rfl
          (exact a_subs)
        · (repeat' (first | (apply RT.step; exact rfl; intro _ _ _; (apply Ok.move; exact rfl); exact rfl) | (apply RT.stepT; exact rfl; exact rfl; exact rfl; exact rfl; intro _ _ _; (first | (apply Ok.addQ ((p.s.size + (frameS (layE x)).length : Nat) : Int); exact rfl; exact rfl; exact (Int.natCast_add _ _).symm; apply w64; omega; omega) | (apply Ok.gtF; exact rfl; exact rfl; omega)); exact rfl) | (first | (apply RT.step; exact rfl; intro _ _ _; (exact a_ok); exact rfl) | (apply RT.stepT; exact rfl; exact rfl; exact rfl; exact rfl; intro _ _ _; (exact a_ok); exact rfl) | (apply RT.stepF; exact rfl; exact rfl; exact rfl; exact rfl; exact rfl; exact rfl) | (apply RT.stepU; exact rfl; exact rfl; exact rfl; exact rfl; exact rfl) | (apply RT.one; apply OneT.effF; exact rfl; exact rfl; exact rfl; exact rfl; exact rfl; exact rfl) | (apply RT.one; apply OneT.effU; exact rfl; exact rfl; exact rfl; exact rfl; exact rfl))))
          apply RT.nil
          (repeat' (first | refine a_go ?_ | (with_reducible apply Fin.thenK; assumption) | (with_reducible (first | apply C.seqK | apply C.regionK); intro _ _) | (apply R.buildSlice0; exact rfl; intro bz) | (apply R.box; exact rfl; (simp only [Value.cells]; rfl); exact rfl; intro bx) | (apply R.alloc; (simp only [Value.cells]; rfl); exact rfl; intro ba) | (apply R.buildSlice; (exact a_prt); exact rfl; exact rfl; (exact a_fills); exact rfl; intro bl) | (refine a_sp ?_ ?_; (intro h; skip; rotate_left; intro h; skip; rotate_left)) | fail))
          apply Fin.arr (H2 := (ba, .cells (ecells x (.slice Ai x.data.length ci)).toArray 34 (0, 0)) :: (((lb, .cells [.pointer (some ⟨db, 0, none⟩), .int .i64 lim, .slice (some ⟨b, o, none⟩) s1.length c1].toArray 62 (0, 0)) :: (b, .cells c.toArray 68 (0, 0)) :: (ptH qs ++ (p.lh ++ p.eh))) ++ (hp1 ++ H))) (by (exact a_art))
          refine Fin.join (false : Bool) (by rw [hfr]; exact decide_eq_false hcm) ?_ rfl rfl
          (exact a_subs)
    intro fr hfr
    have hap2 : appL d1 lim s1 (x :: es.drop (k + 1)) = if appE d1 (nameS (tailG fr s1 x).first) (frameS (layE x)) ≠ 0 then
        (appE d1 (nameS (tailG fr s1 x).first) (frameS (layE x)), opD (appE d1 (nameS (tailG fr s1 x).first) (frameS (layE x))) d1 (.app (nameS (tailG fr s1 x).first) (frameS (layE x))), s1)
      else appL (opD 0 d1 (.app (nameS (tailG fr s1 x).first) (frameS (layE x)))) lim (headG fr s1 ++ [addS (tailG fr s1 x) x]) (es.drop (k + 1)) := by rw [appL, hfr]
    rw [hap2] at hap
    clear hap2
    have hxi : ((x.idx.toNat : Nat) : Int) = x.idx := Int.toNat_of_nonneg (by omega)
    have hM13 := hM2.trans_ hM3
    obtain ⟨b6, hb6⟩ : ∃ q, q = ba := ⟨_, rfl⟩
    subst hb6
    unfold ecells
    (repeat' (first | (apply R.step; (exact a_ok); exact rfl) | (first | (with_reducible first | apply R.nil | apply C.ret | apply C.block | apply C.skip | apply C.exit | apply Fin.thenRet | apply Fin.thenExit | apply Fin.blockNormal | apply Fin.blockRet | apply Fin.blockExit) | (with_reducible apply Fin.thenK; assumption) | (with_reducible apply C.seqR; intro _ _) | (with_reducible apply C.regionK; intro _ _) | (with_reducible apply Fin.blockOther; exact rfl)) | (first | (apply R.store; exact rfl; exact rfl; exact rfl; (exact a_at); (exact a_blit); exact rfl; (focus (simp [Value.oneCell']; done))) | (apply R.buildSlice0; exact rfl; intro bz) | (apply R.box; exact rfl; (simp only [Value.cells]; rfl); exact rfl; intro bx) | (apply R.alloc; (simp only [Value.cells]; rfl); exact rfl; intro ba) | (apply R.buildSlice; (exact a_prt); exact rfl; exact rfl; (exact a_fills); exact rfl; intro bl)) | (first | (apply R.guardT; assumption; exact rfl; exact rfl; exact rfl) | (apply R.guardF; assumption; exact rfl; exact rfl; exact rfl; exact rfl; exact rfl) | (apply R.guardU; assumption; exact rfl; exact rfl; exact rfl; exact rfl) | (apply R.guardDec; assumption; exact rfl; exact rfl; (intro h; skip; rotate_left; intro h; skip; rotate_left)) | (apply R.guardBeq; assumption; exact rfl; exact rfl; (intro h; skip; rotate_left; intro h; skip; rotate_left)) | (apply R.guardBne; assumption; exact rfl; exact rfl; (intro h; skip; rotate_left; intro h; skip; rotate_left)) | (apply R.guardNDec; assumption; exact rfl; exact rfl; (intro h; skip; rotate_left; intro h; skip; rotate_left)) | (apply R.guardNot; assumption; exact rfl; exact rfl; (intro h; skip; rotate_left; intro h; skip; rotate_left)) | (apply R.guardC; assumption; exact rfl; exact rfl; (intro h; skip; rotate_left; intro h; skip; rotate_left)))))
    apply C.seqCut (X := AqX) (fun y => y.qs.map PtV.s = headG fr s1 ∧ y.p.s = tailG fr s1 x ∧ PtO M3 y.p ∧ (∀ q ∈ y.qs, PtO M3 q) ∧ OwnT 68 3 y.pv s1.length ((y.qs.map ptC).flatten ++ (if fr then [] else ptC y.p)) y.hrow ∧ hR = y.hrow ++ (ptH y.qs ++ (y.p.lh ++ y.p.eh)) ∧ y.pv = .slice A1 s1.length c1)
      (fun y => [(0, .pointer (some ⟨lb, 0, none⟩)), (6, .pointer (some ⟨b6, 0, none⟩)), (7, .slice Af (frameS (layE x)).length cf), (9, .int .i64 (s1.length : Int)), (10, .bool fr), (11, .pointer (some ⟨ba, 0, none⟩)), (12, .int .i64 (y.p.s.size : Int)), (18, .slice (some ⟨b2, o2, none⟩) es.length cap), (19, .int .i64 (es.length : Int)), (20, .int .i64 kk)]) (fun _ => M3) (fun y => (ba, .cells (ptC y.p).toArray 68 (0, 0)) :: (b6, .cells (ecells x (.slice Ai x.data.length ci)).toArray 34 (0, 0)) :: (lb, .cells [.pointer (some ⟨db, 0, none⟩), .int .i64 lim, y.pv].toArray 62 (0, 0)) :: (y.hrow ++ (ptH y.qs ++ (y.p.lh ++ (y.p.eh ++ (hp1 ++ H))))))
    · cases fr with
      | true =>
        (repeat' (first | refine a_go ?_ | (with_reducible apply Fin.thenK; assumption) | (with_reducible (first | apply C.seqK | apply C.regionK); intro _ _) | (apply R.buildSlice0; exact rfl; intro bz) | (apply R.box; exact rfl; (simp only [Value.cells]; rfl); exact rfl; intro bx) | (apply R.alloc; (simp only [Value.cells]; rfl); exact rfl; intro ba) | (apply R.buildSlice; (exact a_prt); exact rfl; exact rfl; (exact a_fills); exact rfl; intro bl) | (refine a_sp ?_ ?_; (intro h; skip; rotate_left; intro h; skip; rotate_left)) | fail))
        obtain ⟨ps, pv, hrow, hss, hrw, hpt, hheq⟩ := hg1
        obtain ⟨hu, rfl⟩ := cells3_inj hheq
        have hpl : ps.length = s1.length := by rw [← hss, List.length_map]
        refine Fin.join (⟨ps, ⟨⟨x.idx.toNat, []⟩, .slice none 0 0, .slice none 0 0, [], []⟩, pv, hrow⟩ : AqX) ⟨hss, rfl, ⟨OwnP.nil, OwnT.nil _ _⟩, fun q hq => (hpt q hq).mono hM13, ?_, by simp, hu.symm⟩ ?_ rfl ?_
        · rw [if_pos rfl, List.append_nil, ← hpl]
          exact hrw
        · (exact a_subs)
        · dsimp only
          unfold ptC ecells
          dsimp only
          rw [hxi, ← hu]
          simp only [List.nil_append, List.append_assoc, List.cons_append]
      | false =>
        obtain ⟨qs, p, b, o, cp, c, hX⟩ := hg1.endO (by have := freshG_ne hfr; exact List.length_pos_iff.2 this)
        obtain ⟨hu, rfl⟩ := cells3_inj hX.heap
        injection hu with e1 e2 e3
        subst e1 e3
        have hgl : s1.getLast? = some p.s := by rw [hX.segs, List.getLast?_append]; rfl
        have hso := hok1 _ (List.mem_of_getLast? hgl)
        have hsl2 := hX.len
        have hcell := hX.cell
        have hroom := hX.room
        have hcp1 := hX.cap1
        have hcp2 := hX.cap2
        have hll : (s1.length : Int) - 1 = ((s1.length - 1 : Nat) : Int) := by omega
        have hPO : PtO M3 p := hX.own.mono hM13
        have hK := psize_KO (H := (ba, .cells (ptC p).toArray 68 (0, 0)) :: (b6, .cells (ecells x (.slice Ai x.data.length ci)).toArray 34 (0, 0)) :: (lb, .cells [.pointer (some ⟨db, 0, none⟩), .int .i64 lim, .slice (some ⟨b, o, none⟩) s1.length c1].toArray 62 (0, 0)) :: (b, .cells c.toArray 68 (0, 0)) :: (ptH qs ++ (p.lh ++ (hp1 ++ H)))) hPO hso.1
        have hhd : headG false s1 = qs.map PtV.s := by
          unfold headG
          rw [if_neg (by decide)]
          have h1 := congrArg List.dropLast hX.segs
          rw [List.dropLast_concat] at h1
          exact h1
        have htl : tailG false s1 x = p.s := by
          unfold tailG
          rw [if_neg (by decide), List.getLastD_eq_getLast?, hgl]
          rfl
        have hrowX := hX.row
        have hallX := hX.all
        obtain ⟨⟨f_, it⟩, lv, ev, lh, eh⟩ := p
        obtain ⟨hoP, hoT⟩ := id hPO
        obtain ⟨Al, cl, hlv, kl1, kl2⟩ := hoP.form
        obtain ⟨Ae, ce, hev, ke1, ke2⟩ := hoT.form
        change lv = .slice Al (⟨f_, it⟩ : Sg).es.length cl at hlv
        change ev = .slice Ae it.length ce at hev
        subst hlv hev
        have hcell' : ∀ (q : Nat) u, [Value.int .u64 (f_ : Int), .slice Al (⟨f_, it⟩ : Sg).es.length cl, .slice Ae it.length ce][q]? = some u → c[o + ((s1.length - 1 : Nat) : Int).toNat * 3 + q]? = some u := hcell
        unfold ptC at hK
        dsimp only at hK
        (repeat' (first | (apply R.step; (apply Ok.move; exact rfl); exact rfl) | (apply R.step; (first | (apply Ok.subQ ((s1.length - 1 : Nat) : Int); exact rfl; exact rfl; exact hll; apply w64; omega; omega) | (apply Ok.indexAddr; exact rfl; exact rfl; omega; omega) | (apply Ok.loadAggO (vs := [Value.int .u64 (f_ : Int), .slice Al (⟨f_, it⟩ : Sg).es.length cl, .slice Ae it.length ce]); exact rfl; exact rfl; (exact a_at); exact hcell'; exact rfl)); exact rfl) | refine a_go ?_ | (with_reducible apply Fin.thenK; assumption) | (with_reducible (first | apply C.seqK | apply C.regionK); intro _ _) | (apply R.buildSlice0; exact rfl; intro bz) | (apply R.box; exact rfl; (simp only [Value.cells]; rfl); exact rfl; intro bx) | (apply R.alloc; (simp only [Value.cells]; rfl); exact rfl; intro ba) | (apply R.buildSlice; (exact a_prt); exact rfl; exact rfl; (exact a_fills); exact rfl; intro bl) | (refine a_sp ?_ ?_; (intro h; skip; rotate_left; intro h; skip; rotate_left)) | fail))
        apply R.arr (H2 := eh ++ ((ba, .cells [.int .u64 (f_ : Int), .slice Al (⟨f_, it⟩ : Sg).es.length cl, .slice Ae it.length ce].toArray 68 (0, 0)) :: (b6, .cells (ecells x (.slice Ai x.data.length ci)).toArray 34 (0, 0)) :: (lb, .cells [.pointer (some ⟨db, 0, none⟩), .int .i64 lim, .slice (some ⟨b, o, none⟩) s1.length c1].toArray 62 (0, 0)) :: (b, .cells c.toArray 68 (0, 0)) :: (ptH qs ++ (lh ++ (hp1 ++ H))))) (by unfold ecells; (exact a_art))
        (apply R.call; (exact a_evs); exact rfl; exact hK; rintro _ M3 _ ⟨rfl, rfl, rfl⟩)
        (repeat' (first | refine a_go ?_ | (with_reducible apply Fin.thenK; assumption) | (with_reducible (first | apply C.seqK | apply C.regionK); intro _ _) | (apply R.buildSlice0; exact rfl; intro bz) | (apply R.box; exact rfl; (simp only [Value.cells]; rfl); exact rfl; intro bx) | (apply R.alloc; (simp only [Value.cells]; rfl); exact rfl; intro ba) | (apply R.buildSlice; (exact a_prt); exact rfl; exact rfl; (exact a_fills); exact rfl; intro bl) | (refine a_sp ?_ ?_; (intro h; skip; rotate_left; intro h; skip; rotate_left)) | fail))
        apply Fin.arr (H2 := (ba, .cells [.int .u64 (f_ : Int), .slice Al (⟨f_, it⟩ : Sg).es.length cl, .slice Ae it.length ce].toArray 68 (0, 0)) :: (b6, .cells (ecells x (.slice Ai x.data.length ci)).toArray 34 (0, 0)) :: (lb, .cells [.pointer (some ⟨db, 0, none⟩), .int .i64 lim, .slice (some ⟨b, o, none⟩) s1.length c1].toArray 62 (0, 0)) :: ([(b, .cells c.toArray 68 (0, 0))] ++ (ptH qs ++ (lh ++ (eh ++ (hp1 ++ H)))))) (by (exact a_art))
        refine Fin.join (⟨qs, ⟨⟨f_, it⟩, .slice Al (⟨f_, it⟩ : Sg).es.length cl, .slice Ae it.length ce, lh, eh⟩, .slice (some ⟨b, o, none⟩) s1.length c1, [(b, .cells c.toArray 68 (0, 0))]⟩ : AqX) ⟨hhd.symm, htl.symm, hPO, fun q hq => (hallX q hq).mono hM13, ?_, rfl, rfl⟩ ?_ rfl rfl
        · rw [if_neg (by decide)]
          exact hrowX
        · (exact a_subs)
    rintro ⟨qs, p, pv, hrow⟩ ⟨hqs, hps, hPO, hQO, hrw, hReq, hpv⟩
    dsimp only at hqs hps hPO hQO hrw hReq hpv ⊢
    subst hReq hpv
    have hts := tailG_sm hsm1 hEx (by omega) hfr
    have ho3 : DkO M3 db d1 hp1 := ho1.mono hM13
    rw [← hps] at hts hap
    obtain ⟨⟨f_, it⟩, lv, ev, lh, eh⟩ := p
    obtain ⟨hoP, hoT⟩ := id hPO
    obtain ⟨Al, cl, hlv, kl1, kl2⟩ := hoP.form
    obtain ⟨Ae, ce, hev, ke1, ke2⟩ := hoT.form
    change lv = .slice Al (⟨f_, it⟩ : Sg).es.length cl at hlv
    change ev = .slice Ae it.length ce at hev
    subst hlv hev
    have hoT' : OwnT 3 1 (.slice Ae it.length ce) it.length (endC (endsA 0 (it.map Prod.snd))) eh := hoT
    unfold ptC
    dsimp only at hts hap ⊢
    have hnl := nameS_len hts.1
    (apply C.seqK; intro _ _)
    (apply C.seqK; intro _ _)
    (apply C.regionT (t := .free 0 (.free 1 (.free 2 (.free 3 (.free 4 (.free 5 (.free 6 (.free 7 (.one 8 (.free 9 .nil)))))))))) (Hs := [(lb, .cells [.pointer (some ⟨db, 0, none⟩), .int .i64 lim, .slice A1 s1.length c1].toArray 62 (0, 0)), (ba, .cells [.int .u64 ↑f_, .slice Al (Sg.es ⟨f_, it⟩).length cl, .slice Ae it.length ce].toArray 68 (0, 0))]); exact Mix.h; (first | exact Arr.all _ | (exact a_arr) | (exact a_arrs)); (exact a_np); kernel_rfl)
    (repeat' (first | (apply RT.step; exact rfl; intro _ _ _; (apply Ok.move; exact rfl); exact rfl) | (apply RT.callQ; exact rfl; exact inferInstance; (exact a_evs); exact rfl; (intro M' Hx' hM'; exact segName_K (n := f_) (by omega))) | (first | (apply RT.step; exact rfl; intro _ _ _; (exact a_ok); exact rfl) | (apply RT.stepT; exact rfl; exact rfl; exact rfl; exact rfl; intro _ _ _; (exact a_ok); exact rfl) | (apply RT.stepF; exact rfl; exact rfl; exact rfl; exact rfl; exact rfl; exact rfl) | (apply RT.stepU; exact rfl; exact rfl; exact rfl; exact rfl; exact rfl) | (apply RT.one; apply OneT.effF; exact rfl; exact rfl; exact rfl; exact rfl; exact rfl; exact rfl) | (apply RT.one; apply OneT.effU; exact rfl; exact rfl; exact rfl; exact rfl; exact rfl))))
    (apply RT.one; apply OneT.eff; exact rfl; intro Kc hKc ops0)
    apply R.arr (H2 := hp1 ++ ((lb, .cells [.pointer (some ⟨db, 0, none⟩), .int .i64 lim, .slice A1 s1.length c1].toArray 62 (0, 0)) :: (ba, .cells [.int .u64 (f_ : Int), .slice Al (⟨f_, it⟩ : Sg).es.length cl, .slice Ae it.length ce].toArray 68 (0, 0)) :: (b6, .cells (ecells x (.slice Ai x.data.length ci)).toArray 34 (0, 0)) :: (hrow ++ (ptH qs ++ (lh ++ (eh ++ H)))))) (by (exact a_art))
    (apply R.call; (exact a_evs); exact rfl; exact append_K (n := nameS f_) ho3 hfw (by omega) (by omega) (by omega); rintro _ M4 _ ⟨rfl, hM4, hp4, ho4, rfl⟩)
    (apply R.nil; apply Fin.kt (Hx := (b6, .cells (ecells x (.slice Ai x.data.length ci)).toArray 34 (0, 0)) :: (hrow ++ (ptH qs ++ (lh ++ (eh ++ (hp4 ++ H)))))) hKc; exact hM4; (exact a_art))
    (repeat' (first | (apply RT.step; exact rfl; intro _ _ _; (exact a_ok); exact rfl) | (apply RT.stepT; exact rfl; exact rfl; exact rfl; exact rfl; intro _ _ _; (exact a_ok); exact rfl) | (apply RT.stepF; exact rfl; exact rfl; exact rfl; exact rfl; exact rfl; exact rfl) | (apply RT.stepU; exact rfl; exact rfl; exact rfl; exact rfl; exact rfl) | (apply RT.one; apply OneT.effF; exact rfl; exact rfl; exact rfl; exact rfl; exact rfl; exact rfl) | (apply RT.one; apply OneT.effU; exact rfl; exact rfl; exact rfl; exact rfl; exact rfl)))
    apply RT.nil
    by_cases hq : appE d1 (nameS f_) (frameS (layE x)) = 0
    rotate_left
    · rw [if_pos hq] at hap
      rw [hap] at hQ
      (repeat' (first | (apply R.step; (apply Ok.move; exact rfl); exact rfl) | (apply R.step; (apply Ok.neIT; exact rfl; exact rfl; exact hq); exact rfl) | refine a_go ?_ | (with_reducible apply Fin.thenK; assumption) | (with_reducible (first | apply C.seqK | apply C.regionK); intro _ _) | (apply R.buildSlice0; exact rfl; intro bz) | (apply R.box; exact rfl; (simp only [Value.cells]; rfl); exact rfl; intro bx) | (apply R.alloc; (simp only [Value.cells]; rfl); exact rfl; intro ba) | (apply R.buildSlice; (exact a_prt); exact rfl; exact rfl; (exact a_fills); exact rfl; intro bl) | (refine a_sp ?_ ?_; (intro h; skip; rotate_left; intro h; skip; rotate_left)) | fail))
      apply Fin.arr (H2 := ((lb, .cells [.pointer (some ⟨db, 0, none⟩), .int .i64 lim, .slice A1 s1.length c1].toArray 62 (0, 0)) :: (hrow ++ (ptH qs ++ (lh ++ eh)))) ++ (hp4 ++ H)) (by (exact a_art))
      obtain ⟨hL2, hHL⟩ : ∃ q : Hp, q = (lb, .cells [.pointer (some ⟨db, 0, none⟩), .int .i64 lim, .slice A1 s1.length c1].toArray 62 (0, 0)) :: (hrow ++ (ptH qs ++ (lh ++ eh))) := ⟨_, rfl⟩
      rw [← hHL]
      dsimp only at hg1
      rw [← hHL] at hg1
      (apply Fin.returnA (H2 := hL2 ++ (hp4 ++ H)); assumption; (first | exact .inl rfl | exact .inr rfl); exact rfl; (exact a_res); (simp only [retv]; rfl); (exact a_arr))
      exact ⟨rfl, hM1.trans_ (hM13.trans_ hM4), hL2, hp4, hg1.mono (hM13.trans_ hM4), ho4, rfl⟩
    rw [if_neg (fun h => h hq)] at hap
    rw [hq] at ho4
    (repeat' (first | (apply R.step; (apply Ok.move; exact rfl); exact rfl) | (apply R.step; (apply Ok.neIR; exact rfl; exact rfl; exact hq); exact rfl) | refine a_go ?_ | (with_reducible apply Fin.thenK; assumption) | (with_reducible (first | apply C.seqK | apply C.regionK); intro _ _) | (apply R.buildSlice0; exact rfl; intro bz) | (apply R.box; exact rfl; (simp only [Value.cells]; rfl); exact rfl; intro bx) | (apply R.alloc; (simp only [Value.cells]; rfl); exact rfl; intro ba) | (apply R.buildSlice; (exact a_prt); exact rfl; exact rfl; (exact a_fills); exact rfl; intro bl) | (refine a_sp ?_ ?_; (intro h; skip; rotate_left; intro h; skip; rotate_left)) | fail))
    unfold ecells
    (apply C.regionS (A := [0, 1, 2, 3, 4, 5]) (t := .free 0 (.free 1 (.free 2 (.one 3 (.one 4 (.one 5 .nil)))))) (u := .free 6 (.one 7 .nil)) (Hs := [(ba, .cells [.int .u64 ↑f_, .slice Al (Sg.es ⟨f_, it⟩).length cl, .slice Ae it.length ce].toArray 68 (0, 0)), (b6, .cells [.int .i64 x.kind, .int .u64 x.term, .int .u64 x.idx, .slice Ai x.data.length ci, .int .i64 x.conf].toArray 34 (0, 0))]); exact Mix.h; (first | exact Arr.all _ | (exact a_arr) | (exact a_arrs)); (exact a_np); kernel_rfl)
    (repeat' (first | (apply RS.step; exact rfl; intro _ _ _; (exact a_ok); exact rfl) | (apply RS.stepT; exact rfl; exact rfl; exact rfl; exact rfl; intro _ _ _; (exact a_ok); exact rfl) | (apply RS.stepF; exact rfl; exact rfl; exact rfl; exact rfl; exact rfl; exact rfl) | (apply RS.stepU; exact rfl; exact rfl; exact rfl; exact rfl; exact rfl) | (apply RS.one; apply OneS.effF; exact rfl; exact rfl; exact rfl; exact rfl; exact rfl; exact rfl) | (apply RS.one; apply OneS.effU; exact rfl; exact rfl; exact rfl; exact rfl; exact rfl)))
    (apply RS.one; apply OneS.eff; exact rfl; intro Kc hKc ops0)
    (apply R.call; (exact a_evs); exact rfl; exact stwin_K (e := x) (hpi.mono (hM1.trans_ (hM13.trans_ hM4))) (by omega); rintro _ M5 _ ⟨Atw, ct, rfl, hbt, hM5, rfl⟩)
    unfold eV ecells
    (apply R.nil; apply Fin.ks (Hx := (lb, .cells [.pointer (some ⟨db, 0, none⟩), .int .i64 lim, .slice A1 s1.length c1].toArray 62 (0, 0)) :: (hrow ++ (ptH qs ++ (lh ++ (eh ++ (hp4 ++ H)))))) hKc; exact hM5; (exact a_art))
    (apply RS.one; apply OneS.eff; exact rfl; intro Kc hKc ops0)
    (apply R.buildSlice; (exact a_prt); exact rfl; exact rfl; (exact a_fills); exact rfl; intro bq)
    apply R.arr (H2 := (ba, .cells [.int .u64 (f_ : Int), .slice Al (⟨f_, it⟩ : Sg).es.length cl, .slice Ae it.length ce].toArray 68 (0, 0)) :: (b6, .cells [.int .i64 x.kind, .int .u64 x.term, .int .u64 x.idx, .slice Ai x.data.length ci, .int .i64 x.conf].toArray 34 (0, 0)) :: (bq, .cells [.int .i64 x.kind, .int .u64 x.term, .int .u64 x.idx, .slice Atw x.data.length ct, .int .i64 x.conf].toArray 34 (0, 0)) :: (lb, .cells [.pointer (some ⟨db, 0, none⟩), .int .i64 lim, .slice A1 s1.length c1].toArray 62 (0, 0)) :: (hrow ++ (ptH qs ++ (lh ++ (eh ++ (hp4 ++ H)))))) (by (exact a_art))
    (apply R.nil; apply Fin.ks (Hx := (bq, .cells [.int .i64 x.kind, .int .u64 x.term, .int .u64 x.idx, .slice Atw x.data.length ct, .int .i64 x.conf].toArray 34 (0, 0)) :: (lb, .cells [.pointer (some ⟨db, 0, none⟩), .int .i64 lim, .slice A1 s1.length c1].toArray 62 (0, 0)) :: (hrow ++ (ptH qs ++ (lh ++ (eh ++ (hp4 ++ H)))))) hKc; exact hM5; (exact a_art))
    (apply RS.one; apply OneS.eff; exact rfl; intro Kc hKc ops0)
    obtain ⟨vs2, hot, hpv2⟩ := hoP.mono (hM4.trans_ hM5)
    dsimp only at hot hpv2
    have hesl : (⟨f_, it⟩ : Sg).es.length = it.length := Sg.es_len _
    apply R.arr (H2 := lh ++ ((bq, .cells [.int .i64 x.kind, .int .u64 x.term, .int .u64 x.idx, .slice Atw x.data.length ct, .int .i64 x.conf].toArray 34 (0, 0)) :: (ba, .cells [.int .u64 (f_ : Int), .slice Al (⟨f_, it⟩ : Sg).es.length cl, .slice Ae it.length ce].toArray 68 (0, 0)) :: (b6, .cells [.int .i64 x.kind, .int .u64 x.term, .int .u64 x.idx, .slice Ai x.data.length ci, .int .i64 x.conf].toArray 34 (0, 0)) :: (lb, .cells [.pointer (some ⟨db, 0, none⟩), .int .i64 lim, .slice A1 s1.length c1].toArray 62 (0, 0)) :: (hrow ++ (ptH qs ++ (eh ++ (hp4 ++ H)))))) (by (exact a_art))
    (apply R.appendT (news := [.int .i64 x.kind, .int .u64 x.term, .int .u64 x.idx, .slice Atw x.data.length ct, .int .i64 x.conf]) (k := 1); exact rfl; exact rfl; exact hot; (exact a_tk); exact Rd.at_ (l := [.int .i64 x.kind, .int .u64 x.term, .int .u64 x.idx, .slice Atw x.data.length ct, .int .i64 x.conf]) (by (exact a_at)) (fun j u h => by rw [Nat.zero_add]; exact h); exact rfl; (intro u hu; simp only [List.mem_cons, List.not_mem_nil, or_false] at hu; rcases hu with rfl | rfl | rfl | rfl | rfl <;> rfl); omega; exact rfl; decide; decide; exact rfl; rintro lv2 lh2 how2)
    have hoP2 : OwnP M5 lv2 ((⟨f_, it⟩ : Sg).es ++ [x]) lh2 := OwnP.snocE how2 hpv2 hbt
    obtain ⟨Al2, cl2, rfl, _, _⟩ := how2.form
    (apply R.nil; apply Fin.ks (Hx := lh2 ++ ((lb, .cells [.pointer (some ⟨db, 0, none⟩), .int .i64 lim, .slice A1 s1.length c1].toArray 62 (0, 0)) :: (hrow ++ (ptH qs ++ (eh ++ (hp4 ++ H)))))) hKc; exact hM5; (exact a_art))
    refine RS.later (Hs2 := []) (Hx2 := (ba, .cells [.int .u64 (f_ : Int), .slice Al (⟨f_, it⟩ : Sg).es.length cl, .slice Ae it.length ce].toArray 68 (0, 0)) :: (lb, .cells [.pointer (some ⟨db, 0, none⟩), .int .i64 lim, .slice A1 s1.length c1].toArray 62 (0, 0)) :: (lh2 ++ (hrow ++ (ptH qs ++ (eh ++ (hp4 ++ H)))))) (by (exact a_art)) ?_
    (repeat' (first | (apply RT.step; exact rfl; intro _ _ _; (exact a_ok); exact rfl) | (apply RT.stepT; exact rfl; exact rfl; exact rfl; exact rfl; intro _ _ _; (exact a_ok); exact rfl) | (apply RT.stepF; exact rfl; exact rfl; exact rfl; exact rfl; exact rfl; exact rfl) | (apply RT.stepU; exact rfl; exact rfl; exact rfl; exact rfl; exact rfl) | (apply RT.one; apply OneT.effF; exact rfl; exact rfl; exact rfl; exact rfl; exact rfl; exact rfl) | (apply RT.one; apply OneT.effU; exact rfl; exact rfl; exact rfl; exact rfl; exact rfl)))
    (apply RT.one; apply OneT.eff; exact rfl; intro Kc hKc ops0)
    (repeat' (first | refine a_go ?_ | (with_reducible apply Fin.thenK; assumption) | (with_reducible (first | apply C.seqK | apply C.regionK); intro _ _) | (apply R.buildSlice0; exact rfl; intro bz) | (apply R.box; exact rfl; (simp only [Value.cells]; rfl); exact rfl; intro bx) | (apply R.alloc; (simp only [Value.cells]; rfl); exact rfl; intro ba) | (apply R.buildSlice; (exact a_prt); exact rfl; exact rfl; (exact a_fills); exact rfl; intro bl) | (refine a_sp ?_ ?_; (intro h; skip; rotate_left; intro h; skip; rotate_left)) | fail))
    ((first | apply R.nil | skip); apply Fin.kt hKc; exact Mem.le_refl _; (exact a_arrs))
    apply RT.nil
    (repeat' (first | refine a_go ?_ | (with_reducible apply Fin.thenK; assumption) | (with_reducible (first | apply C.seqK | apply C.regionK); intro _ _) | (apply R.buildSlice0; exact rfl; intro bz) | (apply R.box; exact rfl; (simp only [Value.cells]; rfl); exact rfl; intro bx) | (apply R.alloc; (simp only [Value.cells]; rfl); exact rfl; intro ba) | (apply R.buildSlice; (exact a_prt); exact rfl; exact rfl; (exact a_fills); exact rfl; intro bl) | (refine a_sp ?_ ?_; (intro h; skip; rotate_left; intro h; skip; rotate_left)) | fail))
    apply R.arr (H2 := eh ++ ((bl, .cells [.int .i64 ((((⟨f_, it⟩ : Sg).size : Nat) : Int) + (((frameS (layE x)).length : Nat) : Int))].toArray 3 (0, 0)) :: (ba, .cells [.int .u64 (f_ : Int), .slice Al2 ((⟨f_, it⟩ : Sg).es.length + 1) cl2, .slice Ae it.length ce].toArray 68 (0, 0)) :: (lb, .cells [.pointer (some ⟨db, 0, none⟩), .int .i64 lim, .slice A1 s1.length c1].toArray 62 (0, 0)) :: (lh2 ++ (hrow ++ (ptH qs ++ (hp4 ++ H)))))) (by (exact a_art))
    (apply R.appendT (news := [.int .i64 ((((⟨f_, it⟩ : Sg).size : Nat) : Int) + (((frameS (layE x)).length : Nat) : Int))]) (k := 1); exact rfl; exact rfl; exact hoT'; (exact a_tk); exact Rd.at_ (l := [.int .i64 ((((⟨f_, it⟩ : Sg).size : Nat) : Int) + (((frameS (layE x)).length : Nat) : Int))]) (by (exact a_at)) (fun j u h => by rw [Nat.zero_add]; exact h); exact rfl; (intro u hu; rw [List.mem_singleton] at hu; subst hu; rfl); omega; exact rfl; decide; decide; exact rfl; rintro ev2 eh2 hoT2)
    obtain ⟨Ae2, ce2, rfl, _, _⟩ := hoT2.form
    have hPO2 : PtO M5 ⟨addS ⟨f_, it⟩ x, .slice Al2 ((⟨f_, it⟩ : Sg).es.length + 1) cl2, .slice Ae2 (it.length + 1) ce2, lh2, eh2⟩ := by
      refine ⟨?_, ?_⟩
      · show OwnP M5 _ (addS ⟨f_, it⟩ x).es lh2
        rw [addS_es]
        exact hoP2
      · show OwnT 3 1 _ (addS ⟨f_, it⟩ x).it.length (endC (endsA 0 ((it ++ [(x, (frameS (layE x)).length)]).map Prod.snd))) eh2
        rw [addS_len, List.map_append]
        show OwnT 3 1 _ (it.length + 1) (endC (endsA 0 (it.map Prod.snd ++ [(frameS (layE x)).length]))) eh2
        rw [endsA_snoc, Nat.zero_add]
        unfold endC at hoT2 ⊢
        rw [List.map_append]
        have h9 : ((((⟨f_, it⟩ : Sg).size + (frameS (layE x)).length : Nat) : Int)) = (((⟨f_, it⟩ : Sg).size : Nat) : Int) + (((frameS (layE x)).length : Nat) : Int) := Int.natCast_add _ _
        rw [← h9] at hoT2
        exact hoT2
    have hok2 := next_ok hok1 hEx hfr
    have hsm2 : smG (es.length - (k + 1)) (headG fr s1 ++ [addS (tailG fr s1 x) x]) := by
      rw [show es.length - k = es.length - (k + 1) + 1 by omega] at hsm1
      exact next_sm hsm1 hEx (by omega) hfr
    have hnl2 := next_len (ss := s1) (e := x) hfr
    have hnp : (opD 0 d1 (.app (nameS f_) (frameS (layE x)))).ps.length ≤ d1.ps.length + 1 := opD_ps _ _ _
    rw [← hps] at hok2 hsm2 hnl2
    dsimp only at hok2 hsm2 hnl2
    cases fr with
    | true =>
      rw [if_pos rfl, List.append_nil] at hrw
      have hql : qs.length = s1.length := by
        have := congrArg List.length hqs
        rw [List.length_map] at this
        exact this
      (repeat' (first | refine a_go ?_ | (with_reducible apply Fin.thenK; assumption) | (with_reducible (first | apply C.seqK | apply C.regionK); intro _ _) | (apply R.buildSlice0; exact rfl; intro bz) | (apply R.box; exact rfl; (simp only [Value.cells]; rfl); exact rfl; intro bx) | (apply R.alloc; (simp only [Value.cells]; rfl); exact rfl; intro ba) | (apply R.buildSlice; (exact a_prt); exact rfl; exact rfl; (exact a_fills); exact rfl; intro bl) | (refine a_sp ?_ ?_; (intro h; skip; rotate_left; intro h; skip; rotate_left)) | fail))
      (apply C.regionS (A := [0, 1, 2, 3, 4, 5, 6, 7]) (t := .free 0 (.free 1 (.free 2 (.free 3 (.free 4 (.free 5 (.one 6 (.one 7 .nil)))))))) (u := .free 8 (.free 9 (.one 10 .nil))) (Hs := [(ba, .cells [.int .u64 ↑f_, .slice Al2 ((Sg.es ⟨f_, it⟩).length + 1) cl2, .slice Ae2 (it.length + 1) ce2].toArray 68 (0, 0)), (lb, .cells [.pointer (some ⟨db, 0, none⟩), .int .i64 lim, .slice A1 s1.length c1].toArray 62 (0, 0))]); exact Mix.h; (first | exact Arr.all _ | (exact a_arr) | (exact a_arrs)); (exact a_np); kernel_rfl)
      (repeat' (first | (apply RS.step; exact rfl; intro _ _ _; (exact a_ok); exact rfl) | (apply RS.stepT; exact rfl; exact rfl; exact rfl; exact rfl; intro _ _ _; (exact a_ok); exact rfl) | (apply RS.stepF; exact rfl; exact rfl; exact rfl; exact rfl; exact rfl; exact rfl) | (apply RS.stepU; exact rfl; exact rfl; exact rfl; exact rfl; exact rfl) | (apply RS.one; apply OneS.effF; exact rfl; exact rfl; exact rfl; exact rfl; exact rfl; exact rfl) | (apply RS.one; apply OneS.effU; exact rfl; exact rfl; exact rfl; exact rfl; exact rfl)))
      (apply RS.one; apply OneS.eff; exact rfl; intro Kc hKc ops0)
      (apply R.buildSlice; (exact a_prt); exact rfl; exact rfl; (exact a_fills); exact rfl; intro bq)
      apply R.arr (H2 := (ba, .cells [.int .u64 (f_ : Int), .slice Al2 ((⟨f_, it⟩ : Sg).es.length + 1) cl2, .slice Ae2 (it.length + 1) ce2].toArray 68 (0, 0)) :: (lb, .cells [.pointer (some ⟨db, 0, none⟩), .int .i64 lim, .slice A1 s1.length c1].toArray 62 (0, 0)) :: (bq, .cells [.int .u64 (f_ : Int), .slice Al2 ((⟨f_, it⟩ : Sg).es.length + 1) cl2, .slice Ae2 (it.length + 1) ce2].toArray 68 (0, 0)) :: (hrow ++ (lh2 ++ (eh2 ++ (ptH qs ++ (hp4 ++ H)))))) (by (exact a_art))
      (apply R.nil; apply Fin.ks (Hx := (bq, .cells [.int .u64 (f_ : Int), .slice Al2 ((⟨f_, it⟩ : Sg).es.length + 1) cl2, .slice Ae2 (it.length + 1) ce2].toArray 68 (0, 0)) :: (hrow ++ (lh2 ++ (eh2 ++ (ptH qs ++ (hp4 ++ H)))))) hKc; exact Mem.le_refl _; (exact a_art))
      (apply RS.one; apply OneS.eff; exact rfl; intro Kc hKc ops0)
      apply R.arr (H2 := hrow ++ ((bq, .cells [.int .u64 (f_ : Int), .slice Al2 ((⟨f_, it⟩ : Sg).es.length + 1) cl2, .slice Ae2 (it.length + 1) ce2].toArray 68 (0, 0)) :: (ba, .cells [.int .u64 (f_ : Int), .slice Al2 ((⟨f_, it⟩ : Sg).es.length + 1) cl2, .slice Ae2 (it.length + 1) ce2].toArray 68 (0, 0)) :: (lb, .cells [.pointer (some ⟨db, 0, none⟩), .int .i64 lim, .slice A1 s1.length c1].toArray 62 (0, 0)) :: (lh2 ++ (eh2 ++ (ptH qs ++ (hp4 ++ H)))))) (by (exact a_art))
      (apply R.appendT (news := [.int .u64 (f_ : Int), .slice Al2 ((⟨f_, it⟩ : Sg).es.length + 1) cl2, .slice Ae2 (it.length + 1) ce2]) (k := 1); exact rfl; exact rfl; exact hrw; (exact a_tk); exact Rd.at_ (l := [.int .u64 (f_ : Int), .slice Al2 ((⟨f_, it⟩ : Sg).es.length + 1) cl2, .slice Ae2 (it.length + 1) ce2]) (by (exact a_at)) (fun j u h => by rw [Nat.zero_add]; exact h); exact rfl; (intro u hu; simp only [List.mem_cons, List.not_mem_nil, or_false] at hu; rcases hu with rfl | rfl | rfl <;> rfl); omega; exact rfl; decide; decide; exact rfl; rintro pv2 hrow2 hrw2)
      obtain ⟨Ap2, cp2, rfl, qc1, qc2⟩ := hrw2.form
      have hg2 : SgO M5 lb db lim (headG true s1 ++ [addS ⟨f_, it⟩ x]) ((lb, lgO db lim (.slice Ap2 (s1.length + 1) cp2)) :: (hrow2 ++ ptH (qs ++ [⟨addS ⟨f_, it⟩ x, .slice Al2 ((⟨f_, it⟩ : Sg).es.length + 1) cl2, .slice Ae2 (it.length + 1) ce2, lh2, eh2⟩]))) := by
        refine ⟨qs ++ [⟨addS ⟨f_, it⟩ x, .slice Al2 ((⟨f_, it⟩ : Sg).es.length + 1) cl2, .slice Ae2 (it.length + 1) ce2, lh2, eh2⟩], _, hrow2, by rw [List.map_append, hqs]; rfl, ?_, ?_, rfl⟩
        · rw [List.length_append, List.map_append, List.flatten_append, List.length_singleton, hql]
          exact hrw2
        · intro q hq
          rcases List.mem_append.1 hq with hq | hq
          · exact (hQO q hq).mono (hM4.trans_ hM5)
          · rw [List.mem_singleton] at hq
            subst hq
            exact hPO2
      (apply R.nil; apply Fin.ks (Hx := hrow2 ++ (lh2 ++ (eh2 ++ (ptH qs ++ (hp4 ++ H))))) hKc; exact Mem.le_refl _; (exact a_art))
      refine RS.later (Hs2 := []) (Hx2 := (lb, .cells [.pointer (some ⟨db, 0, none⟩), .int .i64 lim, .slice A1 s1.length c1].toArray 62 (0, 0)) :: (hrow2 ++ (lh2 ++ (eh2 ++ (ptH qs ++ (hp4 ++ H)))))) (by (exact a_art)) ?_
      (repeat' (first | (apply RT.step; exact rfl; intro _ _ _; (exact a_ok); exact rfl) | (apply RT.stepT; exact rfl; exact rfl; exact rfl; exact rfl; intro _ _ _; (exact a_ok); exact rfl) | (apply RT.stepF; exact rfl; exact rfl; exact rfl; exact rfl; exact rfl; exact rfl) | (apply RT.stepU; exact rfl; exact rfl; exact rfl; exact rfl; exact rfl) | (apply RT.one; apply OneT.effF; exact rfl; exact rfl; exact rfl; exact rfl; exact rfl; exact rfl) | (apply RT.one; apply OneT.effU; exact rfl; exact rfl; exact rfl; exact rfl; exact rfl)))
      (apply RT.one; apply OneT.eff; exact rfl; intro Kc hKc ops0)
      (repeat' (first | refine a_go ?_ | (with_reducible apply Fin.thenK; assumption) | (with_reducible (first | apply C.seqK | apply C.regionK); intro _ _) | (apply R.buildSlice0; exact rfl; intro bz) | (apply R.box; exact rfl; (simp only [Value.cells]; rfl); exact rfl; intro bx) | (apply R.alloc; (simp only [Value.cells]; rfl); exact rfl; intro ba) | (apply R.buildSlice; (exact a_prt); exact rfl; exact rfl; (exact a_fills); exact rfl; intro bl) | (refine a_sp ?_ ?_; (intro h; skip; rotate_left; intro h; skip; rotate_left)) | fail))
      ((first | apply R.nil | skip); apply Fin.kt hKc; exact Mem.le_refl _; (exact a_arrs))
      apply RT.nil
      (repeat' (first | refine a_go ?_ | (with_reducible apply Fin.thenK; assumption) | (with_reducible (first | apply C.seqK | apply C.regionK); intro _ _) | (apply R.buildSlice0; exact rfl; intro bz) | (apply R.box; exact rfl; (simp only [Value.cells]; rfl); exact rfl; intro bx) | (apply R.alloc; (simp only [Value.cells]; rfl); exact rfl; intro ba) | (apply R.buildSlice; (exact a_prt); exact rfl; exact rfl; (exact a_fills); exact rfl; intro bl) | (refine a_sp ?_ ?_; (intro h; skip; rotate_left; intro h; skip; rotate_left)) | fail))
      obtain ⟨hL2, hHL⟩ : ∃ q : Hp, q = (lb, lgO db lim (.slice Ap2 (s1.length + 1) cp2)) :: (hrow2 ++ ptH (qs ++ [⟨addS ⟨f_, it⟩ x, .slice Al2 ((⟨f_, it⟩ : Sg).es.length + 1) cl2, .slice Ae2 (it.length + 1) ce2, lh2, eh2⟩])) := ⟨_, rfl⟩
      apply Fin.arr (H2 := hL2 ++ (hp4 ++ H)) (by rw [hHL, ptH_snoc]; unfold lgO; dsimp only; (exact a_art))
      rw [← hHL] at hg2
      refine Fin.again (⟨k + 1, kk + 1, opD 0 d1 (.app (nameS f_) (frameS (layE x))), headG true s1 ++ [addS ⟨f_, it⟩ x], hL2, hp4, M5⟩ : ApX) ⟨by dsimp only; omega, by dsimp only; omega, hM1.trans_ (hM13.trans_ (hM4.trans_ hM5)), hg2, hok2, hsm2, ho4.mono hM5, by dsimp only; omega, by dsimp only; omega, by dsimp only; exact hap⟩ (by dsimp only; omega) ?_ rfl rfl
      (exact a_subs)
    | false =>
      rw [if_neg (by decide)] at hrw
      have hql : qs.length + 1 = s1.length := by
        have h1 := congrArg List.length hqs
        have h2 := List.length_pos_iff.2 (freshG_ne hfr)
        unfold headG at h1
        rw [List.length_map, if_neg (by decide), List.length_dropLast] at h1
        omega
      obtain ⟨b, o, c, rfl, rfl, hroom, hc1, hc2, _⟩ := hrw.split (by omega)
      unfold maxLen at hc2
      have hll : (s1.length : Int) - 1 = ((qs.length : Nat) : Int) := by omega
      have hrw2 : OwnT 68 3 (.slice (some ⟨b, o, none⟩) s1.length c1) s1.length ((qs.map ptC).flatten ++ ([.int .u64 (f_ : Int), .slice Al2 ((⟨f_, it⟩ : Sg).es.length + 1) cl2, .slice Ae2 (it.length + 1) ce2] : List Value)) [(b, .cells (c.take (o + qs.length * 3) ++ ([.int .u64 (f_ : Int), .slice Al2 ((⟨f_, it⟩ : Sg).es.length + 1) cl2, .slice Ae2 (it.length + 1) ce2] : List Value) ++ c.drop (o + qs.length * 3 + ([.int .u64 (f_ : Int), .slice Al2 ((⟨f_, it⟩ : Sg).es.length + 1) cl2, .slice Ae2 (it.length + 1) ce2] : List Value).length)).toArray 68 (0, 0))] := by
        rw [← hql] at hrw ⊢
        exact hrw.putLast (ptC_flat qs) rfl
      have hg2 : SgO M5 lb db lim (headG false s1 ++ [addS ⟨f_, it⟩ x]) ((lb, lgO db lim (.slice (some ⟨b, o, none⟩) s1.length c1)) :: ([(b, .cells (c.take (o + qs.length * 3) ++ ([.int .u64 (f_ : Int), .slice Al2 ((⟨f_, it⟩ : Sg).es.length + 1) cl2, .slice Ae2 (it.length + 1) ce2] : List Value) ++ c.drop (o + qs.length * 3 + ([.int .u64 (f_ : Int), .slice Al2 ((⟨f_, it⟩ : Sg).es.length + 1) cl2, .slice Ae2 (it.length + 1) ce2] : List Value).length)).toArray 68 (0, 0))] ++ ptH (qs ++ [⟨addS ⟨f_, it⟩ x, .slice Al2 ((⟨f_, it⟩ : Sg).es.length + 1) cl2, .slice Ae2 (it.length + 1) ce2, lh2, eh2⟩]))) := by
        refine ⟨qs ++ [⟨addS ⟨f_, it⟩ x, .slice Al2 ((⟨f_, it⟩ : Sg).es.length + 1) cl2, .slice Ae2 (it.length + 1) ce2, lh2, eh2⟩], _, _, by rw [List.map_append, hqs]; rfl, ?_, ?_, rfl⟩
        · rw [List.length_append, List.map_append, List.flatten_append, List.length_singleton, hql]
          exact hrw2
        · intro q hq
          rcases List.mem_append.1 hq with hq | hq
          · exact (hQO q hq).mono (hM4.trans_ hM5)
          · rw [List.mem_singleton] at hq
            subst hq
            exact hPO2
      (repeat' (first | refine a_go ?_ | (with_reducible apply Fin.thenK; assumption) | (with_reducible (first | apply C.seqK | apply C.regionK); intro _ _) | (apply R.buildSlice0; exact rfl; intro bz) | (apply R.box; exact rfl; (simp only [Value.cells]; rfl); exact rfl; intro bx) | (apply R.alloc; (simp only [Value.cells]; rfl); exact rfl; intro ba) | (apply R.buildSlice; (exact a_prt); exact rfl; exact rfl; (exact a_fills); exact rfl; intro bl) | (refine a_sp ?_ ?_; (intro h; skip; rotate_left; intro h; skip; rotate_left)) | fail))
      (apply C.regionT (t := .free 0 (.free 1 (.free 2 (.free 3 (.free 4 (.free 5 (.free 6 (.free 7 (.one 8 .nil))))))))) (Hs := [(lb, .cells [.pointer (some ⟨db, 0, none⟩), .int .i64 lim, .slice (some ⟨b, o, none⟩) s1.length c1].toArray 62 (0, 0)), (ba, .cells [.int .u64 ↑f_, .slice Al2 ((Sg.es ⟨f_, it⟩).length + 1) cl2, .slice Ae2 (it.length + 1) ce2].toArray 68 (0, 0))]); exact Mix.h; (first | exact Arr.all _ | (exact a_arr) | (exact a_arrs)); (exact a_np); kernel_rfl)
      (repeat' (first | (apply RT.step; exact rfl; intro _ _ _; (apply Ok.move; exact rfl); exact rfl) | (apply RT.step; exact rfl; intro _ _ _; (first | (apply Ok.subQ ((qs.length : Nat) : Int); exact rfl; exact rfl; exact hll; apply w64; omega; omega) | (apply Ok.indexAddr; exact rfl; exact rfl; omega; omega)); exact rfl) | (first | (apply RT.step; exact rfl; intro _ _ _; (exact a_ok); exact rfl) | (apply RT.stepT; exact rfl; exact rfl; exact rfl; exact rfl; intro _ _ _; (exact a_ok); exact rfl) | (apply RT.stepF; exact rfl; exact rfl; exact rfl; exact rfl; exact rfl; exact rfl) | (apply RT.stepU; exact rfl; exact rfl; exact rfl; exact rfl; exact rfl) | (apply RT.one; apply OneT.effF; exact rfl; exact rfl; exact rfl; exact rfl; exact rfl; exact rfl) | (apply RT.one; apply OneT.effU; exact rfl; exact rfl; exact rfl; exact rfl; exact rfl))))
      (apply RT.one; apply OneT.eff; exact rfl; intro Kc hKc ops0)
      apply R.arr (H2 := (b, .cells c.toArray 68 (0, 0)) :: (lb, .cells [.pointer (some ⟨db, 0, none⟩), .int .i64 lim, .slice (some ⟨b, o, none⟩) s1.length c1].toArray 62 (0, 0)) :: (ba, .cells [.int .u64 (f_ : Int), .slice Al2 ((⟨f_, it⟩ : Sg).es.length + 1) cl2, .slice Ae2 (it.length + 1) ce2].toArray 68 (0, 0)) :: (lh2 ++ (eh2 ++ (ptH qs ++ (hp4 ++ H))))) (by (exact a_art))
      rw [Int.toNat_natCast]
      (apply R.storeRow (vs := [.int .u64 (f_ : Int), .slice Al2 ((⟨f_, it⟩ : Sg).es.length + 1) cl2, .slice Ae2 (it.length + 1) ce2]); exact rfl; exact rfl; exact rfl; (exact a_at); (simp only [List.length_cons, List.length_nil]; omega); exact rfl; (intro u hu; simp only [List.mem_cons, List.not_mem_nil, or_false] at hu; rcases hu with rfl | rfl | rfl <;> rfl))
      apply R.arr (H2 := (lb, .cells [.pointer (some ⟨db, 0, none⟩), .int .i64 lim, .slice (some ⟨b, o, none⟩) s1.length c1].toArray 62 (0, 0)) :: (ba, .cells [.int .u64 (f_ : Int), .slice Al2 ((⟨f_, it⟩ : Sg).es.length + 1) cl2, .slice Ae2 (it.length + 1) ce2].toArray 68 (0, 0)) :: (b, .cells (c.take (o + qs.length * 3) ++ ([.int .u64 (f_ : Int), .slice Al2 ((⟨f_, it⟩ : Sg).es.length + 1) cl2, .slice Ae2 (it.length + 1) ce2] : List Value) ++ c.drop (o + qs.length * 3 + ([.int .u64 (f_ : Int), .slice Al2 ((⟨f_, it⟩ : Sg).es.length + 1) cl2, .slice Ae2 (it.length + 1) ce2] : List Value).length)).toArray 68 (0, 0)) :: (lh2 ++ (eh2 ++ (ptH qs ++ (hp4 ++ H))))) (by (exact a_art))
      (apply R.nil; apply Fin.kt (Hx := (b, .cells (c.take (o + qs.length * 3) ++ ([.int .u64 (f_ : Int), .slice Al2 ((⟨f_, it⟩ : Sg).es.length + 1) cl2, .slice Ae2 (it.length + 1) ce2] : List Value) ++ c.drop (o + qs.length * 3 + ([.int .u64 (f_ : Int), .slice Al2 ((⟨f_, it⟩ : Sg).es.length + 1) cl2, .slice Ae2 (it.length + 1) ce2] : List Value).length)).toArray 68 (0, 0)) :: (lh2 ++ (eh2 ++ (ptH qs ++ (hp4 ++ H))))) hKc; exact Mem.le_refl _; (exact a_art))
      (repeat' (first | (apply RT.step; exact rfl; intro _ _ _; (exact a_ok); exact rfl) | (apply RT.stepT; exact rfl; exact rfl; exact rfl; exact rfl; intro _ _ _; (exact a_ok); exact rfl) | (apply RT.stepF; exact rfl; exact rfl; exact rfl; exact rfl; exact rfl; exact rfl) | (apply RT.stepU; exact rfl; exact rfl; exact rfl; exact rfl; exact rfl) | (apply RT.one; apply OneT.effF; exact rfl; exact rfl; exact rfl; exact rfl; exact rfl; exact rfl) | (apply RT.one; apply OneT.effU; exact rfl; exact rfl; exact rfl; exact rfl; exact rfl)))
      apply RT.nil
      (repeat' (first | refine a_go ?_ | (with_reducible apply Fin.thenK; assumption) | (with_reducible (first | apply C.seqK | apply C.regionK); intro _ _) | (apply R.buildSlice0; exact rfl; intro bz) | (apply R.box; exact rfl; (simp only [Value.cells]; rfl); exact rfl; intro bx) | (apply R.alloc; (simp only [Value.cells]; rfl); exact rfl; intro ba) | (apply R.buildSlice; (exact a_prt); exact rfl; exact rfl; (exact a_fills); exact rfl; intro bl) | (refine a_sp ?_ ?_; (intro h; skip; rotate_left; intro h; skip; rotate_left)) | fail))
      obtain ⟨hL2, hHL⟩ : ∃ q : Hp, q = (lb, lgO db lim (.slice (some ⟨b, o, none⟩) s1.length c1)) :: ([(b, .cells (c.take (o + qs.length * 3) ++ ([.int .u64 (f_ : Int), .slice Al2 ((⟨f_, it⟩ : Sg).es.length + 1) cl2, .slice Ae2 (it.length + 1) ce2] : List Value) ++ c.drop (o + qs.length * 3 + ([.int .u64 (f_ : Int), .slice Al2 ((⟨f_, it⟩ : Sg).es.length + 1) cl2, .slice Ae2 (it.length + 1) ce2] : List Value).length)).toArray 68 (0, 0))] ++ ptH (qs ++ [⟨addS ⟨f_, it⟩ x, .slice Al2 ((⟨f_, it⟩ : Sg).es.length + 1) cl2, .slice Ae2 (it.length + 1) ce2, lh2, eh2⟩])) := ⟨_, rfl⟩
      apply Fin.arr (H2 := hL2 ++ (hp4 ++ H)) (by rw [hHL, ptH_snoc]; unfold lgO; dsimp only; (exact a_art))
      rw [← hHL] at hg2
      refine Fin.again (⟨k + 1, kk + 1, opD 0 d1 (.app (nameS f_) (frameS (layE x))), headG false s1 ++ [addS ⟨f_, it⟩ x], hL2, hp4, M5⟩ : ApX) ⟨by dsimp only; omega, by dsimp only; omega, hM1.trans_ (hM13.trans_ (hM4.trans_ hM5)), hg2, hok2, hsm2, ho4.mono hM5, by dsimp only; omega, by dsimp only; omega, by dsimp only; exact hap⟩ (by dsimp only; omega) ?_ rfl rfl
      (exact a_subs)
  · have hke' : k = es.length := by omega
    rw [hke', List.drop_eq_nil_of_le (Nat.le_refl _)] at hap
    have hap' : appL d lim ss es = (0, d1, s1) := hap
    rw [hap'] at hQ
    (repeat' (first | (apply R.step; (apply Ok.move; exact rfl); exact rfl) | (apply R.step; (first | (apply Ok.ltTr; exact rfl; exact rfl; omega) | (apply Ok.ltF; exact rfl; exact rfl; omega) | (apply Ok.gtTr; exact rfl; exact rfl; omega) | (apply Ok.gtF; exact rfl; exact rfl; omega) | (apply Ok.geTr; exact rfl; exact rfl; omega) | (apply Ok.geF; exact rfl; exact rfl; omega) | (apply Ok.leTr; exact rfl; exact rfl; omega) | (apply Ok.leF; exact rfl; exact rfl; omega) | (apply Ok.neIT; exact rfl; exact rfl; omega) | (apply Ok.eqIF; exact rfl; exact rfl; omega)); exact rfl) | refine a_go ?_ | (with_reducible apply Fin.thenK; assumption) | (with_reducible (first | apply C.seqK | apply C.regionK); intro _ _) | (apply R.buildSlice0; exact rfl; intro bz) | (apply R.box; exact rfl; (simp only [Value.cells]; rfl); exact rfl; intro bx) | (apply R.alloc; (simp only [Value.cells]; rfl); exact rfl; intro ba) | (apply R.buildSlice; (exact a_prt); exact rfl; exact rfl; (exact a_fills); exact rfl; intro bl) | (refine a_sp ?_ ?_; (intro h; skip; rotate_left; intro h; skip; rotate_left)) | fail))
    (apply Fin.returnA (H2 := hL1 ++ (hp1 ++ H)); assumption; (first | exact .inl rfl | exact .inr rfl); exact rfl; (exact a_res); (simp only [retv]; rfl); (exact a_arr))
    exact ⟨rfl, hM1, hL1, hp1, hg1, ho1, rfl⟩
end Go.Sx
end
section
namespace Go.Sx
open Go Go.Proofs Go.RowKit
attribute [local irreducible] C R Fin K Own OwnT Rd Pl Ok KOf RetOk OpsOf RP KP Res NoPanic KV KE MapS ItS EntS FsO FsR RowD PlD DkO RT KT OneT RS KS OneS
variable {M M' : Mem} {H H1 H2 : Hp}
def cutR (d : Dk) (i : Int) : List Sg → Int × Dk × List Sg
  | [] => (0, d, [])
  | s :: r => if i ≤ (s.first : Int) then (if remE d (nameS s.first) ≠ 0 then (remE d (nameS s.first), opD (remE d (nameS s.first)) d (.rem (nameS s.first)), s :: r) else cutR (opD 0 d (.rem (nameS s.first))) i r) else (0, d, s :: r)
def keepS (i : Int) (s : Sg) : Sg := ⟨s.first, s.it.take (i - s.first).toNat⟩
def cutT (d : Dk) (i : Int) : List Sg → Int × Dk × List Sg
  | [] => (0, d, [])
  | s :: r => if (match s.es.getLast? with | some a => a.idx | none => 0) < i then (0, d, s :: r) else
    (trcE d (nameS s.first) ((keepS i s).size : Int), opD (trcE d (nameS s.first) ((keepS i s).size : Int)) d (.trc (nameS s.first) (keepS i s).size), keepS i s :: r)
def cutG (d : Dk) (ss : List Sg) (i : Int) : Int × Dk × List Sg :=
  if (cutR d i ss.reverse).1 ≠ 0 then ((cutR d i ss.reverse).1, (cutR d i ss.reverse).2.1, (cutR d i ss.reverse).2.2.reverse)
  else ((cutT (cutR d i ss.reverse).2.1 i (cutR d i ss.reverse).2.2).1, (cutT (cutR d i ss.reverse).2.1 i (cutR d i ss.reverse).2.2).2.1, (cutT (cutR d i ss.reverse).2.1 i (cutR d i ss.reverse).2.2).2.2.reverse)
def conG (s : Sg) : Prop := s.first ≤ 72057594037927935 ∧ ∀ (j : Nat) e, s.es[j]? = some e → e.idx = (s.first : Int) + j
theorem plast_KO {p : PtV} {a : En} (hp : PtO M p) (ha : p.s.es.getLast? = some a) : K Try.prog 40 [.agg (ptC p).toArray] M (p.lh ++ H) fun v' M' H' => (∃ A' c', v' = eV a (.slice A' a.data.length c')) ∧ M' = M ∧ H' = p.lh ++ H :=
  K.lendsR (P := fun v' => ∃ A' c', v' = eV a (.slice A' a.data.length c')) (Arr.all _) fun M2 hM2 hin => by
    obtain ⟨h1, h2⟩ := hp
    obtain ⟨A, c, e1, _, _⟩ := h1.form
    obtain ⟨B, c2, e2, _, _⟩ := h2.form
    have hE := (h1.mono hM2).enL hin
    unfold ptC
    rw [e1, e2]
    rw [e1] at hE
    obtain ⟨A', c', _, hK⟩ := plast_KQ (f := p.s.first) (B := B) (m := p.s.it.length) (cb := c2) hE ha
    exact (hK M2 H (Mem.le_refl _)).mono fun v' M' H' ⟨g1, g2, g3⟩ => ⟨⟨A', c', g1⟩, g2, g3⟩
structure CuX where
  nn : Int
  d : Dk
  ss : List Sg
  hL : Hp
  hp : Hp
  M : Mem
theorem scut_K {lb db : Nat} {lim : Int} {d : Dk} {ss : List Sg} {i : Int} {hL hp : Hp} (hi : 0 ≤ i ∧ i ≤ 18446744073709551615) (hg : SgO M lb db lim ss hL) (hok : sgsOk ss) (hct : ∀ s ∈ ss, conG s) (hnm : ∀ s ∈ ss, s.it.length ≤ 1099511627776) (ho : DkO M db d hp) (hlen : d.ps.length + ss.length ≤ 900000) : K Try.prog 14 [.pointer (some ⟨lb, 0, none⟩), .int .u64 i] M (hL ++ (hp ++ H)) fun v' M' H' => v' = .int .i64 (cutG d ss i).1 ∧ M.le M' ∧ ∃ hL' hp', SgO M' lb db lim (cutG d ss i).2.2 hL' ∧ DkO M' db (cutG d ss i).2.1 hp' ∧ H' = hL' ++ (hp' ++ H) := by
  refine K.enterK Try.func14 rfl rfl rfl ?_
  intro Q hNP hQ
  have hsl0 : ss.length ≤ 900000 := by omega
  obtain ⟨A0, c0, hR0, e0, _⟩ := hg.rec_
  rw [e0]
  (repeat' (first | refine a_go ?_ | (with_reducible apply Fin.thenK; assumption) | (with_reducible (first | apply C.seqK | apply C.regionK); intro _ _) | (apply R.buildSlice0; exact rfl; intro bz) | (apply R.box; exact rfl; (simp only [Value.cells]; rfl); exact rfl; intro bx) | (apply R.alloc; (simp only [Value.cells]; rfl); exact rfl; intro ba) | (apply R.buildSlice; (exact a_prt); exact rfl; exact rfl; (exact a_fills); exact rfl; intro bl) | (refine a_sp ?_ ?_; (intro h; skip; rotate_left; intro h; skip; rotate_left)) | fail))
  rw [← e0]
  apply C.loop (fun y : CuX => (y.ss.length : Int) = y.nn ∧ M.le y.M ∧ SgO y.M lb db lim y.ss y.hL ∧ (∀ s ∈ y.ss, s ∈ ss) ∧ DkO y.M db y.d y.hp ∧ y.d.ps.length + y.ss.length ≤ d.ps.length + ss.length ∧ cutR d i ss.reverse = cutR y.d i y.ss.reverse)
    (fun y => [(0, .pointer (some ⟨lb, 0, none⟩)), (1, .int .u64 i), (5, .int .i64 y.nn)]) (fun y => y.M) (fun y => y.hL ++ (y.hp ++ H)) (fun y => y.ss.length) ⟨(ss.length : Int), d, ss, hL, hp, M⟩
  · exact ⟨rfl, Mem.le_refl _, hg, fun s h => h, ho, Nat.le_refl _, rfl⟩
  · (exact a_subs)
  · exact rfl
  · exact rfl
  rintro ⟨nn, d1, s1, hL1, hp1, M1⟩ ⟨hnn, hM1, hg1, hsub, ho1, hd1, hcr⟩
  dsimp only at hnn hM1 hg1 hsub ho1 hd1 hcr ⊢
  subst hnn
  by_cases h0 : s1.length = 0
  · have hnl : s1 = [] := List.eq_nil_of_length_eq_zero h0
    subst hnl
    have hcr2 : cutR d i ss.reverse = (0, d1, []) := hcr
    have hQ2 : cutG d ss i = (0, d1, []) := by
      unfold cutG
      rw [hcr2]
      rfl
    rw [hQ2] at hQ
    (repeat' (first | (apply R.step; (apply Ok.move; exact rfl); exact rfl) | (apply R.step; (apply Ok.gtF; exact rfl; exact rfl; omega); exact rfl) | refine a_go ?_ | (with_reducible apply Fin.thenK; assumption) | (with_reducible (first | apply C.seqK | apply C.regionK); intro _ _) | (apply R.buildSlice0; exact rfl; intro bz) | (apply R.box; exact rfl; (simp only [Value.cells]; rfl); exact rfl; intro bx) | (apply R.alloc; (simp only [Value.cells]; rfl); exact rfl; intro ba) | (apply R.buildSlice; (exact a_prt); exact rfl; exact rfl; (exact a_fills); exact rfl; intro bl) | (refine a_sp ?_ ?_; (intro h; skip; rotate_left; intro h; skip; rotate_left)) | fail))
    obtain ⟨A2, c2, hR2, rfl, _⟩ := hg1.rec_
    (repeat' (first | (apply R.step; (apply Ok.move; exact rfl); exact rfl) | (apply R.step; (apply Ok.eqIR; exact rfl; exact rfl; rfl); exact rfl) | refine a_go ?_ | (with_reducible apply Fin.thenK; assumption) | (with_reducible (first | apply C.seqK | apply C.regionK); intro _ _) | (apply R.buildSlice0; exact rfl; intro bz) | (apply R.box; exact rfl; (simp only [Value.cells]; rfl); exact rfl; intro bx) | (apply R.alloc; (simp only [Value.cells]; rfl); exact rfl; intro ba) | (apply R.buildSlice; (exact a_prt); exact rfl; exact rfl; (exact a_fills); exact rfl; intro bl) | (refine a_sp ?_ ?_; (intro h; skip; rotate_left; intro h; skip; rotate_left)) | fail))
    obtain ⟨hL2, hHL⟩ : ∃ q : Hp, q = (lb, .cells [.pointer (some ⟨db, 0, none⟩), .int .i64 lim, .slice A2 ([] : List Sg).length c2].toArray 62 (0, 0)) :: hR2 := ⟨_, rfl⟩
    rw [← hHL] at hg1 ⊢
    (apply Fin.returnA (H2 := hL2 ++ (hp1 ++ H)); assumption; (first | exact .inl rfl | exact .inr rfl); exact rfl; (exact a_res); (simp only [retv]; rfl); (exact a_arr))
    exact ⟨rfl, hM1, hL2, hp1, hg1, ho1, rfl⟩
  obtain ⟨qs, p, b, o, cp, c, hX⟩ := hg1.endO (by omega)
  have hhp := hX.heap
  unfold lgO at hhp
  subst hhp
  have hgl : s1.getLast? = some p.s := by rw [hX.segs, List.getLast?_append]; rfl
  have hpm : p.s ∈ s1 := List.mem_of_getLast? hgl
  have hso := hok _ (hsub _ hpm)
  have hco := hct _ (hsub _ hpm)
  have hns := hnm _ (hsub _ hpm)
  have hsl2 := hX.len
  have hcell := hX.cell
  have hroom := hX.room
  have hcp1 := hX.cap1
  have hcp2 := hX.cap2
  have hll : (s1.length : Int) - 1 = ((s1.length - 1 : Nat) : Int) := by omega
  have hrev : s1.reverse = p.s :: (qs.map PtV.s).reverse := by rw [hX.segs, List.reverse_append]; rfl
  rw [hrev] at hcr
  have hPO := hX.own
  have hallX := hX.all
  have hrowX := hX.row
  obtain ⟨⟨f_, it⟩, lv, ev, lh, eh⟩ := p
  obtain ⟨hoP, hoT⟩ := id hPO
  obtain ⟨Al, cl, hlv, kl1, kl2⟩ := hoP.form
  obtain ⟨Ae, ce, hev, ke1, ke2⟩ := hoT.form
  change lv = .slice Al (⟨f_, it⟩ : Sg).es.length cl at hlv
  change ev = .slice Ae it.length ce at hev
  subst hlv hev
  dsimp only at hcr hso hns hoP hoT ⊢
  have hfb : f_ ≤ 72057594037927935 := hco.1
  have hcell0 : c[o + ((s1.length - 1 : Nat) : Int).toNat * 3 + 0]? = some (.int .u64 (f_ : Int)) := hcell 0 _ rfl
  have hcell' : ∀ (q : Nat) u, [Value.int .u64 (f_ : Int), .slice Al (⟨f_, it⟩ : Sg).es.length cl, .slice Ae it.length ce][q]? = some u → c[o + ((s1.length - 1 : Nat) : Int).toNat * 3 + q]? = some u := hcell
  by_cases hge : i ≤ (f_ : Int)
  · have hcr1 : cutR d1 i (⟨f_, it⟩ :: (qs.map PtV.s).reverse) = if remE d1 (nameS f_) ≠ 0 then (remE d1 (nameS f_), opD (remE d1 (nameS f_)) d1 (.rem (nameS f_)), ⟨f_, it⟩ :: (qs.map PtV.s).reverse) else cutR (opD 0 d1 (.rem (nameS f_))) i (qs.map PtV.s).reverse := by
      rw [cutR, if_pos hge]
    rw [hcr1] at hcr
    clear hcr1
    (repeat' (first | (apply R.step; (apply Ok.move; exact rfl); exact rfl) | (apply R.step; (first | (apply Ok.gtTr; exact rfl; exact rfl; omega) | (apply Ok.subQ ((s1.length - 1 : Nat) : Int); exact rfl; exact rfl; exact hll; apply w64; omega; omega) | (apply Ok.indexAddr; exact rfl; exact rfl; omega; omega) | (apply Ok.load; exact rfl; exact rfl; (exact a_at); exact hcell0) | (apply Ok.geTr; exact rfl; exact rfl; exact hge)); exact rfl) | refine a_go ?_ | (with_reducible apply Fin.thenK; assumption) | (with_reducible (first | apply C.seqK | apply C.regionK); intro _ _) | (apply R.buildSlice0; exact rfl; intro bz) | (apply R.box; exact rfl; (simp only [Value.cells]; rfl); exact rfl; intro bx) | (apply R.alloc; (simp only [Value.cells]; rfl); exact rfl; intro ba) | (apply R.buildSlice; (exact a_prt); exact rfl; exact rfl; (exact a_fills); exact rfl; intro bl) | (refine a_sp ?_ ?_; (intro h; skip; rotate_left; intro h; skip; rotate_left)) | fail))
    (apply C.regionT (t := .free 0 (.free 1 (.free 2 (.free 3 (.free 4 (.free 5 (.free 6 (.free 7 (.free 8 (.free 9 (.free 10 (.free 11 (.free 12 (.free 13 (.one 14 (.free 15 .nil)))))))))))))))) (Hs := [(lb, .cells [.pointer (some ⟨db, 0, none⟩), .int .i64 lim, .slice (some ⟨b, o, none⟩) s1.length cp].toArray 62 (0, 0)), (b, .cells c.toArray 68 (0, 0))]); exact Mix.h; (first | exact Arr.all _ | (exact a_arr) | (exact a_arrs)); (exact a_np); kernel_rfl)
    (repeat' (first | (apply RT.step; exact rfl; intro _ _ _; (apply Ok.move; exact rfl); exact rfl) | (apply RT.callQ; exact rfl; exact inferInstance; (exact a_evs); exact rfl; (intro M' Hx' hM'; exact segName_K (n := f_) (by omega))) | (apply RT.step; exact rfl; intro _ _ _; (first | (apply Ok.subQ ((s1.length - 1 : Nat) : Int); exact rfl; exact rfl; exact hll; apply w64; omega; omega) | (apply Ok.indexAddr; exact rfl; exact rfl; omega; omega) | (apply Ok.load; exact rfl; exact rfl; (exact a_at); exact hcell0)); exact rfl) | (first | (apply RT.step; exact rfl; intro _ _ _; (exact a_ok); exact rfl) | (apply RT.stepT; exact rfl; exact rfl; exact rfl; exact rfl; intro _ _ _; (exact a_ok); exact rfl) | (apply RT.stepF; exact rfl; exact rfl; exact rfl; exact rfl; exact rfl; exact rfl) | (apply RT.stepU; exact rfl; exact rfl; exact rfl; exact rfl; exact rfl) | (apply RT.one; apply OneT.effF; exact rfl; exact rfl; exact rfl; exact rfl; exact rfl; exact rfl) | (apply RT.one; apply OneT.effU; exact rfl; exact rfl; exact rfl; exact rfl; exact rfl))))
    (apply RT.one; apply OneT.eff; exact rfl; intro Kc hKc ops0)
    apply R.arr (H2 := hp1 ++ ((lb, .cells [.pointer (some ⟨db, 0, none⟩), .int .i64 lim, .slice (some ⟨b, o, none⟩) s1.length cp].toArray 62 (0, 0)) :: (b, .cells c.toArray 68 (0, 0)) :: (ptH qs ++ (lh ++ (eh ++ H))))) (by (exact a_art))
    (apply R.call; (exact a_evs); exact rfl; exact remove_K (n := nameS f_) ho1 (by omega); rintro _ M2 _ ⟨rfl, hM2, hp2, ho2, rfl⟩)
    (apply R.nil; apply Fin.kt (Hx := ptH qs ++ (lh ++ (eh ++ (hp2 ++ H)))) hKc; exact hM2; (exact a_art))
    (repeat' (first | (apply RT.step; exact rfl; intro _ _ _; (exact a_ok); exact rfl) | (apply RT.stepT; exact rfl; exact rfl; exact rfl; exact rfl; intro _ _ _; (exact a_ok); exact rfl) | (apply RT.stepF; exact rfl; exact rfl; exact rfl; exact rfl; exact rfl; exact rfl) | (apply RT.stepU; exact rfl; exact rfl; exact rfl; exact rfl; exact rfl) | (apply RT.one; apply OneT.effF; exact rfl; exact rfl; exact rfl; exact rfl; exact rfl; exact rfl) | (apply RT.one; apply OneT.effU; exact rfl; exact rfl; exact rfl; exact rfl; exact rfl)))
    apply RT.nil
    by_cases hq : remE d1 (nameS f_) = 0
    rotate_left
    · rw [if_pos hq] at hcr
      have hQ2 : cutG d ss i = (remE d1 (nameS f_), opD (remE d1 (nameS f_)) d1 (.rem (nameS f_)), s1) := by
        unfold cutG
        rw [hcr]
        dsimp only
        rw [if_pos hq, ← hrev, List.reverse_reverse]
      rw [hQ2] at hQ
      (repeat' (first | (apply R.step; (apply Ok.move; exact rfl); exact rfl) | (apply R.step; (apply Ok.neIT; exact rfl; exact rfl; exact hq); exact rfl) | refine a_go ?_ | (with_reducible apply Fin.thenK; assumption) | (with_reducible (first | apply C.seqK | apply C.regionK); intro _ _) | (apply R.buildSlice0; exact rfl; intro bz) | (apply R.box; exact rfl; (simp only [Value.cells]; rfl); exact rfl; intro bx) | (apply R.alloc; (simp only [Value.cells]; rfl); exact rfl; intro ba) | (apply R.buildSlice; (exact a_prt); exact rfl; exact rfl; (exact a_fills); exact rfl; intro bl) | (refine a_sp ?_ ?_; (intro h; skip; rotate_left; intro h; skip; rotate_left)) | fail))
      obtain ⟨hL2, hHL⟩ : ∃ q : Hp, q = (lb, .cells [.pointer (some ⟨db, 0, none⟩), .int .i64 lim, .slice (some ⟨b, o, none⟩) s1.length cp].toArray 62 (0, 0)) :: (b, .cells c.toArray 68 (0, 0)) :: (ptH qs ++ (lh ++ eh)) := ⟨_, rfl⟩
      apply Fin.arr (H2 := hL2 ++ (hp2 ++ H)) (by rw [hHL]; (exact a_art))
      rw [← hHL] at hg1
      (apply Fin.returnA (H2 := hL2 ++ (hp2 ++ H)); assumption; (first | exact .inl rfl | exact .inr rfl); exact rfl; (exact a_res); (simp only [retv]; rfl); (exact a_arr))
      exact ⟨rfl, hM1.trans_ hM2, hL2, hp2, hg1.mono hM2, ho2, rfl⟩
    rw [if_neg (fun h => h hq)] at hcr
    rw [hq] at ho2
    have hnp : (opD 0 d1 (.rem (nameS f_))).ps.length ≤ d1.ps.length + 1 := opD_ps _ _ _
    have hg2 : SgO M2 lb db lim (qs.map PtV.s) ((lb, lgO db lim (.slice (some ⟨b, o, none⟩) (s1.length - 1) cp)) :: ([(b, .cells c.toArray 68 (0, 0))] ++ ptH qs)) := by
      refine ⟨qs, _, _, rfl, ?_, fun q hq => (hallX q hq).mono (hM2), rfl⟩
      have h1 := hrowX.shrink (k := s1.length - 1) (by omega)
      rw [List.take_left' (by rw [ptC_flat]; omega)] at h1
      rw [show qs.length = s1.length - 1 by omega]
      exact h1
    (repeat' (first | (apply R.step; (apply Ok.move; exact rfl); exact rfl) | (apply R.step; (first | (apply Ok.neIR; exact rfl; exact rfl; exact hq) | (apply Ok.subQ ((s1.length - 1 : Nat) : Int); exact rfl; exact rfl; exact hll; apply w64; omega; omega) | (apply Ok.sliceHi; exact rfl; exact rfl; omega; omega)); exact rfl) | refine a_go ?_ | (with_reducible apply Fin.thenK; assumption) | (with_reducible (first | apply C.seqK | apply C.regionK); intro _ _) | (apply R.buildSlice0; exact rfl; intro bz) | (apply R.box; exact rfl; (simp only [Value.cells]; rfl); exact rfl; intro bx) | (apply R.alloc; (simp only [Value.cells]; rfl); exact rfl; intro ba) | (apply R.buildSlice; (exact a_prt); exact rfl; exact rfl; (exact a_fills); exact rfl; intro bl) | (refine a_sp ?_ ?_; (intro h; skip; rotate_left; intro h; skip; rotate_left)) | fail))
    obtain ⟨hL2, hHL⟩ : ∃ q : Hp, q = (lb, lgO db lim (.slice (some ⟨b, o, none⟩) (s1.length - 1) cp)) :: ([(b, .cells c.toArray 68 (0, 0))] ++ ptH qs) := ⟨_, rfl⟩
    apply Fin.arr (H2 := hL2 ++ (hp2 ++ H)) (by rw [hHL, Int.toNat_natCast]; unfold lgO; (exact a_art))
    rw [← hHL] at hg2
    refine Fin.again (⟨((s1.length - 1 : Nat) : Int), opD 0 d1 (.rem (nameS f_)), qs.map PtV.s, hL2, hp2, M2⟩ : CuX) ⟨by dsimp only; rw [List.length_map]; omega, hM1.trans_ hM2, hg2, ?_, ho2, ?_, hcr⟩ ?_ ?_ rfl rfl
    · intro s hs
      exact hsub s (by rw [hX.segs]; exact List.mem_append_left _ hs)
    · dsimp only
      rw [List.length_map]
      omega
    · dsimp only
      rw [List.length_map]
      omega
    · (exact a_subs)
  · have hcr1 : cutR d1 i (⟨f_, it⟩ :: (qs.map PtV.s).reverse) = (0, d1, ⟨f_, it⟩ :: (qs.map PtV.s).reverse) := by
      rw [cutR, if_neg hge]
    rw [hcr1] at hcr
    clear hcr1
    have hesl : (⟨f_, it⟩ : Sg).es.length = it.length := Sg.es_len _
    have hlen0 : 0 < it.length := hso.1
    obtain ⟨a, ha⟩ : ∃ a, (⟨f_, it⟩ : Sg).es.getLast? = some a := ⟨_, getLast_len (by omega)⟩
    have hai : a.idx = (f_ : Int) + ((it.length - 1 : Nat) : Int) := by
      have h1 := ha
      rw [List.getLast?_eq_getElem?, hesl] at h1
      exact hco.2 _ _ h1
    have hQ1 : cutG d ss i = ((cutT d1 i (⟨f_, it⟩ :: (qs.map PtV.s).reverse)).1, (cutT d1 i (⟨f_, it⟩ :: (qs.map PtV.s).reverse)).2.1, (cutT d1 i (⟨f_, it⟩ :: (qs.map PtV.s).reverse)).2.2.reverse) := by
      unfold cutG
      rw [hcr]
      dsimp only
      rw [if_neg (fun h => h rfl)]
    rw [hQ1] at hQ
    clear hQ1
    (repeat' (first | (apply R.step; (apply Ok.move; exact rfl); exact rfl) | (apply R.step; (first | (apply Ok.gtTr; exact rfl; exact rfl; omega) | (apply Ok.subQ ((s1.length - 1 : Nat) : Int); exact rfl; exact rfl; exact hll; apply w64; omega; omega) | (apply Ok.indexAddr; exact rfl; exact rfl; omega; omega) | (apply Ok.load; exact rfl; exact rfl; (exact a_at); exact hcell0) | (apply Ok.geF; exact rfl; exact rfl; omega) | (apply Ok.eqIF; exact rfl; exact rfl; omega) | (apply Ok.loadAggO (vs := [Value.int .u64 (f_ : Int), .slice Al (⟨f_, it⟩ : Sg).es.length cl, .slice Ae it.length ce]); exact rfl; exact rfl; (exact a_at); exact hcell'; exact rfl)); exact rfl) | refine a_go ?_ | (with_reducible apply Fin.thenK; assumption) | (with_reducible (first | apply C.seqK | apply C.regionK); intro _ _) | (apply R.buildSlice0; exact rfl; intro bz) | (apply R.box; exact rfl; (simp only [Value.cells]; rfl); exact rfl; intro bx) | (apply R.alloc; (simp only [Value.cells]; rfl); exact rfl; intro ba) | (apply R.buildSlice; (exact a_prt); exact rfl; exact rfl; (exact a_fills); exact rfl; intro bl) | (refine a_sp ?_ ?_; (intro h; skip; rotate_left; intro h; skip; rotate_left)) | fail))
    apply R.arr (H2 := lh ++ ((lb, .cells [.pointer (some ⟨db, 0, none⟩), .int .i64 lim, .slice (some ⟨b, o, none⟩) s1.length cp].toArray 62 (0, 0)) :: (b, .cells c.toArray 68 (0, 0)) :: (ptH qs ++ (eh ++ (hp1 ++ H))))) (by (exact a_art))
    (apply R.call; (exact a_evs); exact rfl; exact plast_KO hPO ha; rintro _ M1 _ ⟨⟨A', c', rfl⟩, rfl, rfl⟩)
    unfold eV ecells
    by_cases hlt : a.idx < i
    · have hct2 : cutT d1 i (⟨f_, it⟩ :: (qs.map PtV.s).reverse) = (0, d1, ⟨f_, it⟩ :: (qs.map PtV.s).reverse) := by
        rw [cutT, ha]
        exact if_pos hlt
      rw [hct2] at hQ
      dsimp only at hQ
      rw [← hrev, List.reverse_reverse] at hQ
      (repeat' (first | (apply R.step; (apply Ok.move; exact rfl); exact rfl) | (apply R.step; (apply Ok.ltTr; exact rfl; exact rfl; exact hlt); exact rfl) | refine a_go ?_ | (with_reducible apply Fin.thenK; assumption) | (with_reducible (first | apply C.seqK | apply C.regionK); intro _ _) | (apply R.buildSlice0; exact rfl; intro bz) | (apply R.box; exact rfl; (simp only [Value.cells]; rfl); exact rfl; intro bx) | (apply R.alloc; (simp only [Value.cells]; rfl); exact rfl; intro ba) | (apply R.buildSlice; (exact a_prt); exact rfl; exact rfl; (exact a_fills); exact rfl; intro bl) | (refine a_sp ?_ ?_; (intro h; skip; rotate_left; intro h; skip; rotate_left)) | fail))
      obtain ⟨hL2, hHL⟩ : ∃ q : Hp, q = (lb, .cells [.pointer (some ⟨db, 0, none⟩), .int .i64 lim, .slice (some ⟨b, o, none⟩) s1.length cp].toArray 62 (0, 0)) :: (b, .cells c.toArray 68 (0, 0)) :: (ptH qs ++ (lh ++ eh)) := ⟨_, rfl⟩
      apply Fin.arr (H2 := hL2 ++ (hp1 ++ H)) (by rw [hHL]; (exact a_art))
      rw [← hHL] at hg1
      (apply Fin.returnA (H2 := hL2 ++ (hp1 ++ H)); assumption; (first | exact .inl rfl | exact .inr rfl); exact rfl; (exact a_res); (simp only [retv]; rfl); (exact a_arr))
      exact ⟨rfl, hM1, hL2, hp1, hg1, ho1, rfl⟩
    obtain ⟨kp, hkp⟩ : ∃ kp : Nat, (kp : Int) = i - f_ := ⟨(i - f_).toNat, by omega⟩
    have hks : keepS i ⟨f_, it⟩ = ⟨f_, it.take kp⟩ := by
      unfold keepS
      dsimp only
      rw [← hkp, Int.toNat_natCast]
    have hct2 : cutT d1 i (⟨f_, it⟩ :: (qs.map PtV.s).reverse) = (trcE d1 (nameS f_) ((⟨f_, it.take kp⟩ : Sg).size : Int), opD (trcE d1 (nameS f_) ((⟨f_, it.take kp⟩ : Sg).size : Int)) d1 (.trc (nameS f_) (⟨f_, it.take kp⟩ : Sg).size), ⟨f_, it.take kp⟩ :: (qs.map PtV.s).reverse) := by
      rw [cutT, ha, hks]
      exact if_neg hlt
    rw [hct2] at hQ
    dsimp only at hQ
    rw [List.reverse_cons, List.reverse_reverse] at hQ
    have hkl : 0 < kp ∧ kp ≤ it.length := by omega
    have hkl2 : kp ≤ cl ∧ kp ≤ ce := by dsimp only at kl1 ke1; omega
    (repeat' (first | (apply R.step; (apply Ok.move; exact rfl); exact rfl) | (apply R.step; (first | (apply Ok.ltF; exact rfl; exact rfl; exact hlt) | (apply Ok.subQ ((s1.length - 1 : Nat) : Int); exact rfl; exact rfl; exact hll; apply w64; omega; omega) | (apply Ok.subQ (kp : Int); exact rfl; exact rfl; exact hkp.symm; apply wu64; omega; omega) | (apply Ok.indexAddr; exact rfl; exact rfl; omega; omega) | (apply Ok.loadAggO (vs := [Value.int .u64 (f_ : Int), .slice Al (⟨f_, it⟩ : Sg).es.length cl, .slice Ae it.length ce]); exact rfl; exact rfl; (exact a_at); exact hcell'; exact rfl)); exact rfl) | refine a_go ?_ | (with_reducible apply Fin.thenK; assumption) | (with_reducible (first | apply C.seqK | apply C.regionK); intro _ _) | (apply R.buildSlice0; exact rfl; intro bz) | (apply R.box; exact rfl; (simp only [Value.cells]; rfl); exact rfl; intro bx) | (apply R.alloc; (simp only [Value.cells]; rfl); exact rfl; intro ba) | (apply R.buildSlice; (exact a_prt); exact rfl; exact rfl; (exact a_fills); exact rfl; intro bl) | (refine a_sp ?_ ?_; (intro h; skip; rotate_left; intro h; skip; rotate_left)) | fail))
    have hPO2 : PtO M1 ⟨⟨f_, it.take kp⟩, .slice Al kp kp, .slice Ae kp kp, lh, eh⟩ := by
      refine ⟨?_, ?_⟩
      · show OwnP M1 _ ((it.take kp).map Prod.fst) lh
        rw [List.map_take]
        exact hoP.hiMax (k := kp) (by omega)
      · show OwnT 3 1 _ (it.take kp).length (endC (endsA 0 ((it.take kp).map Prod.snd))) eh
        have h1 := OwnT.hiMax (k := kp) (show OwnT 3 1 (.slice Ae it.length ce) it.length (endC (endsA 0 (it.map Prod.snd))) eh from hoT) (by omega)
        rw [List.length_take, Nat.min_eq_left hkl.2, List.map_take, ← endsA_take]
        unfold endC at h1 ⊢
        rw [Nat.mul_one, ← List.map_take] at h1
        exact h1
    dsimp only
    apply C.cutK (X := Unit) (hk := by assumption) (fun _ => True) (fun _ => [(0, .pointer (some ⟨lb, 0, none⟩)), (7, .int .i64 (s1.length : Int)), (8, .pointer (some ⟨ba, 0, none⟩))]) (fun _ => M1) (fun _ => (ba, .cells [.int .u64 (f_ : Int), .slice Al kp kp, .slice Ae kp kp].toArray 68 (0, 0)) :: (lb, .cells [.pointer (some ⟨db, 0, none⟩), .int .i64 lim, .slice (some ⟨b, o, none⟩) s1.length cp].toArray 62 (0, 0)) :: (b, .cells c.toArray 68 (0, 0)) :: (lh ++ (ptH qs ++ (eh ++ (hp1 ++ H)))))
    · (apply C.regionT (t := .free 0 (.free 2 (.free 3 (.free 5 (.free 7 (.free 8 (.alt 1 6 (.free 4 (.one 6 (.free 9 (.free 10 (.one 11 (.free 12 (.one 13 .nil))))))) (.free 9 (.one 1 (.free 4 (.free 10 (.one 11 (.free 12 (.one 13 .nil)))))))))))))) (Hs := []); exact Mix.h; (first | exact Arr.all _ | (exact a_arr) | (exact a_arrs)); (exact a_np); kernel_rfl)
      (repeat' (first | (apply RT.step; exact rfl; intro _ _ _; (exact a_ok); exact rfl) | (apply RT.stepT; exact rfl; exact rfl; exact rfl; exact rfl; intro _ _ _; (exact a_ok); exact rfl) | (apply RT.stepF; exact rfl; exact rfl; exact rfl; exact rfl; exact rfl; exact rfl) | (apply RT.stepU; exact rfl; exact rfl; exact rfl; exact rfl; exact rfl) | (apply RT.one; apply OneT.effF; exact rfl; exact rfl; exact rfl; exact rfl; exact rfl; exact rfl) | (apply RT.one; apply OneT.effU; exact rfl; exact rfl; exact rfl; exact rfl; exact rfl)))
      apply RT.alt
      all_goals (apply OneT.eff; exact rfl; intro Kc hKc ops0)
      all_goals (repeat' (first | refine a_go ?_ | (with_reducible apply Fin.thenK; assumption) | (with_reducible (first | apply C.seqK | apply C.regionK); intro _ _) | (apply R.buildSlice0; exact rfl; intro bz) | (apply R.box; exact rfl; (simp only [Value.cells]; rfl); exact rfl; intro bx) | (apply R.alloc; (simp only [Value.cells]; rfl); exact rfl; intro ba) | (apply R.buildSlice; (exact a_prt); exact rfl; exact rfl; (exact a_fills); exact rfl; intro bl) | (refine a_sp ?_ ?_; (intro h; skip; rotate_left; intro h; skip; rotate_left)) | fail))
      all_goals ((first | apply R.nil | skip); apply Fin.kt hKc; exact Mem.le_refl _; (exact a_arrs))
      all_goals (repeat' (first | (apply RT.step; exact rfl; intro _ _ _; (apply Ok.move; exact rfl); exact rfl) | (apply RT.step; exact rfl; intro _ _ _; (apply Ok.sliceHiMax; exact rfl; exact rfl; exact rfl; omega; omega; omega); exact rfl) | (first | (apply RT.step; exact rfl; intro _ _ _; (exact a_ok); exact rfl) | (apply RT.stepT; exact rfl; exact rfl; exact rfl; exact rfl; intro _ _ _; (exact a_ok); exact rfl) | (apply RT.stepF; exact rfl; exact rfl; exact rfl; exact rfl; exact rfl; exact rfl) | (apply RT.stepU; exact rfl; exact rfl; exact rfl; exact rfl; exact rfl) | (apply RT.one; apply OneT.effF; exact rfl; exact rfl; exact rfl; exact rfl; exact rfl; exact rfl) | (apply RT.one; apply OneT.effU; exact rfl; exact rfl; exact rfl; exact rfl; exact rfl))))
      all_goals (apply RT.one; apply OneT.eff; exact rfl; intro Kc hKc ops0)
      all_goals (repeat' (first | refine a_go ?_ | (with_reducible apply Fin.thenK; assumption) | (with_reducible (first | apply C.seqK | apply C.regionK); intro _ _) | (apply R.buildSlice0; exact rfl; intro bz) | (apply R.box; exact rfl; (simp only [Value.cells]; rfl); exact rfl; intro bx) | (apply R.alloc; (simp only [Value.cells]; rfl); exact rfl; intro ba) | (apply R.buildSlice; (exact a_prt); exact rfl; exact rfl; (exact a_fills); exact rfl; intro bl) | (refine a_sp ?_ ?_; (intro h; skip; rotate_left; intro h; skip; rotate_left)) | fail))
      all_goals ((first | apply R.nil | skip); apply Fin.kt hKc; exact Mem.le_refl _; (exact a_arrs))
      all_goals (repeat' (first | (apply RT.step; exact rfl; intro _ _ _; (apply Ok.move; exact rfl); exact rfl) | (apply RT.step; exact rfl; intro _ _ _; (apply Ok.sliceHiMax; exact rfl; exact rfl; exact rfl; omega; omega; omega); exact rfl) | (first | (apply RT.step; exact rfl; intro _ _ _; (exact a_ok); exact rfl) | (apply RT.stepT; exact rfl; exact rfl; exact rfl; exact rfl; intro _ _ _; (exact a_ok); exact rfl) | (apply RT.stepF; exact rfl; exact rfl; exact rfl; exact rfl; exact rfl; exact rfl) | (apply RT.stepU; exact rfl; exact rfl; exact rfl; exact rfl; exact rfl) | (apply RT.one; apply OneT.effF; exact rfl; exact rfl; exact rfl; exact rfl; exact rfl; exact rfl) | (apply RT.one; apply OneT.effU; exact rfl; exact rfl; exact rfl; exact rfl; exact rfl))))
      all_goals (apply RT.one; apply OneT.eff; exact rfl; intro Kc hKc ops0)
      all_goals (repeat' (first | refine a_go ?_ | (with_reducible apply Fin.thenK; assumption) | (with_reducible (first | apply C.seqK | apply C.regionK); intro _ _) | (apply R.buildSlice0; exact rfl; intro bz) | (apply R.box; exact rfl; (simp only [Value.cells]; rfl); exact rfl; intro bx) | (apply R.alloc; (simp only [Value.cells]; rfl); exact rfl; intro ba) | (apply R.buildSlice; (exact a_prt); exact rfl; exact rfl; (exact a_fills); exact rfl; intro bl) | (refine a_sp ?_ ?_; (intro h; skip; rotate_left; intro h; skip; rotate_left)) | fail))
      all_goals ((first | apply R.nil | skip); apply Fin.kt hKc; exact Mem.le_refl _; (exact a_arrs))
      all_goals (repeat' (first | (apply RT.step; exact rfl; intro _ _ _; (exact a_ok); exact rfl) | (apply RT.stepT; exact rfl; exact rfl; exact rfl; exact rfl; intro _ _ _; (exact a_ok); exact rfl) | (apply RT.stepF; exact rfl; exact rfl; exact rfl; exact rfl; exact rfl; exact rfl) | (apply RT.stepU; exact rfl; exact rfl; exact rfl; exact rfl; exact rfl) | (apply RT.one; apply OneT.effF; exact rfl; exact rfl; exact rfl; exact rfl; exact rfl; exact rfl) | (apply RT.one; apply OneT.effU; exact rfl; exact rfl; exact rfl; exact rfl; exact rfl)))
      all_goals (apply RT.one; apply OneT.eff; exact rfl; intro Kc hKc ops0)
      all_goals (repeat' (first | refine a_go ?_ | (with_reducible apply Fin.thenK; assumption) | (with_reducible (first | apply C.seqK | apply C.regionK); intro _ _) | (apply R.buildSlice0; exact rfl; intro bz) | (apply R.box; exact rfl; (simp only [Value.cells]; rfl); exact rfl; intro bx) | (apply R.alloc; (simp only [Value.cells]; rfl); exact rfl; intro ba) | (apply R.buildSlice; (exact a_prt); exact rfl; exact rfl; (exact a_fills); exact rfl; intro bl) | (refine a_sp ?_ ?_; (intro h; skip; rotate_left; intro h; skip; rotate_left)) | fail))
      all_goals ((first | apply R.nil | skip); apply Fin.kt hKc; exact Mem.le_refl _; (exact a_arrs))
      all_goals apply RT.nil
      all_goals (repeat' (first | refine a_go ?_ | (with_reducible apply Fin.thenK; assumption) | (with_reducible (first | apply C.seqK | apply C.regionK); intro _ _) | (apply R.buildSlice0; exact rfl; intro bz) | (apply R.box; exact rfl; (simp only [Value.cells]; rfl); exact rfl; intro bx) | (apply R.alloc; (simp only [Value.cells]; rfl); exact rfl; intro ba) | (apply R.buildSlice; (exact a_prt); exact rfl; exact rfl; (exact a_fills); exact rfl; intro bl) | (refine a_sp ?_ ?_; (intro h; skip; rotate_left; intro h; skip; rotate_left)) | fail))
      all_goals rw [Int.toNat_natCast]
      all_goals (apply Fin.arr (H2 := (ba, .cells [.int .u64 (f_ : Int), .slice Al kp kp, .slice Ae kp kp].toArray 68 (0, 0)) :: (lb, .cells [.pointer (some ⟨db, 0, none⟩), .int .i64 lim, .slice (some ⟨b, o, none⟩) s1.length cp].toArray 62 (0, 0)) :: (b, .cells c.toArray 68 (0, 0)) :: (lh ++ (ptH qs ++ (eh ++ (hp1 ++ H))))) (by (exact a_art)); refine Fin.join () trivial ?_ rfl rfl; (exact a_subs))
    rintro _ _
    have hrow2 : OwnT 68 3 (.slice (some ⟨b, o, none⟩) s1.length cp) s1.length ((qs.map ptC).flatten ++ ([.int .u64 (f_ : Int), .slice Al kp kp, .slice Ae kp kp] : List Value)) [(b, .cells (c.take (o + qs.length * 3) ++ ([.int .u64 (f_ : Int), .slice Al kp kp, .slice Ae kp kp] : List Value) ++ c.drop (o + qs.length * 3 + ([.int .u64 (f_ : Int), .slice Al kp kp, .slice Ae kp kp] : List Value).length)).toArray 68 (0, 0))] := by
      rw [← hsl2] at hrowX ⊢
      exact hrowX.putLast (ptC_flat qs) rfl
    have hg2 : SgO M1 lb db lim (qs.map PtV.s ++ [⟨f_, it.take kp⟩]) ((lb, lgO db lim (.slice (some ⟨b, o, none⟩) s1.length cp)) :: ([(b, .cells (c.take (o + qs.length * 3) ++ ([.int .u64 (f_ : Int), .slice Al kp kp, .slice Ae kp kp] : List Value) ++ c.drop (o + qs.length * 3 + ([.int .u64 (f_ : Int), .slice Al kp kp, .slice Ae kp kp] : List Value).length)).toArray 68 (0, 0))] ++ ptH (qs ++ [⟨⟨f_, it.take kp⟩, .slice Al kp kp, .slice Ae kp kp, lh, eh⟩]))) := by
      refine ⟨qs ++ [⟨⟨f_, it.take kp⟩, .slice Al kp kp, .slice Ae kp kp, lh, eh⟩], _, _, by rw [List.map_append]; rfl, ?_, ?_, rfl⟩
      · rw [List.length_append, List.map_append, List.flatten_append, List.length_singleton, hsl2]
        exact hrow2
      · intro q hq
        rcases List.mem_append.1 hq with hq | hq
        · exact hallX q hq
        · rw [List.mem_singleton] at hq
          subst hq
          exact hPO2
    have hll3 : (s1.length : Int) - 1 = ((qs.length : Nat) : Int) := by omega
    (repeat' (first | refine a_go ?_ | (with_reducible apply Fin.thenK; assumption) | (with_reducible (first | apply C.seqK | apply C.regionK); intro _ _) | (apply R.buildSlice0; exact rfl; intro bz) | (apply R.box; exact rfl; (simp only [Value.cells]; rfl); exact rfl; intro bx) | (apply R.alloc; (simp only [Value.cells]; rfl); exact rfl; intro ba) | (apply R.buildSlice; (exact a_prt); exact rfl; exact rfl; (exact a_fills); exact rfl; intro bl) | (refine a_sp ?_ ?_; (intro h; skip; rotate_left; intro h; skip; rotate_left)) | fail))
    (apply C.regionT (t := .free 0 (.free 1 (.free 2 (.free 3 (.free 4 (.free 5 (.free 6 (.free 7 (.one 8 .nil))))))))) (Hs := [(lb, .cells [.pointer (some ⟨db, 0, none⟩), .int .i64 lim, .slice (some ⟨b, o, none⟩) s1.length cp].toArray 62 (0, 0)), (ba, .cells [.int .u64 ↑f_, .slice Al kp kp, .slice Ae kp kp].toArray 68 (0, 0))]); exact Mix.h; (first | exact Arr.all _ | (exact a_arr) | (exact a_arrs)); (exact a_np); kernel_rfl)
    (repeat' (first | (apply RT.step; exact rfl; intro _ _ _; (apply Ok.move; exact rfl); exact rfl) | (apply RT.step; exact rfl; intro _ _ _; (first | (apply Ok.subQ ((qs.length : Nat) : Int); exact rfl; exact rfl; exact hll3; apply w64; omega; omega) | (apply Ok.indexAddr; exact rfl; exact rfl; omega; omega)); exact rfl) | (first | (apply RT.step; exact rfl; intro _ _ _; (exact a_ok); exact rfl) | (apply RT.stepT; exact rfl; exact rfl; exact rfl; exact rfl; intro _ _ _; (exact a_ok); exact rfl) | (apply RT.stepF; exact rfl; exact rfl; exact rfl; exact rfl; exact rfl; exact rfl) | (apply RT.stepU; exact rfl; exact rfl; exact rfl; exact rfl; exact rfl) | (apply RT.one; apply OneT.effF; exact rfl; exact rfl; exact rfl; exact rfl; exact rfl; exact rfl) | (apply RT.one; apply OneT.effU; exact rfl; exact rfl; exact rfl; exact rfl; exact rfl))))
    (apply RT.one; apply OneT.eff; exact rfl; intro Kc hKc ops0)
    apply R.arr (H2 := (b, .cells c.toArray 68 (0, 0)) :: (lb, .cells [.pointer (some ⟨db, 0, none⟩), .int .i64 lim, .slice (some ⟨b, o, none⟩) s1.length cp].toArray 62 (0, 0)) :: (ba, .cells [.int .u64 (f_ : Int), .slice Al kp kp, .slice Ae kp kp].toArray 68 (0, 0)) :: (lh ++ (ptH qs ++ (eh ++ (hp1 ++ H))))) (by (exact a_art))
    rw [Int.toNat_natCast]
    (apply R.storeRow (vs := [.int .u64 (f_ : Int), .slice Al kp kp, .slice Ae kp kp]); exact rfl; exact rfl; exact rfl; (exact a_at); (simp only [List.length_cons, List.length_nil]; omega); exact rfl; (intro u hu; simp only [List.mem_cons, List.not_mem_nil, or_false] at hu; rcases hu with rfl | rfl | rfl <;> rfl))
    apply R.arr (H2 := (lb, .cells [.pointer (some ⟨db, 0, none⟩), .int .i64 lim, .slice (some ⟨b, o, none⟩) s1.length cp].toArray 62 (0, 0)) :: (ba, .cells [.int .u64 (f_ : Int), .slice Al kp kp, .slice Ae kp kp].toArray 68 (0, 0)) :: (b, .cells (c.take (o + qs.length * 3) ++ ([.int .u64 (f_ : Int), .slice Al kp kp, .slice Ae kp kp] : List Value) ++ c.drop (o + qs.length * 3 + ([.int .u64 (f_ : Int), .slice Al kp kp, .slice Ae kp kp] : List Value).length)).toArray 68 (0, 0)) :: (lh ++ (ptH qs ++ (eh ++ (hp1 ++ H))))) (by (exact a_art))
    (apply R.nil; apply Fin.kt (Hx := (b, .cells (c.take (o + qs.length * 3) ++ ([.int .u64 (f_ : Int), .slice Al kp kp, .slice Ae kp kp] : List Value) ++ c.drop (o + qs.length * 3 + ([.int .u64 (f_ : Int), .slice Al kp kp, .slice Ae kp kp] : List Value).length)).toArray 68 (0, 0)) :: (lh ++ (ptH qs ++ (eh ++ (hp1 ++ H))))) hKc; exact Mem.le_refl _; (exact a_art))
    (repeat' (first | (apply RT.step; exact rfl; intro _ _ _; (exact a_ok); exact rfl) | (apply RT.stepT; exact rfl; exact rfl; exact rfl; exact rfl; intro _ _ _; (exact a_ok); exact rfl) | (apply RT.stepF; exact rfl; exact rfl; exact rfl; exact rfl; exact rfl; exact rfl) | (apply RT.stepU; exact rfl; exact rfl; exact rfl; exact rfl; exact rfl) | (apply RT.one; apply OneT.effF; exact rfl; exact rfl; exact rfl; exact rfl; exact rfl; exact rfl) | (apply RT.one; apply OneT.effU; exact rfl; exact rfl; exact rfl; exact rfl; exact rfl)))
    apply RT.nil
    (repeat' (first | refine a_go ?_ | (with_reducible apply Fin.thenK; assumption) | (with_reducible (first | apply C.seqK | apply C.regionK); intro _ _) | (apply R.buildSlice0; exact rfl; intro bz) | (apply R.box; exact rfl; (simp only [Value.cells]; rfl); exact rfl; intro bx) | (apply R.alloc; (simp only [Value.cells]; rfl); exact rfl; intro ba) | (apply R.buildSlice; (exact a_prt); exact rfl; exact rfl; (exact a_fills); exact rfl; intro bl) | (refine a_sp ?_ ?_; (intro h; skip; rotate_left; intro h; skip; rotate_left)) | fail))
    have hK2 := psize_KO (H := (lb, .cells [.pointer (some ⟨db, 0, none⟩), .int .i64 lim, .slice (some ⟨b, o, none⟩) s1.length cp].toArray 62 (0, 0)) :: (ba, .cells [.int .u64 (f_ : Int), .slice Al kp kp, .slice Ae kp kp].toArray 68 (0, 0)) :: (b, .cells (c.take (o + qs.length * 3) ++ ([.int .u64 (f_ : Int), .slice Al kp kp, .slice Ae kp kp] : List Value) ++ c.drop (o + qs.length * 3 + ([.int .u64 (f_ : Int), .slice Al kp kp, .slice Ae kp kp] : List Value).length)).toArray 68 (0, 0)) :: (lh ++ (ptH qs ++ (hp1 ++ H)))) hPO2 (by show 0 < (it.take kp).length; rw [List.length_take]; omega)
    unfold ptC at hK2
    dsimp only at hK2
    (apply C.regionT (t := .free 0 (.free 1 (.free 2 (.free 3 (.free 4 (.free 5 (.free 6 (.free 7 (.one 8 (.one 9 (.free 10 .nil))))))))))) (Hs := [(lb, .cells [.pointer (some ⟨db, 0, none⟩), .int .i64 lim, .slice (some ⟨b, o, none⟩) s1.length cp].toArray 62 (0, 0)), (ba, .cells [.int .u64 ↑f_, .slice Al kp kp, .slice Ae kp kp].toArray 68 (0, 0))]); exact Mix.h; (first | exact Arr.all _ | (exact a_arr) | (exact a_arrs)); (exact a_np); kernel_rfl)
    (repeat' (first | (apply RT.step; exact rfl; intro _ _ _; (apply Ok.move; exact rfl); exact rfl) | (apply RT.callQ; exact rfl; exact inferInstance; (exact a_evs); exact rfl; (intro M' Hx' hM'; exact segName_K (n := f_) (by omega))) | (first | (apply RT.step; exact rfl; intro _ _ _; (exact a_ok); exact rfl) | (apply RT.stepT; exact rfl; exact rfl; exact rfl; exact rfl; intro _ _ _; (exact a_ok); exact rfl) | (apply RT.stepF; exact rfl; exact rfl; exact rfl; exact rfl; exact rfl; exact rfl) | (apply RT.stepU; exact rfl; exact rfl; exact rfl; exact rfl; exact rfl) | (apply RT.one; apply OneT.effF; exact rfl; exact rfl; exact rfl; exact rfl; exact rfl; exact rfl) | (apply RT.one; apply OneT.effU; exact rfl; exact rfl; exact rfl; exact rfl; exact rfl))))
    (apply RT.one; apply OneT.eff; exact rfl; intro Kc hKc ops0)
    apply R.arr (H2 := eh ++ ((lb, .cells [.pointer (some ⟨db, 0, none⟩), .int .i64 lim, .slice (some ⟨b, o, none⟩) s1.length cp].toArray 62 (0, 0)) :: (ba, .cells [.int .u64 (f_ : Int), .slice Al kp kp, .slice Ae kp kp].toArray 68 (0, 0)) :: (b, .cells (c.take (o + qs.length * 3) ++ ([.int .u64 (f_ : Int), .slice Al kp kp, .slice Ae kp kp] : List Value) ++ c.drop (o + qs.length * 3 + ([.int .u64 (f_ : Int), .slice Al kp kp, .slice Ae kp kp] : List Value).length)).toArray 68 (0, 0)) :: (lh ++ (ptH qs ++ (hp1 ++ H))))) (by (exact a_art))
    (apply R.call; (exact a_evs); exact rfl; exact hK2; rintro _ M1 _ ⟨rfl, rfl, rfl⟩)
    (apply R.nil; apply Fin.kt (Hx := (b, .cells (c.take (o + qs.length * 3) ++ ([.int .u64 (f_ : Int), .slice Al kp kp, .slice Ae kp kp] : List Value) ++ c.drop (o + qs.length * 3 + ([.int .u64 (f_ : Int), .slice Al kp kp, .slice Ae kp kp] : List Value).length)).toArray 68 (0, 0)) :: (lh ++ (ptH qs ++ (eh ++ (hp1 ++ H))))) hKc; exact Mem.le_refl _; (exact a_art))
    (repeat' (first | (apply RT.step; exact rfl; intro _ _ _; (exact a_ok); exact rfl) | (apply RT.stepT; exact rfl; exact rfl; exact rfl; exact rfl; intro _ _ _; (exact a_ok); exact rfl) | (apply RT.stepF; exact rfl; exact rfl; exact rfl; exact rfl; exact rfl; exact rfl) | (apply RT.stepU; exact rfl; exact rfl; exact rfl; exact rfl; exact rfl) | (apply RT.one; apply OneT.effF; exact rfl; exact rfl; exact rfl; exact rfl; exact rfl; exact rfl) | (apply RT.one; apply OneT.effU; exact rfl; exact rfl; exact rfl; exact rfl; exact rfl)))
    (apply RT.one; apply OneT.eff; exact rfl; intro Kc hKc ops0)
    apply R.arr (H2 := hp1 ++ ((lb, .cells [.pointer (some ⟨db, 0, none⟩), .int .i64 lim, .slice (some ⟨b, o, none⟩) s1.length cp].toArray 62 (0, 0)) :: (ba, .cells [.int .u64 (f_ : Int), .slice Al kp kp, .slice Ae kp kp].toArray 68 (0, 0)) :: (b, .cells (c.take (o + qs.length * 3) ++ ([.int .u64 (f_ : Int), .slice Al kp kp, .slice Ae kp kp] : List Value) ++ c.drop (o + qs.length * 3 + ([.int .u64 (f_ : Int), .slice Al kp kp, .slice Ae kp kp] : List Value).length)).toArray 68 (0, 0)) :: (lh ++ (ptH qs ++ (eh ++ H))))) (by (exact a_art))
    (apply R.call; (exact a_evs); exact rfl; exact truncate_K (n := nameS f_) (k := ((⟨f_, it.take kp⟩ : Sg).size : Int)) ho1 (by omega); rintro _ M2 _ ⟨rfl, hM2, hp2, ho2, rfl⟩)
    rw [Int.toNat_natCast] at ho2
    (apply R.nil; apply Fin.kt (Hx := (b, .cells (c.take (o + qs.length * 3) ++ ([.int .u64 (f_ : Int), .slice Al kp kp, .slice Ae kp kp] : List Value) ++ c.drop (o + qs.length * 3 + ([.int .u64 (f_ : Int), .slice Al kp kp, .slice Ae kp kp] : List Value).length)).toArray 68 (0, 0)) :: (lh ++ (ptH qs ++ (eh ++ (hp2 ++ H))))) hKc; exact hM2; (exact a_art))
    (repeat' (first | (apply RT.step; exact rfl; intro _ _ _; (exact a_ok); exact rfl) | (apply RT.stepT; exact rfl; exact rfl; exact rfl; exact rfl; intro _ _ _; (exact a_ok); exact rfl) | (apply RT.stepF; exact rfl; exact rfl; exact rfl; exact rfl; exact rfl; exact rfl) | (apply RT.stepU; exact rfl; exact rfl; exact rfl; exact rfl; exact rfl) | (apply RT.one; apply OneT.effF; exact rfl; exact rfl; exact rfl; exact rfl; exact rfl; exact rfl) | (apply RT.one; apply OneT.effU; exact rfl; exact rfl; exact rfl; exact rfl; exact rfl)))
    apply RT.nil
    (repeat' (first | refine a_go ?_ | (with_reducible apply Fin.thenK; assumption) | (with_reducible (first | apply C.seqK | apply C.regionK); intro _ _) | (apply R.buildSlice0; exact rfl; intro bz) | (apply R.box; exact rfl; (simp only [Value.cells]; rfl); exact rfl; intro bx) | (apply R.alloc; (simp only [Value.cells]; rfl); exact rfl; intro ba) | (apply R.buildSlice; (exact a_prt); exact rfl; exact rfl; (exact a_fills); exact rfl; intro bl) | (refine a_sp ?_ ?_; (intro h; skip; rotate_left; intro h; skip; rotate_left)) | fail))
    obtain ⟨hL2, hHL⟩ : ∃ q : Hp, q = (lb, lgO db lim (.slice (some ⟨b, o, none⟩) s1.length cp)) :: ([(b, .cells (c.take (o + qs.length * 3) ++ ([.int .u64 (f_ : Int), .slice Al kp kp, .slice Ae kp kp] : List Value) ++ c.drop (o + qs.length * 3 + ([.int .u64 (f_ : Int), .slice Al kp kp, .slice Ae kp kp] : List Value).length)).toArray 68 (0, 0))] ++ ptH (qs ++ [⟨⟨f_, it.take kp⟩, .slice Al kp kp, .slice Ae kp kp, lh, eh⟩])) := ⟨_, rfl⟩
    apply Fin.arr (H2 := hL2 ++ (hp2 ++ H)) (by rw [hHL, ptH_snoc]; unfold lgO; dsimp only; (exact a_art))
    rw [← hHL] at hg2
    (apply Fin.returnA (H2 := hL2 ++ (hp2 ++ H)); assumption; (first | exact .inl rfl | exact .inr rfl); exact rfl; (exact a_res); (simp only [retv]; rfl); (exact a_arr))
    exact ⟨rfl, hM1.trans_ hM2, hL2, hp2, hg2.mono hM2, ho2, rfl⟩
end Go.Sx
end
section
namespace Go.Sx
open Go Go.Proofs Go.RowKit
theorem byteR_lay {pre rest : Txt} {b most : UInt8} (h : b.toNat ≤ most.toNat) : byteR (pre ++ (b :: rest)) most pre.length 0 = (b, pre.length + 1, 0) := by
  unfold byteR
  rw [if_neg (fun h => h rfl), List.getElem?_append_right (Nat.le_refl _), Nat.sub_self, List.getElem?_cons_zero]
  dsimp only
  exact if_neg (by omega)
theorem textR_lay {pre b : Txt} {most : Nat} (h : b.length ≤ most) (hm : most ≤ 18446744073709551615) (rest : Txt) : textR (pre ++ (textS b ++ rest)) most pre.length 0 = (b, pre.length + (textS b).length, 0) := by
  have e1 := numRd_lay (n := b.length) (most := most) (rest := b ++ rest) (pre := pre) (by omega) h
  have e2 : pre ++ (textS b ++ rest) = pre ++ (numS b.length ++ (b ++ rest)) := by
    unfold textS
    rw [List.append_assoc]
  rw [e2]
  unfold textR
  rw [e1]
  dsimp only
  rw [if_neg (fun h => h rfl), if_neg (by simp only [List.length_append]; omega)]
  have e3 : (pre ++ (numS b.length ++ (b ++ rest))).drop (pre.length + (numS b.length).length) = b ++ rest := by
    rw [← List.append_assoc, ← List.length_append, List.drop_left]
  rw [e3, List.take_left]
  refine Prod.ext rfl (Prod.ext ?_ rfl)
  show pre.length + (numS b.length).length + b.length = pre.length + (textS b).length
  unfold textS
  rw [List.length_append]
  omega
end Go.Sx
end
section
namespace Go.Sx
open Go Go.Proofs Go.RowKit
theorem readE_lay {e : En} (h : entS e) : readE (layE e) = some e := by
  obtain ⟨h1, h2, h3, h4, h5, h6, h7⟩ := entS_kind h
  have hEl := layE_len h
  obtain ⟨ek, et, ei, ed, ec⟩ := e
  dsimp only at h1 h2 h3 h4 h5 h6 h7
  obtain ⟨kn, rfl⟩ : ∃ kn : Nat, ek = (kn : Int) := ⟨_, (Int.toNat_of_nonneg h1).symm⟩
  obtain ⟨tn, rfl⟩ : ∃ tn : Nat, et = (tn : Int) := ⟨_, (Int.toNat_of_nonneg (by omega)).symm⟩
  obtain ⟨idn, rfl⟩ : ∃ idn : Nat, ei = (idn : Int) := ⟨_, (Int.toNat_of_nonneg (by omega)).symm⟩
  obtain ⟨cn, rfl⟩ : ∃ cn : Nat, ec = (cn : Int) := ⟨_, (Int.toNat_of_nonneg h3).symm⟩
  have hk : (UInt8.ofNat kn).toNat = kn := by rw [UInt8.toNat_ofNat']; omega
  have hc : (UInt8.ofNat cn).toNat = cn := by rw [UInt8.toNat_ofNat']; omega
  obtain ⟨T, hT⟩ : ∃ T, T = layT ⟨(kn : Int), (tn : Int), (idn : Int), ed, (cn : Int)⟩ := ⟨_, rfl⟩
  obtain ⟨x, hx⟩ : ∃ x, x = layE ⟨(kn : Int), (tn : Int), (idn : Int), ed, (cn : Int)⟩ := ⟨_, rfl⟩
  have hx0 : x = ([UInt8.ofNat kn] ++ numS tn ++ numS idn) ++ T := by rw [hx, hT]; rfl
  rw [← hx] at hEl ⊢
  have hl0 : ([UInt8.ofNat kn] : Txt).length = 1 := rfl
  have z0 : byteR x 2 0 0 = (UInt8.ofNat kn, 1, 0) := by
    have := byteR_lay (pre := []) (rest := numS tn ++ (numS idn ++ T)) (b := UInt8.ofNat kn) (most := 2) (by rw [hk]; show kn ≤ 2; omega)
    rw [List.nil_append, List.length_nil] at this
    rw [hx0]
    simpa using this
  have z1 : numRd x 72057594037927935 1 0 = (tn, 1 + (numS tn).length, 0) := by
    have := numRd_lay (n := tn) (most := 72057594037927935) (pre := [UInt8.ofNat kn]) (rest := numS idn ++ T) (by omega) (by omega)
    rw [hl0] at this
    rw [hx0]
    simpa using this
  have z2 : numRd x 72057594037927935 (1 + (numS tn).length) 0 = (idn, 1 + (numS tn).length + (numS idn).length, 0) := by
    have := numRd_lay (n := idn) (most := 72057594037927935) (pre := [UInt8.ofNat kn] ++ numS tn) (rest := T) (by omega) (by omega)
    rw [List.length_append, hl0] at this
    rw [hx0]
    simpa using this
  have hpl : ([UInt8.ofNat kn] ++ numS tn ++ numS idn).length = 1 + (numS tn).length + (numS idn).length := by
    simp only [List.length_append, hl0]
  have hxl : x.length = 1 + (numS tn).length + (numS idn).length + T.length := by rw [hx0, List.length_append, hpl]
  have z3 : ∃ d c, tailR x kn (1 + (numS tn).length + (numS idn).length) 0 = (d, c, x.length, 0) ∧ d = ed ∧ c = (cn : Int) := by
    unfold entS at h
    dsimp only at h
    by_cases hk1 : (kn : Int) = 1
    · have hTe : T = textS ed := by rw [hT]; exact if_pos hk1
      have := textR_lay (pre := [UInt8.ofNat kn] ++ numS tn ++ numS idn) (b := ed) (most := 128) (by omega) (by decide) []
      rw [List.append_nil, ← hTe, ← hx0, hpl, ← hxl] at this
      refine ⟨ed, 0, ?_, rfl, by omega⟩
      unfold tailR
      rw [if_pos (by omega), this]
    · by_cases hk2 : (kn : Int) = 2
      · have hTe : T = [UInt8.ofNat cn] := by rw [hT]; exact (if_neg hk1).trans (if_pos hk2)
        have := byteR_lay (pre := [UInt8.ofNat kn] ++ numS tn ++ numS idn) (rest := []) (b := UInt8.ofNat cn) (most := 254) (by rw [hc]; show cn ≤ 254; omega)
        rw [← hTe, ← hx0, hpl] at this
        have hTl : T.length = 1 := by rw [hTe]; rfl
        refine ⟨[], (cn : Int), ?_, ?_, rfl⟩
        · unfold tailR
          rw [if_neg (by omega), if_pos (by omega), this, hc]
          rw [hxl, hTl]
        · exact (List.eq_nil_of_length_eq_zero (by omega)).symm
      · have hTe : T = [] := by rw [hT]; exact (if_neg hk1).trans (if_neg hk2)
        refine ⟨[], 0, ?_, ?_, ?_⟩
        · unfold tailR
          rw [if_neg (by omega), if_neg (by omega), hxl, hTe]
          rfl
        · exact (List.eq_nil_of_length_eq_zero (by omega)).symm
        · omega
  obtain ⟨d, c, z3, hd3, hc3⟩ := z3
  subst hd3 hc3
  have hz3 := z3
  rw [← hk] at hz3
  rw [readE_of (by omega) z0 z1 z2 hz3]
  unfold readG
  dsimp only
  rw [hk]
  refine if_pos ⟨?_, h⟩
  unfold endR
  exact if_neg (by omega)
end Go.Sx
end
section
namespace Go.Sx
open Go Go.Proofs Go.RowKit
theorem dig_lt {a b : Nat} (h : a < b) (hb : b < 16) : dig a < dig b := by
  have : ∀ (i j : _root_.Fin 16), i < j → dig i.val < dig j.val := by decide
  exact this ⟨a, by omega⟩ ⟨b, hb⟩ h
theorem hexS_le : ∀ (k n m : Nat), n % 16 ^ k ≤ m % 16 ^ k → hexS k n ≤ hexS k m
  | 0, _, _, _ => List.le_refl _
  | k + 1, n, m, h => by
    rw [hexS_cons, hexS_cons, List.cons_le_cons_iff]
    have h1 : n % 16 ^ (k + 1) = n % 16 ^ k + 16 ^ k * (n / 16 ^ k % 16) := Nat.mod_pow_succ
    have h2 : m % 16 ^ (k + 1) = m % 16 ^ k + 16 ^ k * (m / 16 ^ k % 16) := Nat.mod_pow_succ
    have hp : 0 < 16 ^ k := Nat.pow_pos (by decide)
    have a1 := Nat.mod_lt n hp
    have a2 := Nat.mod_lt m hp
    rcases Nat.lt_trichotomy (n / 16 ^ k % 16) (m / 16 ^ k % 16) with g | g | g
    · exact .inl (dig_lt g (Nat.mod_lt _ (by decide)))
    · refine .inr ⟨by rw [g], hexS_le k n m ?_⟩
      rw [h1, h2, g] at h
      omega
    · have : 16 ^ k * (m / 16 ^ k % 16 + 1) ≤ 16 ^ k * (n / 16 ^ k % 16) := Nat.mul_le_mul_left _ g
      rw [Nat.mul_add] at this
      omega
theorem nameS_le {a b : Nat} (hb : b ≤ 72057594037927935) (h : a ≤ b) : nameS a ≤ nameS b := by
  rw [nameS_ok (by omega), nameS_ok hb, List.cons_le_cons_iff]
  refine .inr ⟨rfl, hexS_le _ _ _ ?_⟩
  have e : (16 : Nat) ^ 15 = 1152921504606846976 := by decide
  rw [Nat.mod_eq_of_lt (by omega), Nat.mod_eq_of_lt (by omega)]
  exact h
def fileS (s : Sg) : Txt := cat (s.es.map layE)
def filesG (ss : List Sg) : Fs := ss.map fun s => (nameS s.first, fileS s)
def seqF (prev : Option En) (first : Nat) : List En → List En → Prop
  | _, [] => True
  | acc, e :: es => entS e ∧ fitS prev first acc e ∧ seqF prev first (acc ++ [e]) es
def zE (e : En) : En × Nat := (e, 8 + (layE e).length)
theorem goF_all {prev : Option En} {first : Nat} : ∀ (es acc : List En), seqF prev first acc es → goF prev first (es.map layE) (acc.map zE) = ((acc ++ es).map zE, true)
  | [], acc, _ => by rw [List.append_nil]; rfl
  | e :: es, acc, h => by
    have e1 : (acc.map zE).map Prod.fst = acc := by
      rw [List.map_map]
      exact List.map_id' _
    rw [List.map_cons, goF_some (readE_lay h.1) (by rw [e1]; exact h.2.1)]
    have e2 : acc.map zE ++ [(e, 8 + (layE e).length)] = (acc ++ [e]).map zE := by rw [List.map_append]; rfl
    rw [e2, goF_all es _ h.2.2, List.append_assoc]
    rfl
theorem seqF_ent {prev : Option En} {first : Nat} : ∀ {es acc : List En}, seqF prev first acc es → ∀ e ∈ es, entS e
  | [], _, _, _, he => absurd he List.not_mem_nil
  | _ :: _, _, h, e, he => by
    rcases List.mem_cons.1 he with he | he
    · rw [he]; exact h.1
    · exact seqF_ent h.2.2 e he
structure OkS (prev : Option En) (s : Sg) : Prop where
  num : s.first ≤ 72057594037927935
  len : 0 < s.it.length
  it : s.it = s.es.map zE
  seq : seqF prev s.first [] s.es
  room : s.it.length ≤ 1000000
theorem lay_small {es : List En} (h : ∀ e ∈ es, entS e) : ∀ p ∈ es.map layE, p.length ≤ 65536 := by
  intro p hp
  obtain ⟨e, he, rfl⟩ := List.mem_map.1 hp
  have := layE_len (h e he)
  omega
theorem cat_le {es : List En} (h : ∀ e ∈ es, entS e) : (cat (es.map layE)).length ≤ 167 * es.length := by
  rw [cat_len _ (lay_small h)]
  induction es with
  | nil => exact Nat.le_refl _
  | cons e es ih =>
    have h1 := layE_len (h e (List.mem_cons_self ..))
    have h2 := ih (fun x hx => h x (List.mem_cons_of_mem _ hx))
    rw [List.map_cons]
    unfold endS at h2 ⊢
    rw [List.map_cons, List.sum_cons, List.length_cons]
    omega
theorem OkS.ents {prev : Option En} {s : Sg} (h : OkS prev s) : ∀ e ∈ s.es, entS e := seqF_ent h.seq
theorem OkS.zsum {prev : Option En} {s : Sg} (h : OkS prev s) : (s.it.map Prod.snd).sum = (fileS s).length := by
  unfold fileS
  rw [cat_len _ (lay_small h.ents), h.it]
  unfold endS
  rw [List.map_map, List.map_map]
  rfl
theorem OkS.file_len {prev : Option En} {s : Sg} (h : OkS prev s) : (fileS s).length ≤ 167000000 := by
  have h1 := cat_le h.ents
  have h2 := h.room
  rw [Sg.es_len] at h1
  unfold fileS
  omega
theorem readF_all {prev : Option En} {s : Sg} (h : OkS prev s) : readF prev s.first (fileS s) = (s.it, true) := by
  have hl := h.file_len
  have h1 : framesF (fileS s).length (fileS s) = s.es.map layE := frames_cat _ (lay_small h.ents) (by unfold fileS at hl; omega)
  have h2 := goF_all (prev := prev) (first := s.first) s.es [] h.seq
  rw [List.map_nil, List.nil_append, ← h.it] at h2
  unfold readF
  rw [h1, h2]
  dsimp only
  rw [h.zsum, Bool.true_and, decide_eq_true ⟨rfl, h.len⟩]
def okG : Option En → List Sg → Prop
  | _, [] => True
  | prev, s :: r => OkS prev s ∧ okG s.es.getLast? r
theorem lastO_snoc (ss : List Sg) (s : Sg) : lastO (ss ++ [s]) = s.es.getLast? := by
  unfold lastO
  rw [List.getLast?_append]
  rfl
theorem openG_all {d : Dk} : ∀ (ss done : List Sg), okG (lastO done) ss → (∀ s ∈ ss, readD d (nameS s.first) = some (fileS s)) → openG d (ss.map Sg.first) done = (0, d, done ++ ss)
  | [], done, _, _ => by rw [List.append_nil]; rfl
  | s :: r, done, h, hr => by
    have h1 := readF_all h.1
    rw [List.map_cons, openG, hr s (List.mem_cons_self ..), Option.getD_some, h1]
    dsimp only
    rw [if_pos rfl, if_pos h.1.len, openG_all r (done ++ [s]) (by rw [lastO_snoc]; exact h.2) (fun x hx => hr x (List.mem_cons_of_mem _ hx)), List.append_assoc]
    rfl
theorem seqF_idx {prev : Option En} {f : Nat} : ∀ (es acc : List En), seqF prev f acc es → (∀ a, acc.getLast? = some a → a.idx = (f : Int) + acc.length - 1) → ∀ (j : Nat) e, es[j]? = some e → e.idx = (f : Int) + acc.length + j
  | [], _, _, _, j, e, he => by cases he
  | x :: es, acc, h, ha, j, e, he => by
    have hx : x.idx = (f : Int) + acc.length := by
      have h1 := h.2.1
      unfold fitS at h1
      cases hl : acc.getLast? with
      | none =>
        rw [hl] at h1
        have : acc = [] := List.getLast?_eq_none_iff.1 hl
        rw [this]
        simpa using h1.1
      | some a =>
        rw [hl] at h1
        have := ha a hl
        have h2 := h1.1
        omega
    cases j with
    | zero =>
      cases he
      simpa using hx
    | succ j =>
      have := seqF_idx es (acc ++ [x]) h.2.2 (fun a h3 => by
        have h4 : a = x := by
          rw [List.getLast?_append] at h3
          exact (Option.some.inj h3).symm
        subst h4
        rw [List.length_append, List.length_singleton]
        omega) j e he
      rw [List.length_append, List.length_singleton] at this
      omega
theorem OkS.con {prev : Option En} {s : Sg} (h : OkS prev s) : conG s := by
  refine ⟨h.num, fun j e he => ?_⟩
  have := seqF_idx s.es [] h.seq (fun a h => by cases h) j e he
  simpa using this
theorem OkS.first {s : Sg} {a : En} (h : OkS (some a) s) : (s.first : Int) = a.idx + 1 := by
  have h1 := h.seq
  have h2 := h.len
  have hc := h.con.2 0
  rw [← Sg.es_len] at h2
  match hes : s.es, h1, h2 with
  | e :: es, h1, _ =>
    have h3 := h1.2.1
    have h4 := hc e (by rw [hes]; rfl)
    have h5 : e.idx = a.idx + 1 := h3.2.1
    have h6 : e.idx = (s.first : Int) := h3.1
    omega
theorem OkS.last {prev : Option En} {s : Sg} (h : OkS prev s) : ∃ a, s.es.getLast? = some a ∧ a.idx = (s.first : Int) + s.it.length - 1 := by
  have h2 := h.len
  refine ⟨_, getLast_len (by rw [Sg.es_len]; exact h2), ?_⟩
  have := h.con.2 (s.es.length - 1) _ (List.getElem?_eq_getElem (by rw [Sg.es_len]; omega))
  rw [this, Sg.es_len]
  omega
theorem okG_gt : ∀ {ss : List Sg} {a : En}, okG (some a) ss → ∀ s ∈ ss, a.idx < (s.first : Int)
  | [], _, _, s, hs => absurd hs List.not_mem_nil
  | x :: r, a, h, s, hs => by
    have h1 := h.1.first
    rcases List.mem_cons.1 hs with hs | hs
    · rw [hs]; omega
    · obtain ⟨b, hb, hbi⟩ := h.1.last
      have h2 := h.2
      rw [hb] at h2
      have := okG_gt h2 s hs
      have := h.1.len
      omega
theorem okG_pw : ∀ {ss : List Sg} {prev : Option En}, okG prev ss → ss.Pairwise (fun s t => s.first < t.first)
  | [], _, _ => List.Pairwise.nil
  | x :: r, _, h => by
    refine List.Pairwise.cons (fun t ht => ?_) (okG_pw h.2)
    obtain ⟨b, hb, hbi⟩ := h.1.last
    have h2 := h.2
    rw [hb] at h2
    have := okG_gt h2 t ht
    have := h.1.len
    omega
theorem okG_num : ∀ {ss : List Sg} {prev : Option En}, okG prev ss → ∀ s ∈ ss, s.first ≤ 72057594037927935
  | [], _, _, s, hs => absurd hs List.not_mem_nil
  | x :: r, _, h, s, hs => by
    rcases List.mem_cons.1 hs with hs | hs
    · rw [hs]; exact h.1.num
    · exact okG_num h.2 s hs
theorem get_files : ∀ {ss : List Sg}, ss.Pairwise (fun s t => s.first < t.first) → (∀ s ∈ ss, s.first ≤ 72057594037927935) → ∀ s ∈ ss, getS (filesG ss) (nameS s.first) = some (fileS s)
  | [], _, _, s, hs => absurd hs List.not_mem_nil
  | x :: r, hp, hn, s, hs => by
    obtain ⟨h1, h2⟩ := List.pairwise_cons.1 hp
    unfold filesG getS
    rw [List.map_cons, List.find?_cons]
    rcases List.mem_cons.1 hs with hs | hs
    · rw [hs]
      simp
    · have h3 := h1 s hs
      have h4 : nameS x.first ≠ nameS s.first := fun h => by
        have := name_inj (hn x (List.mem_cons_self ..)) (hn s (List.mem_cons_of_mem _ hs)) h
        omega
      rw [decide_eq_false h4]
      exact get_files h2 (fun t ht => hn t (List.mem_cons_of_mem _ ht)) s hs
theorem keys_files (ss : List Sg) : keyS (filesG ss) = ss.map fun s => nameS s.first := by
  unfold keyS filesG
  rw [List.map_map]
  rfl
theorem names_files {ss : List Sg} (hp : ss.Pairwise (fun s t => s.first < t.first)) (hn : ∀ s ∈ ss, s.first ≤ 72057594037927935) : namesD false (filesG ss) = ss.map fun s => nameS s.first := by
  unfold namesD
  rw [if_neg (by decide), keys_files]
  unfold sortT
  refine List.mergeSort_of_pairwise ?_
  rw [List.pairwise_map]
  refine List.Pairwise.imp_of_mem ?_ hp
  intro s t _ ht h
  exact decide_eq_true (nameS_le (hn t ht) (Nat.le_of_lt h))
theorem nums_files : ∀ {ss : List Sg}, (∀ s ∈ ss, s.first ≤ 72057594037927935) → numsF (ss.map fun s => nameS s.first) = ss.map Sg.first
  | [], _ => rfl
  | x :: r, hn => by
    unfold numsF
    rw [List.map_cons, List.filterMap_cons, numO_name (hn x (List.mem_cons_self ..))]
    exact congrArg (x.first :: ·) (nums_files fun t ht => hn t (List.mem_cons_of_mem _ ht))
theorem openS_all {d : Dk} {ss : List Sg} (hd : d.down = false) (hn : d.now = filesG ss) (hg : okG none ss) : openS d = (0, d, ss) := by
  have hp := okG_pw hg
  have hm := okG_num hg
  unfold openS
  rw [hd, hn, names_files hp hm, nums_files hm, openG_all ss [] hg (fun s hs => by
    unfold readD
    rw [if_neg (by rw [hd]; decide), hn]
    exact get_files hp hm s hs)]
  rfl
end Go.Sx
end
section
namespace Go.Sx
open Go Go.Proofs Go.RowKit
attribute [local irreducible] C R Fin K Own OwnT Rd Pl Ok KOf RetOk OpsOf RP KP Res NoPanic KV KE MapS ItS EntS FsO FsR RowD PlD DkO
variable {M M' : Mem} {H H1 H2 : Hp}
def goes (d : Dk) : Prop := d.fuse = -1 ∧ d.down = false
theorem goes.stop {d : Dk} (h : goes d) : ¬ stopD d := by
  rintro (h1 | h1)
  · rw [h.2] at h1
    cases h1
  · rw [h.1] at h1
    cases h1
theorem goes.cnt {d : Dk} (h : goes d) : cntD d = d := by
  unfold cntD
  rw [if_neg h.stop, h.1, if_neg (by decide), ← h.1]
theorem goes.op {d : Dk} {x : De} (h : goes d) : opD 0 d x = { d with ps := d.ps ++ [x] } := by
  unfold opD
  rw [if_pos rfl, h.cnt]
theorem goes.read {d : Dk} (h : goes d) (n : Txt) : readD d n = getS d.now n := by
  unfold readD
  rw [h.2]
  rfl
theorem goes.op' {d : Dk} {x : De} (h : goes d) : goes (opD 0 d x) := by
  rw [h.op]
  exact h
theorem goes.now {d : Dk} {x : De} (h : goes d) : (opD 0 d x).now = doF d.now x := by
  rw [h.op]
  unfold Dk.now
  rw [List.foldl_append]
  rfl
end Go.Sx
end
