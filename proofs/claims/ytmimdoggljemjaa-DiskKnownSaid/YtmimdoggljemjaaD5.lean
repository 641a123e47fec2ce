/- The disk: New, Append. -/
import Derived.Test.YtmimdoggljemjaaD4
namespace Go.Sx
open Go Go.Proofs Go.RowKit
attribute [local irreducible] C R Fin K Own OwnT Rd Pl Ok KOf RetOk OpsOf RP KP Res NoPanic KV KE MapS ItS EntS FsO FsR RowD
variable {M M' : Mem} {H H1 H2 : Hp}
structure Dk where
  room : Int
  S : Fs
  ps : List De
  fuse : Int
  down : Bool
def Dk.now (d : Dk) : Fs := d.ps.foldl doF d.S
def Runs : Fs → List De → Prop
  | _, [] => True
  | F, x :: xs => Fit F x ∧ Runs (doF F x) xs
theorem Runs.snoc : ∀ {ps : List De} {F : Fs} {x : De}, Runs F ps → Fit (ps.foldl doF F) x → Runs F (ps ++ [x])
  | [], _, _, _, h => ⟨h, trivial⟩
  | _ :: _, _, _, h1, h2 => ⟨h1.1, Runs.snoc h1.2 h2⟩
theorem Runs.sum : ∀ {ps : List De} {F : Fs}, sumF F ≤ 1048576 → Runs F ps → sumF (ps.foldl doF F) ≤ 1048576
  | [], _, h, _ => h
  | x :: _, F, _, h => Runs.sum (F := doF F x) h.1.1 h.2
def Dk.ok (d : Dk) : Prop := (0 ≤ d.room ∧ d.room ≤ 1048576) ∧ (-1 ≤ d.fuse ∧ d.fuse ≤ 4611686018427387904) ∧ sumF d.S ≤ 1048576 ∧ Runs d.S d.ps
theorem Dk.ok.sum {d : Dk} (h : d.ok) : sumF d.now ≤ 1048576 := Runs.sum h.2.2.1 h.2.2.2
def DkO (M : Mem) (db : Nat) (d : Dk) (hp : Hp) : Prop := d.ok ∧ ∃ sb nb so no pv hr, FsO M so d.S ∧ FsO M no d.now ∧ RowD M pv d.ps hr ∧ hp = (db, dkB d.room sb nb pv d.fuse d.down) :: (nb, no) :: (sb, so) :: hr
theorem DkO.mono {db : Nat} {d : Dk} {hp : Hp} (hM : M.le M') (h : DkO M db d hp) : DkO M' db d hp := by
  obtain ⟨h0, sb, nb, so, no, pv, hr, h1, h2, h3, h4⟩ := h
  exact ⟨h0, sb, nb, so, no, pv, hr, h1.mono hM, h2.mono hM, h3.mono hM, h4⟩
theorem DkO.nodup {db : Nat} {d : Dk} {hp : Hp} (h : DkO M db d hp) : (keyS d.now).Nodup := by
  obtain ⟨h0, sb, nb, so, no, pv, hr, h1, h2, h3, h4⟩ := h
  exact h2.nodup
def newD (room : Int) : Dk := ⟨room, [], [], -1, false⟩
theorem new_K {room : Int} (h0 : 0 ≤ room) (h1 : room ≤ 1048576) : K Try.prog 14 [.int .i64 room] M H fun v' M' H' => ∃ db hp, v' = .tuple #[.pointer (some ⟨db, 0, none⟩), .int .i64 0] ∧ M' = M ∧ DkO M db (newD room) hp ∧ H' = hp ++ H := by
  refine K.enterK Try.func14 rfl rfl rfl ?_
  intro Q hNP hQ
  (repeat' (first | (apply R.step; (exact a_ok); exact rfl) | (first | (with_reducible first | apply R.nil | apply C.ret | apply C.block | apply C.skip | apply C.exit | apply Fin.thenRet | apply Fin.thenExit | apply Fin.blockNormal | apply Fin.blockRet | apply Fin.blockExit) | (with_reducible apply Fin.thenK; assumption) | (with_reducible apply C.seqK; intro _ _) | (with_reducible apply C.regionK; intro _ _) | (with_reducible apply Fin.blockOther; exact rfl)) | (first | (apply R.store; exact rfl; exact rfl; exact rfl; (exact a_at); (exact a_blit); exact rfl; (focus (simp [Value.oneCell']; done))) | (apply R.buildSlice0; exact rfl; intro bz) | (apply R.box; exact rfl; (simp only [Value.cells]; rfl); exact rfl; intro bx) | (apply R.alloc; (simp only [Value.cells]; rfl); exact rfl; intro ba) | (apply R.buildSlice; (exact a_prt); exact rfl; exact rfl; (exact a_fills); exact rfl; intro bl)) | (first | (apply R.guardT; assumption; exact rfl; exact rfl; exact rfl) | (apply R.guardF; assumption; exact rfl; exact rfl; exact rfl; exact rfl; exact rfl) | (apply R.guardU; assumption; exact rfl; exact rfl; exact rfl; exact rfl) | (apply R.guardDec; assumption; exact rfl; exact rfl; (intro h; skip; rotate_left; intro h; skip; rotate_left)) | (apply R.guardBeq; assumption; exact rfl; exact rfl; (intro h; skip; rotate_left; intro h; skip; rotate_left)) | (apply R.guardBne; assumption; exact rfl; exact rfl; (intro h; skip; rotate_left; intro h; skip; rotate_left)) | (apply R.guardNDec; assumption; exact rfl; exact rfl; (intro h; skip; rotate_left; intro h; skip; rotate_left)) | (apply R.guardNot; assumption; exact rfl; exact rfl; (intro h; skip; rotate_left; intro h; skip; rotate_left)) | (apply R.guardC; assumption; exact rfl; exact rfl; (intro h; skip; rotate_left; intro h; skip; rotate_left))) | (first | (apply C.condT; exact rfl) | (apply C.condF; exact rfl) | (apply C.condDec; exact rfl; (intro h; skip; rotate_left; intro h; skip; rotate_left)) | (apply C.condBeq; exact rfl; (intro h; skip; rotate_left; intro h; skip; rotate_left)) | (apply C.condBne; exact rfl; (intro h; skip; rotate_left; intro h; skip; rotate_left)) | (apply C.condNDec; exact rfl; (intro h; skip; rotate_left; intro h; skip; rotate_left)) | (apply C.condNot; exact rfl; (intro h; skip; rotate_left; intro h; skip; rotate_left)) | (apply C.cond; exact rfl; (intro h; skip; rotate_left; intro h; skip; rotate_left)))))
  · exfalso; omega
  · exfalso; omega
  (apply R.makeMap; exact rfl; intro b1)
  (repeat' (first | (apply R.step; (exact a_ok); exact rfl) | (first | (with_reducible first | apply R.nil | apply C.ret | apply C.block | apply C.skip | apply C.exit | apply Fin.thenRet | apply Fin.thenExit | apply Fin.blockNormal | apply Fin.blockRet | apply Fin.blockExit) | (with_reducible apply Fin.thenK; assumption) | (with_reducible apply C.seqK; intro _ _) | (with_reducible apply C.regionK; intro _ _) | (with_reducible apply Fin.blockOther; exact rfl)) | (first | (apply R.store; exact rfl; exact rfl; exact rfl; (exact a_at); (exact a_blit); exact rfl; (focus (simp [Value.oneCell']; done))) | (apply R.buildSlice0; exact rfl; intro bz) | (apply R.box; exact rfl; (simp only [Value.cells]; rfl); exact rfl; intro bx) | (apply R.alloc; (simp only [Value.cells]; rfl); exact rfl; intro ba) | (apply R.buildSlice; (exact a_prt); exact rfl; exact rfl; (exact a_fills); exact rfl; intro bl)) | (first | (apply R.guardT; assumption; exact rfl; exact rfl; exact rfl) | (apply R.guardF; assumption; exact rfl; exact rfl; exact rfl; exact rfl; exact rfl) | (apply R.guardU; assumption; exact rfl; exact rfl; exact rfl; exact rfl) | (apply R.guardDec; assumption; exact rfl; exact rfl; (intro h; skip; rotate_left; intro h; skip; rotate_left)) | (apply R.guardBeq; assumption; exact rfl; exact rfl; (intro h; skip; rotate_left; intro h; skip; rotate_left)) | (apply R.guardBne; assumption; exact rfl; exact rfl; (intro h; skip; rotate_left; intro h; skip; rotate_left)) | (apply R.guardNDec; assumption; exact rfl; exact rfl; (intro h; skip; rotate_left; intro h; skip; rotate_left)) | (apply R.guardNot; assumption; exact rfl; exact rfl; (intro h; skip; rotate_left; intro h; skip; rotate_left)) | (apply R.guardC; assumption; exact rfl; exact rfl; (intro h; skip; rotate_left; intro h; skip; rotate_left))) | (first | (apply C.condT; exact rfl) | (apply C.condF; exact rfl) | (apply C.condDec; exact rfl; (intro h; skip; rotate_left; intro h; skip; rotate_left)) | (apply C.condBeq; exact rfl; (intro h; skip; rotate_left; intro h; skip; rotate_left)) | (apply C.condBne; exact rfl; (intro h; skip; rotate_left; intro h; skip; rotate_left)) | (apply C.condNDec; exact rfl; (intro h; skip; rotate_left; intro h; skip; rotate_left)) | (apply C.condNot; exact rfl; (intro h; skip; rotate_left; intro h; skip; rotate_left)) | (apply C.cond; exact rfl; (intro h; skip; rotate_left; intro h; skip; rotate_left)))))
  (apply R.makeMap; exact rfl; intro b2)
  (repeat' (first | (apply R.step; (exact a_ok); exact rfl) | (first | (with_reducible first | apply R.nil | apply C.ret | apply C.block | apply C.skip | apply C.exit | apply Fin.thenRet | apply Fin.thenExit | apply Fin.blockNormal | apply Fin.blockRet | apply Fin.blockExit) | (with_reducible apply Fin.thenK; assumption) | (with_reducible apply C.seqK; intro _ _) | (with_reducible apply C.regionK; intro _ _) | (with_reducible apply Fin.blockOther; exact rfl)) | (first | (apply R.store; exact rfl; exact rfl; exact rfl; (exact a_at); (exact a_blit); exact rfl; (focus (simp [Value.oneCell']; done))) | (apply R.buildSlice0; exact rfl; intro bz) | (apply R.box; exact rfl; (simp only [Value.cells]; rfl); exact rfl; intro bx) | (apply R.alloc; (simp only [Value.cells]; rfl); exact rfl; intro ba) | (apply R.buildSlice; (exact a_prt); exact rfl; exact rfl; (exact a_fills); exact rfl; intro bl)) | (first | (apply R.guardT; assumption; exact rfl; exact rfl; exact rfl) | (apply R.guardF; assumption; exact rfl; exact rfl; exact rfl; exact rfl; exact rfl) | (apply R.guardU; assumption; exact rfl; exact rfl; exact rfl; exact rfl) | (apply R.guardDec; assumption; exact rfl; exact rfl; (intro h; skip; rotate_left; intro h; skip; rotate_left)) | (apply R.guardBeq; assumption; exact rfl; exact rfl; (intro h; skip; rotate_left; intro h; skip; rotate_left)) | (apply R.guardBne; assumption; exact rfl; exact rfl; (intro h; skip; rotate_left; intro h; skip; rotate_left)) | (apply R.guardNDec; assumption; exact rfl; exact rfl; (intro h; skip; rotate_left; intro h; skip; rotate_left)) | (apply R.guardNot; assumption; exact rfl; exact rfl; (intro h; skip; rotate_left; intro h; skip; rotate_left)) | (apply R.guardC; assumption; exact rfl; exact rfl; (intro h; skip; rotate_left; intro h; skip; rotate_left))) | (first | (apply C.condT; exact rfl) | (apply C.condF; exact rfl) | (apply C.condDec; exact rfl; (intro h; skip; rotate_left; intro h; skip; rotate_left)) | (apply C.condBeq; exact rfl; (intro h; skip; rotate_left; intro h; skip; rotate_left)) | (apply C.condBne; exact rfl; (intro h; skip; rotate_left; intro h; skip; rotate_left)) | (apply C.condNDec; exact rfl; (intro h; skip; rotate_left; intro h; skip; rotate_left)) | (apply C.condNot; exact rfl; (intro h; skip; rotate_left; intro h; skip; rotate_left)) | (apply C.cond; exact rfl; (intro h; skip; rotate_left; intro h; skip; rotate_left)))))
  (apply Fin.returnA (H2 := [(bx, dkB room b1 b2 (.slice none 0 0) (-1) false), (b2, .map #[] 0), (b1, .map #[] 0)] ++ H); assumption; (first | exact .inl rfl | exact .inr rfl); exact rfl; (exact a_res); (simp only [retv]; rfl); (exact a_arr))
  exact ⟨bx, _, rfl, rfl, ⟨⟨⟨h0, h1⟩, ⟨Int.le_refl _, show (-1 : Int) ≤ 4611686018427387904 by decide⟩, Nat.zero_le _, trivial⟩, b1, b2, _, _, _, [], FsO.empty, FsO.empty, RowD.nil, rfl⟩, rfl⟩
theorem newBad_K {room : Int} (h : room < 0 ∨ 1048576 < room) : K Try.prog 14 [.int .i64 room] M H fun v' M' H' => v' = .tuple #[.pointer none, .int .i64 1] ∧ M' = M ∧ H' = H := by
  refine K.enterK Try.func14 rfl rfl rfl ?_
  intro Q hNP hQ
  (repeat' (first | (apply R.step; (exact a_ok); exact rfl) | (first | (with_reducible first | apply R.nil | apply C.ret | apply C.block | apply C.skip | apply C.exit | apply Fin.thenRet | apply Fin.thenExit | apply Fin.blockNormal | apply Fin.blockRet | apply Fin.blockExit) | (with_reducible apply Fin.thenK; assumption) | (with_reducible apply C.seqK; intro _ _) | (with_reducible apply C.regionK; intro _ _) | (with_reducible apply Fin.blockOther; exact rfl)) | (first | (apply R.store; exact rfl; exact rfl; exact rfl; (exact a_at); (exact a_blit); exact rfl; (focus (simp [Value.oneCell']; done))) | (apply R.buildSlice0; exact rfl; intro bz) | (apply R.box; exact rfl; (simp only [Value.cells]; rfl); exact rfl; intro bx) | (apply R.alloc; (simp only [Value.cells]; rfl); exact rfl; intro ba) | (apply R.buildSlice; (exact a_prt); exact rfl; exact rfl; (exact a_fills); exact rfl; intro bl)) | (first | (apply R.guardT; assumption; exact rfl; exact rfl; exact rfl) | (apply R.guardF; assumption; exact rfl; exact rfl; exact rfl; exact rfl; exact rfl) | (apply R.guardU; assumption; exact rfl; exact rfl; exact rfl; exact rfl) | (apply R.guardDec; assumption; exact rfl; exact rfl; (intro h; skip; rotate_left; intro h; skip; rotate_left)) | (apply R.guardBeq; assumption; exact rfl; exact rfl; (intro h; skip; rotate_left; intro h; skip; rotate_left)) | (apply R.guardBne; assumption; exact rfl; exact rfl; (intro h; skip; rotate_left; intro h; skip; rotate_left)) | (apply R.guardNDec; assumption; exact rfl; exact rfl; (intro h; skip; rotate_left; intro h; skip; rotate_left)) | (apply R.guardNot; assumption; exact rfl; exact rfl; (intro h; skip; rotate_left; intro h; skip; rotate_left)) | (apply R.guardC; assumption; exact rfl; exact rfl; (intro h; skip; rotate_left; intro h; skip; rotate_left))) | (first | (apply C.condT; exact rfl) | (apply C.condF; exact rfl) | (apply C.condDec; exact rfl; (intro h; skip; rotate_left; intro h; skip; rotate_left)) | (apply C.condBeq; exact rfl; (intro h; skip; rotate_left; intro h; skip; rotate_left)) | (apply C.condBne; exact rfl; (intro h; skip; rotate_left; intro h; skip; rotate_left)) | (apply C.condNDec; exact rfl; (intro h; skip; rotate_left; intro h; skip; rotate_left)) | (apply C.condNot; exact rfl; (intro h; skip; rotate_left; intro h; skip; rotate_left)) | (apply C.cond; exact rfl; (intro h; skip; rotate_left; intro h; skip; rotate_left)))))
  · (refine Fin.rt ?_)
    exact ⟨rfl, rfl, rfl⟩
  · (refine Fin.rt ?_)
    exact ⟨rfl, rfl, rfl⟩
  exfalso; omega
def stopD (d : Dk) : Prop := d.down = true ∨ d.fuse = 0
instance (d : Dk) : Decidable (stopD d) := inferInstanceAs (Decidable (_ ∨ _))
def cntD (d : Dk) : Dk := if stopD d then { d with down := true } else { d with fuse := if 0 < d.fuse then d.fuse - 1 else d.fuse }
def opD (e : Int) (d : Dk) (x : De) : Dk := if e = 0 then { cntD d with ps := d.ps ++ [x] } else cntD d
theorem cntD_ok {d : Dk} (h : d.ok) : (cntD d).ok := by
  obtain ⟨h1, h2, h3, h4⟩ := h
  unfold cntD
  split
  · exact ⟨h1, h2, h3, h4⟩
  · refine ⟨h1, ?_, h3, h4⟩
    dsimp only
    split <;> omega
theorem cntD_now (d : Dk) : (cntD d).now = d.now := by
  unfold cntD
  split <;> rfl
theorem cntD_ps (d : Dk) : (cntD d).ps = d.ps := by
  unfold cntD
  split <;> rfl
theorem cntD_S (d : Dk) : (cntD d).S = d.S := by
  unfold cntD
  split <;> rfl
theorem cntD_room (d : Dk) : (cntD d).room = d.room := by
  unfold cntD
  split <;> rfl
theorem opD_ok {d : Dk} {x : De} (h : d.ok) (hf : Fit d.now x) : Dk.ok { cntD d with ps := d.ps ++ [x] } := by
  obtain ⟨h1, h2, h3, h4⟩ := cntD_ok h
  rw [cntD_S, cntD_ps] at h4
  rw [cntD_S] at h3
  refine ⟨h1, h2, ?_, ?_⟩
  · show sumF (cntD d).S ≤ _
    rw [cntD_S]
    exact h3
  · show Runs (cntD d).S _
    rw [cntD_S]
    exact h4.snoc hf
/-- a call that counts -/
theorem counts_KD {db : Nat} {d : Dk} {hp : Hp} (ho : DkO M db d hp) : K Try.prog 38 [.pointer (some ⟨db, 0, none⟩)] M (hp ++ H) fun v' M' H' => v' = .bool (!decide (stopD d)) ∧ M' = M ∧ ∃ hp', DkO M db (cntD d) hp' ∧ H' = hp' ++ H ∧ (¬ stopD d → (cntD d).down = false) := by
  obtain ⟨h0, sb, nb, so, no, pv, hr, h1, h2, h3, rfl⟩ := ho
  have hok := cntD_ok h0
  refine (counts_K (sb := sb) (nb := nb) (room := d.room) (pv := pv) (down := d.down) ⟨h0.2.1.1, by have := h0.2.1.2; omega⟩).mono ?_
  rintro _ _ _ ⟨rfl, ⟨rfl, c1, rfl⟩ | ⟨rfl, c1, c2, rfl⟩⟩
  · have hs : stopD d := c1
    have e : cntD d = { d with down := true } := if_pos hs
    rw [e] at hok ⊢
    exact ⟨by rw [decide_eq_true hs]; rfl, rfl, _, ⟨hok, sb, nb, so, no, pv, hr, h1, h2, h3, rfl⟩, rfl, fun h => absurd hs h⟩
  · have hs : ¬ stopD d := fun h => by
      rcases h with h | h
      · rw [h] at c1; cases c1
      · exact c2 h
    have e : cntD d = { d with fuse := if 0 < d.fuse then d.fuse - 1 else d.fuse } := if_neg hs
    rw [e] at hok ⊢
    refine ⟨by rw [decide_eq_false hs]; rfl, rfl, _, ⟨hok, sb, nb, so, no, pv, hr, h1, h2, h3, rfl⟩, ?_, fun h => c1⟩
    dsimp only
    rw [c1]
    rfl
def appE (d : Dk) (n b : Txt) : Int := if stopD d then 3 else if namedB n = false then 1 else if d.room < (sumF d.now + b.length : Nat) ∨ (getS d.now n = none ∧ 64 ≤ d.now.length) then 2 else 0
theorem sumF_put {F : Fs} {n b : Txt} (hn : (keyS F).Nodup) : sumF (putS F n b) + (fileD F n).length = sumF F + b.length := by
  by_cases h : n ∈ keyS F
  · obtain ⟨p, hp, rfl⟩ := List.mem_map.1 h
    obtain ⟨l1, l2, rfl⟩ := List.append_of_mem hp
    rw [putS_old (v := b) hn]
    have hg : fileD (l1 ++ p :: l2) p.1 = p.2 := by
      unfold fileD
      rw [show l1 ++ p :: l2 = l1 ++ (p.1, p.2) :: l2 from rfl, getS_some (keyS_mid hn).1]
      rfl
    rw [hg]
    unfold sumF
    simp only [List.map_append, List.map_cons, List.sum_append, List.sum_cons]
    omega
  · rw [putS_new h]
    have hg : fileD F n = [] := by
      unfold fileD
      rw [getS_none h]
      rfl
    rw [hg]
    unfold sumF
    simp
theorem app_fit {F : Fs} {n b : Txt} (hn : (keyS F).Nodup) (h : sumF F + b.length ≤ 1048576) : Fit F (.app n b) := by
  refine ⟨?_, trivial⟩
  have := sumF_put (b := fileD F n ++ b) (n := n) hn
  rw [List.length_append] at this
  show sumF (putS F n (fileD F n ++ b)) ≤ _
  omega
end Go.Sx
