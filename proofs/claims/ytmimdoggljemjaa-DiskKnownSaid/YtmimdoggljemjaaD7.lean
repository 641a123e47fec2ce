/- The disk: Remove, Truncate, Rename. -/
import Derived.Test.YtmimdoggljemjaaD6
namespace Go.Sx
open Go Go.Proofs Go.RowKit
attribute [local irreducible] C R Fin K Own OwnT Rd Pl Ok KOf RetOk OpsOf RP KP Res NoPanic KV KE MapS ItS EntS FsO FsR RowD
variable {M M' : Mem} {H H1 H2 : Hp}
theorem sumF_del {F : Fs} {n : Txt} (hn : (keyS F).Nodup) : sumF (delS F n) + (fileD F n).length = sumF F := by
  by_cases h : n ∈ keyS F
  · obtain ⟨p, hp, rfl⟩ := List.mem_map.1 h
    obtain ⟨l1, l2, rfl⟩ := List.append_of_mem hp
    have hg : fileD (l1 ++ p :: l2) p.1 = p.2 := by
      unfold fileD
      rw [show l1 ++ p :: l2 = l1 ++ (p.1, p.2) :: l2 from rfl, getS_some (keyS_mid hn).1]
      rfl
    rw [hg, show l1 ++ p :: l2 = l1 ++ (p.1, p.2) :: l2 from rfl, delS_some hn]
    unfold sumF
    simp only [List.map_append, List.map_cons, List.sum_append, List.sum_cons]
    omega
  · have hg : fileD F n = [] := by
      unfold fileD
      rw [getS_none h]
      rfl
    rw [hg, delS_none h]
    rfl
theorem rem_fit {F : Fs} {n : Txt} (hn : (keyS F).Nodup) (h : sumF F ≤ 1048576) : Fit F (.rem n) := by
  refine ⟨?_, trivial⟩
  have := sumF_del (n := n) hn
  show sumF (delS F n) ≤ _
  omega
theorem trc_fit {F : Fs} {n : Txt} {k : Nat} (hn : (keyS F).Nodup) (h : sumF F ≤ 1048576) (hk : k ≤ (fileD F n).length) : Fit F (.trc n k) := by
  refine ⟨?_, hk⟩
  have := sumF_put (b := (fileD F n).take k) (n := n) hn
  rw [List.length_take] at this
  show sumF (putS F n ((fileD F n).take k)) ≤ _
  omega
theorem ren_fit {F : Fs} {n t : Txt} (hn : (keyS F).Nodup) (h : sumF F ≤ 1048576) : Fit F (.ren n t) := by
  refine ⟨?_, trivial⟩
  have h1 := sumF_del (n := n) hn
  have h2 := sumF_put (b := fileD F n) (n := t) (delS_keys (k := n) hn)
  show sumF (putS (delS F n) t (fileD F n)) ≤ _
  omega
def remE (d : Dk) (n : Txt) : Int := if stopD d then 3 else if getS d.now n = none then 4 else 0
def trcE (d : Dk) (n : Txt) (k : Int) : Int := if stopD d then 3 else if getS d.now n = none then 4 else if k < 0 ∨ ((fileD d.now n).length : Int) < k then 1 else 0
def renE (d : Dk) (n t : Txt) : Int := if stopD d then 3 else if namedB t = false then 1 else if getS d.now n = none then 4 else 0
theorem is_none {α : Type} {x : Option α} (h : x.isSome = false) : x = none := by
  cases x with
  | none => rfl
  | some _ => cases h
theorem is_some {α : Type} {x : Option α} (h : x.isSome = true) : x ≠ none := by
  cases x with
  | none => cases h
  | some _ => exact fun e => by cases e
theorem opD_no {d : Dk} {x : De} {e : Int} (h : e ≠ 0) : opD e d x = cntD d := if_neg h
/-- what is refused leaves the disk as it is -/
theorem DkO.no {db sb nb : Nat} {d : Dk} {x : De} {e : Int} {so no : Obj} {pv : Value} {hr : Hp} (he : e ≠ 0) (hok : (cntD d).ok) (hs : ¬ stopD d) (h1 : FsO M so (cntD d).S) (h2 : FsO M no d.now) (h3 : RowD M pv (cntD d).ps hr) : DkO M db (opD e d x) ((db, dkB d.room sb nb pv (cntD d).fuse false) :: (nb, no) :: (sb, so) :: hr) := by
  rw [opD_no he]
  refine ⟨hok, sb, nb, so, no, pv, hr, h1, by rw [cntD_now]; exact h2, h3, ?_⟩
  rw [cntD_room, cntD_down hs]
theorem remove_K {db : Nat} {d : Dk} {hp : Hp} {n : Txt} (ho : DkO M db d hp) (hlen : d.ps.length ≤ 1000000) : K Try.prog 28 [.pointer (some ⟨db, 0, none⟩), str n] M (hp ++ H) fun v' M' H' => v' = .int .i64 (remE d n) ∧ M.le M' ∧ ∃ hp', DkO M' db (opD (remE d n) d (.rem n)) hp' ∧ H' = hp' ++ H := by
  refine K.enterK Try.func28 rfl rfl rfl ?_
  intro Q hNP hQ
  (repeat' (first | (apply R.step; (exact a_ok); exact rfl) | (first | (with_reducible first | apply R.nil | apply C.ret | apply C.block | apply C.skip | apply C.exit | apply Fin.thenRet | apply Fin.thenExit | apply Fin.blockNormal | apply Fin.blockRet | apply Fin.blockExit) | (with_reducible apply Fin.thenK; assumption) | (with_reducible apply C.seqK; intro _ _) | (with_reducible apply C.regionK; intro _ _) | (with_reducible apply Fin.blockOther; exact rfl)) | (first | (apply R.store; exact rfl; exact rfl; exact rfl; (exact a_at); (exact a_blit); exact rfl; (focus (simp [Value.oneCell']; done))) | (apply R.buildSlice0; exact rfl; intro bz) | (apply R.box; exact rfl; (simp only [Value.cells]; rfl); exact rfl; intro bx) | (apply R.alloc; (simp only [Value.cells]; rfl); exact rfl; intro ba) | (apply R.buildSlice; (exact a_prt); exact rfl; exact rfl; (exact a_fills); exact rfl; intro bl)) | (first | (apply R.guardT; assumption; exact rfl; exact rfl; exact rfl) | (apply R.guardF; assumption; exact rfl; exact rfl; exact rfl; exact rfl; exact rfl) | (apply R.guardU; assumption; exact rfl; exact rfl; exact rfl; exact rfl) | (apply R.guardDec; assumption; exact rfl; exact rfl; (intro h; skip; rotate_left; intro h; skip; rotate_left)) | (apply R.guardBeq; assumption; exact rfl; exact rfl; (intro h; skip; rotate_left; intro h; skip; rotate_left)) | (apply R.guardBne; assumption; exact rfl; exact rfl; (intro h; skip; rotate_left; intro h; skip; rotate_left)) | (apply R.guardNDec; assumption; exact rfl; exact rfl; (intro h; skip; rotate_left; intro h; skip; rotate_left)) | (apply R.guardNot; assumption; exact rfl; exact rfl; (intro h; skip; rotate_left; intro h; skip; rotate_left)) | (apply R.guardC; assumption; exact rfl; exact rfl; (intro h; skip; rotate_left; intro h; skip; rotate_left))) | (first | (apply C.condT; exact rfl) | (apply C.condF; exact rfl) | (apply C.condDec; exact rfl; (intro h; skip; rotate_left; intro h; skip; rotate_left)) | (apply C.condBeq; exact rfl; (intro h; skip; rotate_left; intro h; skip; rotate_left)) | (apply C.condBne; exact rfl; (intro h; skip; rotate_left; intro h; skip; rotate_left)) | (apply C.condNDec; exact rfl; (intro h; skip; rotate_left; intro h; skip; rotate_left)) | (apply C.condNot; exact rfl; (intro h; skip; rotate_left; intro h; skip; rotate_left)) | (apply C.cond; exact rfl; (intro h; skip; rotate_left; intro h; skip; rotate_left)))))
  (apply R.call; (exact a_evs); exact rfl); exact counts_KD ho; rintro _ M _ ⟨rfl, rfl, hp1, ho1, rfl, hdn⟩
  have hnn := ho.nodup
  have hok := ho.1
  clear ho
  by_cases hs : stopD d
  · rw [decide_eq_true hs]
    have hE : remE d n = 3 := if_pos hs
    rw [hE] at hQ
    (repeat' (first | (apply R.step; (exact a_ok); exact rfl) | (first | (with_reducible first | apply R.nil | apply C.ret | apply C.block | apply C.skip | apply C.exit | apply Fin.thenRet | apply Fin.thenExit | apply Fin.blockNormal | apply Fin.blockRet | apply Fin.blockExit) | (with_reducible apply Fin.thenK; assumption) | (with_reducible apply C.seqK; intro _ _) | (with_reducible apply C.regionK; intro _ _) | (with_reducible apply Fin.blockOther; exact rfl)) | (first | (apply R.store; exact rfl; exact rfl; exact rfl; (exact a_at); (exact a_blit); exact rfl; (focus (simp [Value.oneCell']; done))) | (apply R.buildSlice0; exact rfl; intro bz) | (apply R.box; exact rfl; (simp only [Value.cells]; rfl); exact rfl; intro bx) | (apply R.alloc; (simp only [Value.cells]; rfl); exact rfl; intro ba) | (apply R.buildSlice; (exact a_prt); exact rfl; exact rfl; (exact a_fills); exact rfl; intro bl)) | (first | (apply R.guardT; assumption; exact rfl; exact rfl; exact rfl) | (apply R.guardF; assumption; exact rfl; exact rfl; exact rfl; exact rfl; exact rfl) | (apply R.guardU; assumption; exact rfl; exact rfl; exact rfl; exact rfl) | (apply R.guardDec; assumption; exact rfl; exact rfl; (intro h; skip; rotate_left; intro h; skip; rotate_left)) | (apply R.guardBeq; assumption; exact rfl; exact rfl; (intro h; skip; rotate_left; intro h; skip; rotate_left)) | (apply R.guardBne; assumption; exact rfl; exact rfl; (intro h; skip; rotate_left; intro h; skip; rotate_left)) | (apply R.guardNDec; assumption; exact rfl; exact rfl; (intro h; skip; rotate_left; intro h; skip; rotate_left)) | (apply R.guardNot; assumption; exact rfl; exact rfl; (intro h; skip; rotate_left; intro h; skip; rotate_left)) | (apply R.guardC; assumption; exact rfl; exact rfl; (intro h; skip; rotate_left; intro h; skip; rotate_left))) | (first | (apply C.condT; exact rfl) | (apply C.condF; exact rfl) | (apply C.condDec; exact rfl; (intro h; skip; rotate_left; intro h; skip; rotate_left)) | (apply C.condBeq; exact rfl; (intro h; skip; rotate_left; intro h; skip; rotate_left)) | (apply C.condBne; exact rfl; (intro h; skip; rotate_left; intro h; skip; rotate_left)) | (apply C.condNDec; exact rfl; (intro h; skip; rotate_left; intro h; skip; rotate_left)) | (apply C.condNot; exact rfl; (intro h; skip; rotate_left; intro h; skip; rotate_left)) | (apply C.cond; exact rfl; (intro h; skip; rotate_left; intro h; skip; rotate_left)))))
    (apply Fin.returnA (H2 := hp1 ++ H); assumption; (first | exact .inl rfl | exact .inr rfl); exact rfl; (exact a_res); (simp only [retv]; rfl); (exact a_arr))
    exact ⟨rfl, Mem.le_refl _, hp1, ho1, rfl⟩
  rw [decide_eq_false hs]
  obtain ⟨hok1, sb, nb, so, no, pv, hr, h1, h2, h3, rfl⟩ := ho1
  rw [cntD_now] at h2
  rw [hdn hs, cntD_room]
  unfold dkB
  obtain ⟨l, hm, hfr, hn⟩ := h2.use
  have hg := (hfr.get hn n).2
  (repeat' (first | (apply R.step; (apply Ok.move; exact rfl); exact rfl) | (apply R.step; (apply Ok.lookupS (ho := hm); exact rfl; exact rfl; exact a_mm); exact rfl) | (apply R.step; (exact a_ok); exact rfl) | (first | (with_reducible first | apply R.nil | apply C.ret | apply C.block | apply C.skip | apply C.exit | apply Fin.thenRet | apply Fin.thenExit | apply Fin.blockNormal | apply Fin.blockRet | apply Fin.blockExit) | (with_reducible apply Fin.thenK; assumption) | (with_reducible apply C.seqK; intro _ _) | (with_reducible apply C.regionK; intro _ _) | (with_reducible apply Fin.blockOther; exact rfl)) | (first | (apply R.store; exact rfl; exact rfl; exact rfl; (exact a_at); (exact a_blit); exact rfl; (focus (simp [Value.oneCell']; done))) | (apply R.buildSlice0; exact rfl; intro bz) | (apply R.box; exact rfl; (simp only [Value.cells]; rfl); exact rfl; intro bx) | (apply R.alloc; (simp only [Value.cells]; rfl); exact rfl; intro ba) | (apply R.buildSlice; (exact a_prt); exact rfl; exact rfl; (exact a_fills); exact rfl; intro bl)) | (first | (apply R.guardT; assumption; exact rfl; exact rfl; exact rfl) | (apply R.guardF; assumption; exact rfl; exact rfl; exact rfl; exact rfl; exact rfl) | (apply R.guardU; assumption; exact rfl; exact rfl; exact rfl; exact rfl) | (apply R.guardDec; assumption; exact rfl; exact rfl; (intro h; skip; rotate_left; intro h; skip; rotate_left)) | (apply R.guardBeq; assumption; exact rfl; exact rfl; (intro h; skip; rotate_left; intro h; skip; rotate_left)) | (apply R.guardBne; assumption; exact rfl; exact rfl; (intro h; skip; rotate_left; intro h; skip; rotate_left)) | (apply R.guardNDec; assumption; exact rfl; exact rfl; (intro h; skip; rotate_left; intro h; skip; rotate_left)) | (apply R.guardNot; assumption; exact rfl; exact rfl; (intro h; skip; rotate_left; intro h; skip; rotate_left)) | (apply R.guardC; assumption; exact rfl; exact rfl; (intro h; skip; rotate_left; intro h; skip; rotate_left))) | (first | (apply C.condT; exact rfl) | (apply C.condF; exact rfl) | (apply C.condDec; exact rfl; (intro h; skip; rotate_left; intro h; skip; rotate_left)) | (apply C.condBeq; exact rfl; (intro h; skip; rotate_left; intro h; skip; rotate_left)) | (apply C.condBne; exact rfl; (intro h; skip; rotate_left; intro h; skip; rotate_left)) | (apply C.condNDec; exact rfl; (intro h; skip; rotate_left; intro h; skip; rotate_left)) | (apply C.condNot; exact rfl; (intro h; skip; rotate_left; intro h; skip; rotate_left)) | (apply C.cond; exact rfl; (intro h; skip; rotate_left; intro h; skip; rotate_left)))))
  · have h : (getS l n).isSome = false := by assumption
    have hE : remE d n = 4 := (if_neg hs).trans (if_pos (is_none (by rw [← hg]; exact h)))
    rw [hE] at hQ
    (apply Fin.returnA (H2 := (db, dkB d.room sb nb pv (cntD d).fuse false) :: (nb, no) :: (sb, so) :: (hr ++ H)); assumption; (first | exact .inl rfl | exact .inr rfl); exact rfl; (exact a_res); (simp only [retv]; rfl); (exact a_arr))
    exact ⟨rfl, Mem.le_refl _, _, DkO.no (sb := sb) (nb := nb) (by decide) hok1 hs h1 h2 h3, rfl⟩
  have h : (getS l n).isSome = true := by assumption
  have hE : remE d n = 0 := (if_neg hs).trans (if_neg (is_some (by rw [← hg]; exact h)))
  rw [hE] at hQ
  have hfit := rem_fit (n := n) hnn hok.sum
  (apply R.call; (exact a_evs); exact rfl; (apply K.arr (h := put_K (db := db) (sb := sb) (nb := nb) (room := d.room) (fuse := (cntD d).fuse) (down := false) (H := (sb, so) :: H) (x := .rem n) h2 h3 rfl hfit (by rw [cntD_ps]; exact hlen))); ((try simp only [List.append_assoc, List.cons_append, List.nil_append, List.append_nil]); exact a_arr); rintro _ M3 _ ⟨rfl, hM3, pv', hp', no', f1, f2, rfl⟩)
  (repeat' (first | (apply R.step; (exact a_ok); exact rfl) | (first | (with_reducible first | apply R.nil | apply C.ret | apply C.block | apply C.skip | apply C.exit | apply Fin.thenRet | apply Fin.thenExit | apply Fin.blockNormal | apply Fin.blockRet | apply Fin.blockExit) | (with_reducible apply Fin.thenK; assumption) | (with_reducible apply C.seqK; intro _ _) | (with_reducible apply C.regionK; intro _ _) | (with_reducible apply Fin.blockOther; exact rfl)) | (first | (apply R.store; exact rfl; exact rfl; exact rfl; (exact a_at); (exact a_blit); exact rfl; (focus (simp [Value.oneCell']; done))) | (apply R.buildSlice0; exact rfl; intro bz) | (apply R.box; exact rfl; (simp only [Value.cells]; rfl); exact rfl; intro bx) | (apply R.alloc; (simp only [Value.cells]; rfl); exact rfl; intro ba) | (apply R.buildSlice; (exact a_prt); exact rfl; exact rfl; (exact a_fills); exact rfl; intro bl)) | (first | (apply R.guardT; assumption; exact rfl; exact rfl; exact rfl) | (apply R.guardF; assumption; exact rfl; exact rfl; exact rfl; exact rfl; exact rfl) | (apply R.guardU; assumption; exact rfl; exact rfl; exact rfl; exact rfl) | (apply R.guardDec; assumption; exact rfl; exact rfl; (intro h; skip; rotate_left; intro h; skip; rotate_left)) | (apply R.guardBeq; assumption; exact rfl; exact rfl; (intro h; skip; rotate_left; intro h; skip; rotate_left)) | (apply R.guardBne; assumption; exact rfl; exact rfl; (intro h; skip; rotate_left; intro h; skip; rotate_left)) | (apply R.guardNDec; assumption; exact rfl; exact rfl; (intro h; skip; rotate_left; intro h; skip; rotate_left)) | (apply R.guardNot; assumption; exact rfl; exact rfl; (intro h; skip; rotate_left; intro h; skip; rotate_left)) | (apply R.guardC; assumption; exact rfl; exact rfl; (intro h; skip; rotate_left; intro h; skip; rotate_left))) | (first | (apply C.condT; exact rfl) | (apply C.condF; exact rfl) | (apply C.condDec; exact rfl; (intro h; skip; rotate_left; intro h; skip; rotate_left)) | (apply C.condBeq; exact rfl; (intro h; skip; rotate_left; intro h; skip; rotate_left)) | (apply C.condBne; exact rfl; (intro h; skip; rotate_left; intro h; skip; rotate_left)) | (apply C.condNDec; exact rfl; (intro h; skip; rotate_left; intro h; skip; rotate_left)) | (apply C.condNot; exact rfl; (intro h; skip; rotate_left; intro h; skip; rotate_left)) | (apply C.cond; exact rfl; (intro h; skip; rotate_left; intro h; skip; rotate_left)))))
  (apply Fin.returnA (H2 := (db, dkB d.room sb nb pv' (cntD d).fuse false) :: (nb, no') :: (sb, so) :: (hp' ++ H)); assumption; (first | exact .inl rfl | exact .inr rfl); exact rfl; (exact a_res); (simp only [retv]; rfl); (exact a_arr))
  exact ⟨rfl, hM3, _, DkO.op (sb := sb) (nb := nb) hok hs hfit (h1.mono hM3) f1 f2, rfl⟩
end Go.Sx
