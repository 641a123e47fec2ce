import Derived.Shelf.Sort.Plain
import Derived.Shelf.Slices.In.SortNone
import Derived.Sort.KeysCollected
import Derived.Test.YtmimdoggljemjaaProg
import Derived.Test.YtmimdoggljemjaaZHardAny2
section
namespace Go.Sx
open Go Go.Proofs Go.RowKit
attribute [local irreducible] C R Fin K Own OwnT Rd Pl Ok KOf RetOk OpsOf RP KP Res NoPanic KV KE MapS ItS EntS FsO FsR RowD
variable {M M' : Mem} {H H1 H2 : Hp}
theorem sumF_del {F : Fs} {n : Txt} (hn : (keyS F).Nodup) : sumF (delS F n) + (fileD F n).length = sumF F := by
  by_cases h : n ∈ keyS F
  · obtain ⟨p, hp, rfl⟩ := List.mem_map.1 h
    obtain ⟨l1, l2, rfl⟩ := List.append_of_mem hp
    have hg : fileD (l1 ++ p :: l2) p.1 = p.2 := by
      unfold fileD
      rw [show l1 ++ p :: l2 = l1 ++ (p.1, p.2) :: l2 from rfl, getS_some (keyS_mid hn).1]
      rfl
    rw [hg, show l1 ++ p :: l2 = l1 ++ (p.1, p.2) :: l2 from rfl, delS_some hn]
    unfold sumF
    simp only [List.map_append, List.map_cons, List.sum_append, List.sum_cons]
    omega
  · have hg : fileD F n = [] := by
      unfold fileD
      rw [getS_none h]
      rfl
    rw [hg, delS_none h]
    rfl
theorem rem_fit {F : Fs} {n : Txt} (hn : (keyS F).Nodup) (h : sumF F ≤ 1048576) : Fit F (.rem n) := by
  refine ⟨?_, trivial⟩
  have := sumF_del (n := n) hn
  show sumF (delS F n) ≤ _
  omega
theorem trc_fit {F : Fs} {n : Txt} {k : Nat} (hn : (keyS F).Nodup) (h : sumF F ≤ 1048576) (hk : k ≤ (fileD F n).length) : Fit F (.trc n k) := by
  refine ⟨?_, hk⟩
  have := sumF_put (b := (fileD F n).take k) (n := n) hn
  rw [List.length_take] at this
  show sumF (putS F n ((fileD F n).take k)) ≤ _
  omega
theorem ren_fit {F : Fs} {n t : Txt} (hn : (keyS F).Nodup) (h : sumF F ≤ 1048576) : Fit F (.ren n t) := by
  refine ⟨?_, trivial⟩
  have h1 := sumF_del (n := n) hn
  have h2 := sumF_put (b := fileD F n) (n := t) (delS_keys (k := n) hn)
  show sumF (putS (delS F n) t (fileD F n)) ≤ _
  omega
def remE (d : Dk) (n : Txt) : Int := if stopD d then 3 else if getS d.now n = none then 4 else 0
def trcE (d : Dk) (n : Txt) (k : Int) : Int := if stopD d then 3 else if getS d.now n = none then 4 else if k < 0 ∨ ((fileD d.now n).length : Int) < k then 1 else 0
def renE (d : Dk) (n t : Txt) : Int := if stopD d then 3 else if namedB t = false then 1 else if getS d.now n = none then 4 else 0
theorem is_none {α : Type} {x : Option α} (h : x.isSome = false) : x = none := by
  cases x with
  | none => rfl
  | some _ => cases h
theorem is_some {α : Type} {x : Option α} (h : x.isSome = true) : x ≠ none := by
  cases x with
  | none => cases h
  | some _ => exact fun e => by cases e
theorem opD_no {d : Dk} {x : De} {e : Int} (h : e ≠ 0) : opD e d x = cntD d := if_neg h
theorem DkO.no {db sb nb : Nat} {d : Dk} {x : De} {e : Int} {so no : Obj} {pv : Value} {hr : Hp} (he : e ≠ 0) (hok : (cntD d).ok) (hs : ¬ stopD d) (h1 : FsO M so (cntD d).S) (h2 : FsO M no d.now) (h3 : RowD M pv (cntD d).ps hr) : DkO M db (opD e d x) ((db, dkB d.room sb nb pv (cntD d).fuse false) :: (nb, no) :: (sb, so) :: hr) := by
  rw [opD_no he]
  refine ⟨hok, sb, nb, so, no, pv, hr, h1, by rw [cntD_now]; exact h2, h3, ?_⟩
  rw [cntD_room, cntD_down hs]
theorem remove_K {db : Nat} {d : Dk} {hp : Hp} {n : Txt} (ho : DkO M db d hp) (hlen : d.ps.length ≤ 1000000) : K Try.prog 28 [.pointer (some ⟨db, 0, none⟩), str n] M (hp ++ H) fun v' M' H' => v' = .int .i64 (remE d n) ∧ M.le M' ∧ ∃ hp', DkO M' db (opD (remE d n) d (.rem n)) hp' ∧ H' = hp' ++ H := by
  refine K.enterK Try.func28 rfl rfl rfl ?_
  intro Q hNP hQ
  (repeat' (first | refine a_go ?_ | (with_reducible apply Fin.thenK; assumption) | (with_reducible (first | apply C.seqK | apply C.regionK); intro _ _) | (apply R.buildSlice0; exact rfl; intro bz) | (apply R.box; exact rfl; (simp only [Value.cells]; rfl); exact rfl; intro bx) | (apply R.alloc; (simp only [Value.cells]; rfl); exact rfl; intro ba) | (apply R.buildSlice; (exact a_prt); exact rfl; exact rfl; (exact a_fills); exact rfl; intro bl) | (refine a_sp ?_ ?_; (intro h; skip; rotate_left; intro h; skip; rotate_left)) | fail))
  (apply R.call; (exact a_evs); exact rfl); exact counts_KD ho; rintro _ M _ ⟨rfl, rfl, hp1, ho1, rfl, hdn⟩
  have hnn := ho.nodup
  have hok := ho.1
  clear ho
  by_cases hs : stopD d
  · rw [decide_eq_true hs]
    have hE : remE d n = 3 := if_pos hs
    rw [hE] at hQ
    (repeat' (first | refine a_go ?_ | (with_reducible apply Fin.thenK; assumption) | (with_reducible (first | apply C.seqK | apply C.regionK); intro _ _) | (apply R.buildSlice0; exact rfl; intro bz) | (apply R.box; exact rfl; (simp only [Value.cells]; rfl); exact rfl; intro bx) | (apply R.alloc; (simp only [Value.cells]; rfl); exact rfl; intro ba) | (apply R.buildSlice; (exact a_prt); exact rfl; exact rfl; (exact a_fills); exact rfl; intro bl) | (refine a_sp ?_ ?_; (intro h; skip; rotate_left; intro h; skip; rotate_left)) | fail))
    (apply Fin.returnA (H2 := hp1 ++ H); assumption; (first | exact .inl rfl | exact .inr rfl); exact rfl; (exact a_res); (simp only [retv]; rfl); (exact a_arr))
    exact ⟨rfl, Mem.le_refl _, hp1, ho1, rfl⟩
  rw [decide_eq_false hs]
  obtain ⟨hok1, sb, nb, so, no, pv, hr, h1, h2, h3, rfl⟩ := ho1
  rw [cntD_now] at h2
  rw [hdn hs, cntD_room]
  unfold dkB
  obtain ⟨l, hm, hfr, hn⟩ := h2.use
  have hg := (hfr.get hn n).2
  (repeat' (first | (apply R.step; (apply Ok.move; exact rfl); exact rfl) | (apply R.step; (apply Ok.lookupS (ho := hm); exact rfl; exact rfl; exact a_mm); exact rfl) | refine a_go ?_ | (with_reducible apply Fin.thenK; assumption) | (with_reducible (first | apply C.seqK | apply C.regionK); intro _ _) | (apply R.buildSlice0; exact rfl; intro bz) | (apply R.box; exact rfl; (simp only [Value.cells]; rfl); exact rfl; intro bx) | (apply R.alloc; (simp only [Value.cells]; rfl); exact rfl; intro ba) | (apply R.buildSlice; (exact a_prt); exact rfl; exact rfl; (exact a_fills); exact rfl; intro bl) | (refine a_sp ?_ ?_; (intro h; skip; rotate_left; intro h; skip; rotate_left)) | fail))
  · have h : (getS l n).isSome = false := by assumption
    have hE : remE d n = 4 := (if_neg hs).trans (if_pos (is_none (by rw [← hg]; exact h)))
    rw [hE] at hQ
    (apply Fin.returnA (H2 := (db, dkB d.room sb nb pv (cntD d).fuse false) :: (nb, no) :: (sb, so) :: (hr ++ H)); assumption; (first | exact .inl rfl | exact .inr rfl); exact rfl; (exact a_res); (simp only [retv]; rfl); (exact a_arr))
    exact ⟨rfl, Mem.le_refl _, _, DkO.no (sb := sb) (nb := nb) (by decide) hok1 hs h1 h2 h3, rfl⟩
  have h : (getS l n).isSome = true := by assumption
  have hE : remE d n = 0 := (if_neg hs).trans (if_neg (is_some (by rw [← hg]; exact h)))
  rw [hE] at hQ
  have hfit := rem_fit (n := n) hnn hok.sum
  (apply R.call; (exact a_evs); exact rfl; (apply K.arr (h := put_K (db := db) (sb := sb) (nb := nb) (room := d.room) (fuse := (cntD d).fuse) (down := false) (H := (sb, so) :: H) (x := .rem n) h2 h3 rfl hfit (by rw [cntD_ps]; exact hlen))); ((try simp only [List.append_assoc, List.cons_append, List.nil_append, List.append_nil]); exact a_arr); rintro _ M3 _ ⟨rfl, hM3, pv', hp', no', f1, f2, rfl⟩)
  (repeat' (first | refine a_go ?_ | (with_reducible apply Fin.thenK; assumption) | (with_reducible (first | apply C.seqK | apply C.regionK); intro _ _) | (apply R.buildSlice0; exact rfl; intro bz) | (apply R.box; exact rfl; (simp only [Value.cells]; rfl); exact rfl; intro bx) | (apply R.alloc; (simp only [Value.cells]; rfl); exact rfl; intro ba) | (apply R.buildSlice; (exact a_prt); exact rfl; exact rfl; (exact a_fills); exact rfl; intro bl) | (refine a_sp ?_ ?_; (intro h; skip; rotate_left; intro h; skip; rotate_left)) | fail))
  (apply Fin.returnA (H2 := (db, dkB d.room sb nb pv' (cntD d).fuse false) :: (nb, no') :: (sb, so) :: (hp' ++ H)); assumption; (first | exact .inl rfl | exact .inr rfl); exact rfl; (exact a_res); (simp only [retv]; rfl); (exact a_arr))
  exact ⟨rfl, hM3, _, DkO.op (sb := sb) (nb := nb) hok hs hfit (h1.mono hM3) f1 f2, rfl⟩
end Go.Sx
end
section
namespace Go.Sx
open Go Go.Proofs Go.RowKit
attribute [local irreducible] C R Fin K Own OwnT Rd Pl Ok KOf RetOk OpsOf RP KP Res NoPanic KV KE MapS ItS EntS FsO FsR RowD
variable {M M' : Mem} {H H1 H2 : Hp}
def synE (d : Dk) : Int := if stopD d then 3 else 0
def synD (d : Dk) : Dk := if stopD d then cntD d else { cntD d with S := d.now, ps := [] }
theorem sync_K {db : Nat} {d : Dk} {hp : Hp} (ho : DkO M db d hp) : K Try.prog 19 [.pointer (some ⟨db, 0, none⟩)] M (hp ++ H) fun v' M' H' => v' = .int .i64 (synE d) ∧ M' = M ∧ ∃ hp', DkO M db (synD d) hp' ∧ H' = hp' ++ H := by
  refine K.enterK Try.func19 rfl rfl rfl ?_
  intro Q hNP hQ
  (repeat' (first | refine a_go ?_ | (with_reducible apply Fin.thenK; assumption) | (with_reducible (first | apply C.seqK | apply C.regionK); intro _ _) | (apply R.buildSlice0; exact rfl; intro bz) | (apply R.box; exact rfl; (simp only [Value.cells]; rfl); exact rfl; intro bx) | (apply R.alloc; (simp only [Value.cells]; rfl); exact rfl; intro ba) | (apply R.buildSlice; (exact a_prt); exact rfl; exact rfl; (exact a_fills); exact rfl; intro bl) | (refine a_sp ?_ ?_; (intro h; skip; rotate_left; intro h; skip; rotate_left)) | fail))
  (apply R.call; (exact a_evs); exact rfl); exact counts_KD ho; rintro _ M _ ⟨rfl, rfl, hp1, ho1, rfl, hdn⟩
  have hok := ho.1
  clear ho
  by_cases hs : stopD d
  · rw [decide_eq_true hs]
    have hE : synE d = 3 := if_pos hs
    have hD : synD d = cntD d := if_pos hs
    rw [hE, hD] at hQ
    (repeat' (first | refine a_go ?_ | (with_reducible apply Fin.thenK; assumption) | (with_reducible (first | apply C.seqK | apply C.regionK); intro _ _) | (apply R.buildSlice0; exact rfl; intro bz) | (apply R.box; exact rfl; (simp only [Value.cells]; rfl); exact rfl; intro bx) | (apply R.alloc; (simp only [Value.cells]; rfl); exact rfl; intro ba) | (apply R.buildSlice; (exact a_prt); exact rfl; exact rfl; (exact a_fills); exact rfl; intro bl) | (refine a_sp ?_ ?_; (intro h; skip; rotate_left; intro h; skip; rotate_left)) | fail))
    (apply Fin.returnA (H2 := hp1 ++ H); assumption; (first | exact .inl rfl | exact .inr rfl); exact rfl; (exact a_res); (simp only [retv]; rfl); (exact a_arr))
    exact ⟨rfl, rfl, hp1, ho1, rfl⟩
  rw [decide_eq_false hs]
  obtain ⟨hok1, sb, nb, so, no, pv, hr, h1, h2, h3, rfl⟩ := ho1
  rw [cntD_now] at h2
  have hE : synE d = 0 := if_neg hs
  have hD : synD d = { cntD d with S := d.now, ps := [] } := if_neg hs
  rw [hE, hD] at hQ
  (repeat' (first | refine a_go ?_ | (with_reducible apply Fin.thenK; assumption) | (with_reducible (first | apply C.seqK | apply C.regionK); intro _ _) | (apply R.buildSlice0; exact rfl; intro bz) | (apply R.box; exact rfl; (simp only [Value.cells]; rfl); exact rfl; intro bx) | (apply R.alloc; (simp only [Value.cells]; rfl); exact rfl; intro ba) | (apply R.buildSlice; (exact a_prt); exact rfl; exact rfl; (exact a_fills); exact rfl; intro bl) | (refine a_sp ?_ ?_; (intro h; skip; rotate_left; intro h; skip; rotate_left)) | fail))
  (apply R.call; (exact a_evs); exact rfl; (apply K.arr (h := settle_K (db := db) (sb := sb) (nb := nb) (room := (cntD d).room) (fuse := (cntD d).fuse) (down := (cntD d).down) (pv := pv) (H := H) h2)); ((try simp only [List.append_assoc, List.cons_append, List.nil_append, List.append_nil]); exact a_arr); rintro _ M _ ⟨rfl, rfl, sb', so', f1, rfl⟩)
  (repeat' (first | refine a_go ?_ | (with_reducible apply Fin.thenK; assumption) | (with_reducible (first | apply C.seqK | apply C.regionK); intro _ _) | (apply R.buildSlice0; exact rfl; intro bz) | (apply R.box; exact rfl; (simp only [Value.cells]; rfl); exact rfl; intro bx) | (apply R.alloc; (simp only [Value.cells]; rfl); exact rfl; intro ba) | (apply R.buildSlice; (exact a_prt); exact rfl; exact rfl; (exact a_fills); exact rfl; intro bl) | (refine a_sp ?_ ?_; (intro h; skip; rotate_left; intro h; skip; rotate_left)) | fail))
  (apply Fin.returnA (H2 := (db, dkB (cntD d).room sb' nb (.slice none 0 0) (cntD d).fuse (cntD d).down) :: (nb, no) :: (sb', so') :: H); assumption; (first | exact .inl rfl | exact .inr rfl); exact rfl; (exact a_res); (simp only [retv]; rfl); (exact a_arr))
  refine ⟨rfl, rfl, (db, dkB (cntD d).room sb' nb (.slice none 0 0) (cntD d).fuse (cntD d).down) :: (nb, no) :: (sb', so') :: [], ⟨⟨hok1.1, hok1.2.1, hok.sum, trivial⟩, sb', nb, so', no, .slice none 0 0, [], f1, h2, RowD.nil, rfl⟩, rfl⟩
def readD (d : Dk) (n : Txt) : Option Txt := if d.down then none else getS d.now n
theorem dread_K {db : Nat} {d : Dk} {hp : Hp} {n : Txt} (ho : DkO M db d hp) : K Try.prog 18 [.pointer (some ⟨db, 0, none⟩), str n] M (hp ++ H) fun v' M' H' => ∃ v hv, v' = .tuple #[v, .bool (readD d n).isSome] ∧ Own 5 1 v ((readD d n).getD []).length (((readD d n).getD []).map bv) hv ∧ M' = M ∧ H' = hv ++ (hp ++ H) := by
  have hsum := ho.1.sum
  obtain ⟨hok, sb, nb, so, no, pv, hr, h1, h2, h3, rfl⟩ := ho
  obtain ⟨l, hm, hfr, hn⟩ := h2.use
  obtain ⟨⟨A1, c1, e1, hl1, hl2, hpl⟩, hg⟩ := hfr.get hn n
  have hfl : (fileD d.now n).length ≤ 1048576 := Nat.le_trans fileD_len hsum
  refine K.enterK Try.func18 rfl rfl rfl ?_
  intro Q hNP hQ
  have hnone : readD d n = none → ∀ H', H' = (db, dkB d.room sb nb pv d.fuse d.down) :: (nb, no) :: (sb, so) :: (hr ++ H) → ∃ v hv, Value.tuple #[.slice none 0 0, .bool false] = .tuple #[v, .bool (readD d n).isSome] ∧ Own 5 1 v ((readD d n).getD []).length (((readD d n).getD []).map bv) hv ∧ M = M ∧ H' = hv ++ ((db, dkB d.room sb nb pv d.fuse d.down) :: (nb, no) :: (sb, so) :: hr ++ H) := fun h H' hH => by
    rw [h]
    exact ⟨_, [], rfl, Own.nil _ _, rfl, hH⟩
  unfold dkB
  (repeat' (first | (apply R.step; (apply Ok.move; exact rfl); exact rfl) | (apply R.step; (apply Ok.lookupS (ho := hm); exact rfl; exact rfl; exact a_mm); exact rfl) | refine a_go ?_ | (with_reducible apply Fin.thenK; assumption) | (with_reducible (first | apply C.seqK | apply C.regionK); intro _ _) | (apply R.buildSlice0; exact rfl; intro bz) | (apply R.box; exact rfl; (simp only [Value.cells]; rfl); exact rfl; intro bx) | (apply R.alloc; (simp only [Value.cells]; rfl); exact rfl; intro ba) | (apply R.buildSlice; (exact a_prt); exact rfl; exact rfl; (exact a_fills); exact rfl; intro bl) | (refine a_sp ?_ ?_; (intro h; skip; rotate_left; intro h; skip; rotate_left)) | fail))
  · have h : (getS l n).isSome = false := by assumption
    have hE : readD d n = none := by
      unfold readD
      rw [is_none (hg.symm.trans h)]
      split <;> rfl
    (apply Fin.returnA (H2 := (db, dkB d.room sb nb pv d.fuse d.down) :: (nb, no) :: (sb, so) :: (hr ++ H)); assumption; (first | exact .inl rfl | exact .inr rfl); exact rfl; (exact a_res); (simp only [retv]; rfl); (exact a_arr))
    exact hnone hE _ rfl
  · have h : d.down = true := by assumption
    have hE : readD d n = none := if_pos h
    (apply Fin.returnA (H2 := (db, dkB d.room sb nb pv d.fuse d.down) :: (nb, no) :: (sb, so) :: (hr ++ H)); assumption; (first | exact .inl rfl | exact .inr rfl); exact rfl; (exact a_res); (simp only [retv]; rfl); (exact a_arr))
    exact hnone hE _ rfl
  have h : (getS l n).isSome = true := by assumption
  have h5 : d.down = false := by assumption
  have hE : readD d n = some (fileD d.now n) := by
    unfold readD fileD
    rw [h5]
    obtain ⟨b, hb⟩ := Option.isSome_iff_exists.1 (hg.symm.trans h)
    rw [hb]
    rfl
  rw [e1]
  (repeat' (first | refine a_go ?_ | (with_reducible apply Fin.thenK; assumption) | (with_reducible (first | apply C.seqK | apply C.regionK); intro _ _) | (apply R.buildSlice0; exact rfl; intro bz) | (apply R.box; exact rfl; (simp only [Value.cells]; rfl); exact rfl; intro bx) | (apply R.alloc; (simp only [Value.cells]; rfl); exact rfl; intro ba) | (apply R.buildSlice; (exact a_prt); exact rfl; exact rfl; (exact a_fills); exact rfl; intro bl) | (refine a_sp ?_ ?_; (intro h; skip; rotate_left; intro h; skip; rotate_left)) | fail))
  (apply R.append (news := (fileD d.now n).map bv); exact rfl; exact rfl; exact Own.empty; (exact a_tk); exact Pl.rd hpl; (rw [List.length_map, Nat.mul_one]); exact bv_one _; omega; exact rfl; decide; decide; exact rfl; rintro v4 hp4 hown4)
  rw [List.nil_append, Nat.zero_add] at hown4
  (repeat' (first | refine a_go ?_ | (with_reducible apply Fin.thenK; assumption) | (with_reducible (first | apply C.seqK | apply C.regionK); intro _ _) | (apply R.buildSlice0; exact rfl; intro bz) | (apply R.box; exact rfl; (simp only [Value.cells]; rfl); exact rfl; intro bx) | (apply R.alloc; (simp only [Value.cells]; rfl); exact rfl; intro ba) | (apply R.buildSlice; (exact a_prt); exact rfl; exact rfl; (exact a_fills); exact rfl; intro bl) | (refine a_sp ?_ ?_; (intro h; skip; rotate_left; intro h; skip; rotate_left)) | fail))
  (apply Fin.returnA (H2 := hp4 ++ ((db, dkB d.room sb nb pv d.fuse d.down) :: (nb, no) :: (sb, so) :: (hr ++ H))); assumption; (first | exact .inl rfl | exact .inr rfl); exact rfl; (exact a_res); (simp only [retv]; rfl); (exact a_arr))
  exact ⟨v4, hp4, by rw [hE]; rfl, by rw [hE]; exact hown4, rfl, rfl⟩
def PlD (M : Mem) (A : Option Addr) (ps : List De) : Prop := ∃ cs : List (List Value), Pl M A cs.flatten ∧ cs.length = ps.length ∧ ∀ (i : Nat) (x : De) (c : List Value), ps[i]? = some x → cs[i]? = some c → DeC M x c
theorem RowD.form {v : Value} {ps : List De} {hp : Hp} (h : RowD M v ps hp) : ∃ A cap, v = .slice A ps.length cap ∧ ps.length ≤ cap ∧ cap ≤ maxLen := by
  unfold RowD at h
  obtain ⟨cs, h1, _⟩ := h
  exact h1.form
theorem RowD.pl {A : Option Addr} {cap : Nat} {ps : List De} {hp : Hp} (h : RowD M (.slice A ps.length cap) ps hp) (hM : M.le M') (hi : In M' hp) : PlD M' A ps := by
  unfold RowD at h
  obtain ⟨cs, h1, h2, h3⟩ := h
  exact ⟨cs, h1.plIn hi, h2, fun i x c hx hc => (h3 i x c hx hc).mono hM⟩
theorem PlD.mono {A : Option Addr} {ps : List De} (hM : M.le M') (h : PlD M A ps) : PlD M' A ps := by
  obtain ⟨cs, h1, h2, h3⟩ := h
  exact ⟨cs, h1.mono hM, h2, fun i x c hx hc => (h3 i x c hx hc).mono hM⟩
theorem PlD.at {A : Option Addr} {ps : List De} (h : PlD M A ps) {i : Nat} (hi : i < ps.length) : ∃ b o c e fr d, A = some ⟨b, o, none⟩ ∧ M.at_ b = some (.cells c e fr) ∧ DeC M ps[i] d ∧ ∀ (q : Nat) u, d[q]? = some u → c[o + i * 5 + q]? = some u := by
  obtain ⟨cs, h1, h2, h3⟩ := h
  have hic : i < cs.length := by omega
  have hd := h3 i _ _ (List.getElem?_eq_getElem hi) (List.getElem?_eq_getElem hic)
  have hall : ∀ c ∈ cs, c.length = 5 := fun c hc => by
    obtain ⟨j, hj, rfl⟩ := List.mem_iff_getElem.1 hc
    exact (h3 j _ _ (List.getElem?_eq_getElem (by omega)) (List.getElem?_eq_getElem hj)).cells.1
  have hfl : ∀ (q : Nat) (u : Value), (cs[i])[q]? = some u → cs.flatten[i * 5 + q]? = some u := fun q u hq => rows_get hall hic hq
  have h0 : (cs[i])[0]? = some ((cs[i])[0]'(by rw [hall _ (List.getElem_mem hic)]; decide)) := List.getElem?_eq_getElem _
  obtain ⟨b, o, c, e, fr, g1, g2, _⟩ := h1.get (hfl 0 _ h0)
  refine ⟨b, o, c, e, fr, cs[i], g1, g2, hd, fun q u hq => ?_⟩
  obtain ⟨b', o', c', e', fr', g1', g2', g3'⟩ := h1.get (hfl q u hq)
  rw [g1] at g1'
  cases g1'
  rw [g2] at g2'
  cases g2'
  rw [Nat.add_assoc]
  exact g3'
end Go.Sx
end
section
namespace Go.Sx
open Go Go.Proofs Go.RowKit
attribute [local irreducible] C R Fin K Own OwnT Rd Pl Ok KOf RetOk OpsOf RP KP Res NoPanic KV KE MapS ItS EntS FsO FsR RowD PlD
variable {M M' : Mem} {H H1 H2 : Hp}
def tornF (F : Fs) (x : De) (torn : Int) : Fs := match x with
  | .app n b => if 0 < b.length ∧ 0 < (torn % (b.length : Int)).toNat then doF F (.app n (b.take (torn % (b.length : Int)).toNat)) else F
  | _ => F
def keepD (d : Dk) (keep : Int) : Nat := (keep % (d.ps.length + 1 : Nat)).toNat
def crashF (d : Dk) (keep torn : Int) : Fs := match d.ps[keepD d keep]? with
  | some x => tornF ((d.ps.take (keepD d keep)).foldl doF d.S) x torn
  | none => (d.ps.take (keepD d keep)).foldl doF d.S
def crashD (d : Dk) (keep torn : Int) : Dk := ⟨d.room, crashF d keep torn, [], -1, false⟩
theorem Runs.at : ∀ {ps : List De} {F : Fs}, Runs F ps → ∀ {i : Nat} (hi : i < ps.length), Fit ((ps.take i).foldl doF F) ps[i]
  | _ :: _, _, h, 0, _ => h.1
  | x :: _, F, h, i + 1, hi => Runs.at (F := doF F x) h.2 (Nat.lt_of_succ_lt_succ hi)
theorem Runs.sumAt : ∀ {ps : List De} {F : Fs}, sumF F ≤ 1048576 → Runs F ps → ∀ i, sumF ((ps.take i).foldl doF F) ≤ 1048576
  | [], _, h, _, i => by rw [List.take_nil]; exact h
  | _ :: _, _, h, _, 0 => h
  | x :: _, F, _, h, i + 1 => Runs.sumAt (F := doF F x) h.1.1 h.2 i
theorem foldl_nodup : ∀ {ps : List De} {F : Fs}, (keyS F).Nodup → (keyS (ps.foldl doF F)).Nodup
  | [], _, h => h
  | x :: ps, F, h => foldl_nodup (ps := ps) (F := doF F x) (doF_keys h)
theorem torn_fit {F : Fs} {n b : Txt} (hn : (keyS F).Nodup) (h : Fit F (.app n b)) (k : Nat) : Fit F (.app n (b.take k)) := by
  refine ⟨?_, trivial⟩
  have h0 := h.1
  have h1 := sumF_put (b := fileD F n ++ b) (n := n) hn
  have h2 := sumF_put (b := fileD F n ++ b.take k) (n := n) hn
  show sumF (putS F n (fileD F n ++ b.take k)) ≤ _
  change sumF (putS F n (fileD F n ++ b)) ≤ _ at h0
  rw [List.length_append] at h1 h2
  rw [List.length_take] at h2
  omega
theorem torn_sum {F : Fs} {x : De} {torn : Int} (hn : (keyS F).Nodup) (hs : sumF F ≤ 1048576) (h : Fit F x) : sumF (tornF F x torn) ≤ 1048576 := by
  cases x with
  | app n b =>
    unfold tornF
    dsimp only
    split
    · exact (torn_fit hn h _).1
    · exact hs
  | trc n k => exact hs
  | ren n t => exact hs
  | rem n => exact hs
structure CrX where
  i : Nat
  ii : Int
  so : Obj
  M : Mem
structure CrY where
  so : Obj
  M : Mem
theorem crash_K {db : Nat} {d : Dk} {hp : Hp} {keep torn : Int} (ho : DkO M db d hp) (hlen : d.ps.length ≤ 1000000) : K Try.prog 17 [.pointer (some ⟨db, 0, none⟩), .int .i64 keep, .int .i64 torn] M (hp ++ H) fun v' M' H' => v' = .int .i64 (keepD d keep : Int) ∧ M.le M' ∧ ∃ hp', DkO M' db (crashD d keep torn) hp' ∧ H' = hp' ++ H := by
  obtain ⟨hok, sb, nb, so, no, pv, hr, h1, h2, h3, rfl⟩ := ho
  have hnS := h1.nodup
  refine K.enterK Try.func17 rfl rfl rfl ?_
  intro Q hNP hQ
  apply C.ice (hp := hr) (H1 := (db, dkB d.room sb nb pv d.fuse d.down) :: (sb, so) :: H) (by ((try simp only [List.append_assoc, List.cons_append, List.nil_append, List.append_nil]); exact a_arr))
  intro M1 hM1 hin
  obtain ⟨A1, c1, rfl, hc1, hc2⟩ := h3.form
  unfold maxLen at hc2
  have h4 := h3.pl hM1 hin
  have h5 := h1.mono hM1
  clear h1 h2 h3 hin
  have hk0 : 0 ≤ keep % ((d.ps.length + 1 : Nat) : Int) := Int.emod_nonneg _ (by omega)
  have hk1 : keep % ((d.ps.length + 1 : Nat) : Int) < ((d.ps.length + 1 : Nat) : Int) := Int.emod_lt_of_pos _ (by omega)
  obtain ⟨k, hk⟩ : ∃ k, k = keepD d keep := ⟨_, rfl⟩
  have hkk : keep % ((d.ps.length + 1 : Nat) : Int) = (k : Int) := by rw [hk]; unfold keepD; omega
  have hkl : k ≤ d.ps.length := by omega
  unfold dkB
  (repeat' (first | refine a_go ?_ | (with_reducible apply Fin.thenK; assumption) | (with_reducible (first | apply C.seqK | apply C.regionK); intro _ _) | (apply R.buildSlice0; exact rfl; intro bz) | (apply R.box; exact rfl; (simp only [Value.cells]; rfl); exact rfl; intro bx) | (apply R.alloc; (simp only [Value.cells]; rfl); exact rfl; intro ba) | (apply R.buildSlice; (exact a_prt); exact rfl; exact rfl; (exact a_fills); exact rfl; intro bl) | (refine a_sp ?_ ?_; (intro h; skip; rotate_left; intro h; skip; rotate_left)) | fail))
  (apply R.call; (exact a_evs); exact rfl); exact within_K keep ((d.ps.length : Int) + 1) (by omega) (by omega); rintro _ M1 _ ⟨rfl, rfl, rfl⟩
  rw [show (d.ps.length : Int) + 1 = ((d.ps.length + 1 : Nat) : Int) by omega, hkk]
  (repeat' (first | (apply R.step; (apply Ok.move; exact rfl); exact rfl) | (apply R.step; (apply Ok.sliceHi; exact rfl; exact rfl; omega; omega); exact rfl) | refine a_go ?_ | (with_reducible apply Fin.thenK; assumption) | (with_reducible (first | apply C.seqK | apply C.regionK); intro _ _) | (apply R.buildSlice0; exact rfl; intro bz) | (apply R.box; exact rfl; (simp only [Value.cells]; rfl); exact rfl; intro bx) | (apply R.alloc; (simp only [Value.cells]; rfl); exact rfl; intro ba) | (apply R.buildSlice; (exact a_prt); exact rfl; exact rfl; (exact a_fills); exact rfl; intro bl) | (refine a_sp ?_ ?_; (intro h; skip; rotate_left; intro h; skip; rotate_left)) | fail))
  apply C.loop (fun y : CrX => (y.i : Int) = y.ii ∧ y.i ≤ k ∧ M1.le y.M ∧ FsO y.M y.so ((d.ps.take y.i).foldl doF d.S))
    (fun y => [(0, .pointer (some ⟨db, 0, none⟩)), (2, .int .i64 torn), (7, .int .i64 (k : Int)), (31, .slice A1 ((k : Int)).toNat c1), (32, .int .i64 (k : Int)), (33, .int .i64 y.ii)]) (fun y => y.M) (fun y => (db, .cells [.int .i64 d.room, .map (some sb), .map (some sb), .slice A1 d.ps.length c1, .int .i64 d.fuse, .bool d.down].toArray 76 (0, 0)) :: (sb, y.so) :: H) (fun y => k - y.i) ⟨0, 0, so, M1⟩
  · exact ⟨rfl, Nat.zero_le _, Mem.le_refl _, h5⟩
  · (exact a_subs)
  · exact rfl
  · exact rfl
  rintro ⟨i, ii, so1, M2⟩ ⟨hii, hik, hM2, hf⟩
  dsimp only at hii hik hM2 hf ⊢
  by_cases hlt : i < k
  · have hip : i < d.ps.length := by omega
    obtain ⟨b0, o0, cc, e0, f0, dc, rfl, hMb, hdc, hcell⟩ := (h4.mono hM2).at hip
    have hfit := hok.2.2.2.at hip
    have hc5 := hdc.cells
    obtain ⟨c0, d1, d2, d3, d4, rfl⟩ : ∃ c0 c1 c2 c3 c4, dc = [c0, c1, c2, c3, c4] := by
      match dc, hc5.1 with
      | [a, b, c, d, e], _ => exact ⟨a, b, c, d, e, rfl⟩
    have hcell2 : ∀ (q : Nat) u, [c0, d1, d2, d3, d4][q]? = some u → cc[o0 + ii.toNat * 5 + q]? = some u := fun q u hq => by
      rw [show ii.toNat = i by omega]
      exact hcell q u hq
    clear hcell
    (repeat' (first | refine a_go ?_ | (with_reducible apply Fin.thenK; assumption) | (with_reducible (first | apply C.seqK | apply C.regionK); intro _ _) | (apply R.buildSlice0; exact rfl; intro bz) | (apply R.box; exact rfl; (simp only [Value.cells]; rfl); exact rfl; intro bx) | (apply R.alloc; (simp only [Value.cells]; rfl); exact rfl; intro ba) | (apply R.buildSlice; (exact a_prt); exact rfl; exact rfl; (exact a_fills); exact rfl; intro bl) | (refine a_sp ?_ ?_; (intro h; skip; rotate_left; intro h; skip; rotate_left)) | fail))
    · (apply R.store (vs := [c0, d1, d2, d3, d4]); exact rfl; exact rfl; exact rfl; (exact a_at); (exact a_blit); exact rfl; exact hc5.2)
      (repeat' (first | refine a_go ?_ | (with_reducible apply Fin.thenK; assumption) | (with_reducible (first | apply C.seqK | apply C.regionK); intro _ _) | (apply R.buildSlice0; exact rfl; intro bz) | (apply R.box; exact rfl; (simp only [Value.cells]; rfl); exact rfl; intro bx) | (apply R.alloc; (simp only [Value.cells]; rfl); exact rfl; intro ba) | (apply R.buildSlice; (exact a_prt); exact rfl; exact rfl; (exact a_fills); exact rfl; intro bl) | (refine a_sp ?_ ?_; (intro h; skip; rotate_left; intro h; skip; rotate_left)) | fail))
      apply C.arr (H2 := (ba, .cells [c0, d1, d2, d3, d4].toArray 80 (0, 0)) :: (db, .cells [.int .i64 d.room, .map (some sb), .map (some sb), .slice (some ⟨b0, o0, none⟩) d.ps.length c1, .int .i64 d.fuse, .bool d.down].toArray 76 (0, 0)) :: (sb, so1) :: H) (by ((try simp only [List.append_assoc, List.cons_append, List.nil_append, List.append_nil]); exact a_arr))
      (apply C.regionO (ks := [1, 1, 1, 1, 1, 0]) (is := [0, 1, 2, 3, 4, 5]) (Hs := [(ba, .cells [c0, d1, d2, d3, d4].toArray 80 (0, 0)), (db, .cells [.int .i64 d.room, .map (some sb), .map (some sb), .slice (some ⟨b0, o0, none⟩) d.ps.length c1, .int .i64 d.fuse, .bool d.down].toArray 76 (0, 0))]); exact Mix.h; (first | exact Arr.all _ | (exact a_arr)); (exact a_np); (exact a_picked); kernel_rfl; intro _ e; subst e)
      (repeat' (first | (first | (apply RP.step; intro _ _ _; (exact a_ok); exact rfl) | (apply RP.stepT; exact rfl; exact rfl; exact rfl; intro _ _ _; (exact a_ok); exact rfl) | (apply RP.stepF; exact rfl; exact rfl; exact rfl; exact rfl; exact rfl) | (apply RP.effF; exact rfl; exact rfl; exact rfl; exact rfl; exact rfl)) | (apply RP.callQ; (exact a_evs); exact rfl)))
      (apply RP.eff; intro Kc hKc ops0)
      (apply R.call; (exact a_evs); exact rfl; (apply K.arr (h := does_K (nb := sb) hf hdc hfit)); ((try simp only [List.append_eq, List.append_assoc, List.cons_append, List.nil_append, List.append_nil]); exact a_arr); rintro _ M3 _ ⟨rfl, hM3, so2, hf3, rfl⟩)
      (apply R.nil; apply Fin.kpB (E := []) hKc; exact hM3; ((try simp only [List.append_eq, List.append_assoc, List.cons_append, List.nil_append, List.append_nil]); exact a_arr))
      (first | apply RP.nil0 | apply RP.nil)
      (repeat' (first | refine a_go ?_ | (with_reducible apply Fin.thenK; assumption) | (with_reducible (first | apply C.seqK | apply C.regionK); intro _ _) | (apply R.buildSlice0; exact rfl; intro bz) | (apply R.box; exact rfl; (simp only [Value.cells]; rfl); exact rfl; intro bx) | (apply R.alloc; (simp only [Value.cells]; rfl); exact rfl; intro ba) | (apply R.buildSlice; (exact a_prt); exact rfl; exact rfl; (exact a_fills); exact rfl; intro bl) | (refine a_sp ?_ ?_; (intro h; skip; rotate_left; intro h; skip; rotate_left)) | fail))
      apply Fin.arr (H2 := (db, .cells [.int .i64 d.room, .map (some sb), .map (some sb), .slice (some ⟨b0, o0, none⟩) d.ps.length c1, .int .i64 d.fuse, .bool d.down].toArray 76 (0, 0)) :: (sb, so2) :: H) (by ((try simp only [List.append_assoc, List.cons_append, List.nil_append, List.append_nil]); exact a_arr))
      refine Fin.again (⟨i + 1, ii + 1, so2, M3⟩ : CrX) ⟨by dsimp only; omega, by dsimp only; omega, hM2.trans_ hM3, ?_⟩ (by dsimp only; omega) ?_ rfl rfl
      · dsimp only
        rw [List.take_succ_eq_append_getElem hip, List.foldl_append]
        exact hf3
      (exact a_subs)
    all_goals (exfalso; omega)
  · have hie : i = k := by omega
    subst hie
    have hpre := Runs.sumAt hok.2.2.1 hok.2.2.2 i
    have hnp : (keyS ((d.ps.take i).foldl doF d.S)).Nodup := foldl_nodup hnS
    (repeat' (first | (apply R.step; (exact a_ok); exact rfl) | (first | (with_reducible first | apply R.nil | apply C.ret | apply C.block | apply C.skip | apply C.exit | apply Fin.thenRet | apply Fin.thenExit | apply Fin.blockNormal | apply Fin.blockRet | apply Fin.blockExit) | (with_reducible apply Fin.thenK; assumption) | (with_reducible apply C.seqR; intro _ _) | (with_reducible apply C.regionK; intro _ _) | (with_reducible apply Fin.blockOther; exact rfl)) | (first | (apply R.store; exact rfl; exact rfl; exact rfl; (exact a_at); (exact a_blit); exact rfl; (focus (simp [Value.oneCell']; done))) | (apply R.buildSlice0; exact rfl; intro bz) | (apply R.box; exact rfl; (simp only [Value.cells]; rfl); exact rfl; intro bx) | (apply R.alloc; (simp only [Value.cells]; rfl); exact rfl; intro ba) | (apply R.buildSlice; (exact a_prt); exact rfl; exact rfl; (exact a_fills); exact rfl; intro bl)) | (first | (apply R.guardT; assumption; exact rfl; exact rfl; exact rfl) | (apply R.guardF; assumption; exact rfl; exact rfl; exact rfl; exact rfl; exact rfl) | (apply R.guardU; assumption; exact rfl; exact rfl; exact rfl; exact rfl) | (apply R.guardDec; assumption; exact rfl; exact rfl; (intro h; skip; rotate_left; intro h; skip; rotate_left)) | (apply R.guardBeq; assumption; exact rfl; exact rfl; (intro h; skip; rotate_left; intro h; skip; rotate_left)) | (apply R.guardBne; assumption; exact rfl; exact rfl; (intro h; skip; rotate_left; intro h; skip; rotate_left)) | (apply R.guardNDec; assumption; exact rfl; exact rfl; (intro h; skip; rotate_left; intro h; skip; rotate_left)) | (apply R.guardNot; assumption; exact rfl; exact rfl; (intro h; skip; rotate_left; intro h; skip; rotate_left)) | (apply R.guardC; assumption; exact rfl; exact rfl; (intro h; skip; rotate_left; intro h; skip; rotate_left)))))
    (apply C.seqK; intro _ _)
    (apply C.condDec; exact rfl; (intro h; exfalso; omega); intro _)
    (repeat' (first | (apply R.step; (exact a_ok); exact rfl) | (first | (with_reducible first | apply R.nil | apply C.ret | apply C.block | apply C.skip | apply C.exit | apply Fin.thenRet | apply Fin.thenExit | apply Fin.blockNormal | apply Fin.blockRet | apply Fin.blockExit) | (with_reducible apply Fin.thenK; assumption) | (with_reducible apply C.seqR; intro _ _) | (with_reducible apply C.regionK; intro _ _) | (with_reducible apply Fin.blockOther; exact rfl)) | (first | (apply R.store; exact rfl; exact rfl; exact rfl; (exact a_at); (exact a_blit); exact rfl; (focus (simp [Value.oneCell']; done))) | (apply R.buildSlice0; exact rfl; intro bz) | (apply R.box; exact rfl; (simp only [Value.cells]; rfl); exact rfl; intro bx) | (apply R.alloc; (simp only [Value.cells]; rfl); exact rfl; intro ba) | (apply R.buildSlice; (exact a_prt); exact rfl; exact rfl; (exact a_fills); exact rfl; intro bl)) | (first | (apply R.guardT; assumption; exact rfl; exact rfl; exact rfl) | (apply R.guardF; assumption; exact rfl; exact rfl; exact rfl; exact rfl; exact rfl) | (apply R.guardU; assumption; exact rfl; exact rfl; exact rfl; exact rfl) | (apply R.guardDec; assumption; exact rfl; exact rfl; (intro h; skip; rotate_left; intro h; skip; rotate_left)) | (apply R.guardBeq; assumption; exact rfl; exact rfl; (intro h; skip; rotate_left; intro h; skip; rotate_left)) | (apply R.guardBne; assumption; exact rfl; exact rfl; (intro h; skip; rotate_left; intro h; skip; rotate_left)) | (apply R.guardNDec; assumption; exact rfl; exact rfl; (intro h; skip; rotate_left; intro h; skip; rotate_left)) | (apply R.guardNot; assumption; exact rfl; exact rfl; (intro h; skip; rotate_left; intro h; skip; rotate_left)) | (apply R.guardC; assumption; exact rfl; exact rfl; (intro h; skip; rotate_left; intro h; skip; rotate_left)))))
    have hno : d.ps.length ≤ i → crashF d keep torn = (d.ps.take i).foldl doF d.S := fun h => by
      unfold crashF
      rw [← hk, List.getElem?_eq_none h]
    have hyes : ∀ (h : i < d.ps.length), crashF d keep torn = tornF ((d.ps.take i).foldl doF d.S) d.ps[i] torn := fun h => by
      unfold crashF
      rw [← hk, List.getElem?_eq_getElem h]
    have hcs : sumF (crashF d keep torn) ≤ 1048576 := by
      by_cases hip : i < d.ps.length
      · rw [hyes hip]
        exact torn_sum hnp hpre (hok.2.2.2.at hip)
      · rw [hno (by omega)]
        exact hpre
    apply C.seqCut (X := CrY) (fun y => M1.le y.M ∧ FsO y.M y.so (crashF d keep torn)) (fun _ => [(0, .pointer (some ⟨db, 0, none⟩)), (7, .int .i64 (i : Int))]) (fun y => y.M) (fun y => (db, .cells [.int .i64 d.room, .map (some sb), .map (some sb), .slice A1 d.ps.length c1, .int .i64 d.fuse, .bool d.down].toArray 76 (0, 0)) :: (sb, y.so) :: H)
    · by_cases hip : i < d.ps.length
      · rw [hyes hip]
        have hfit := hok.2.2.2.at hip
        obtain ⟨b0, o0, cc, e0, f0, dc, rfl, hMb, hdc, hcell⟩ := (h4.mono hM2).at hip
        have hcell2 : ∀ (q : Nat) u, dc[q]? = some u → cc[o0 + ((i : Nat) : Int).toNat * 5 + q]? = some u := fun q u hq => hcell q u hq
        clear hcell hyes hno hcs
        generalize d.ps[i] = x at hdc hfit ⊢
        cases x with
        | trc n kk =>
          have hc5 := hdc.cells.2
          subst hdc
          (repeat' (first | refine a_go ?_ | (with_reducible apply Fin.thenK; assumption) | (with_reducible (first | apply C.seqK | apply C.regionK); intro _ _) | (apply R.buildSlice0; exact rfl; intro bz) | (apply R.box; exact rfl; (simp only [Value.cells]; rfl); exact rfl; intro bx) | (apply R.alloc; (simp only [Value.cells]; rfl); exact rfl; intro ba) | (apply R.buildSlice; (exact a_prt); exact rfl; exact rfl; (exact a_fills); exact rfl; intro bl) | (refine a_sp ?_ ?_; (intro h; skip; rotate_left; intro h; skip; rotate_left)) | fail))
          · (apply R.store (vs := [.int .i64 1, str n, str [], .slice none 0 0, .int .i64 ↑kk]); exact rfl; exact rfl; exact rfl; (exact a_at); (exact a_blit); exact rfl; exact hc5)
            (repeat' (first | refine a_go ?_ | (with_reducible apply Fin.thenK; assumption) | (with_reducible (first | apply C.seqK | apply C.regionK); intro _ _) | (apply R.buildSlice0; exact rfl; intro bz) | (apply R.box; exact rfl; (simp only [Value.cells]; rfl); exact rfl; intro bx) | (apply R.alloc; (simp only [Value.cells]; rfl); exact rfl; intro ba) | (apply R.buildSlice; (exact a_prt); exact rfl; exact rfl; (exact a_fills); exact rfl; intro bl) | (refine a_sp ?_ ?_; (intro h; skip; rotate_left; intro h; skip; rotate_left)) | fail))
            apply Fin.arr (H2 := (db, .cells [.int .i64 d.room, .map (some sb), .map (some sb), .slice (some ⟨b0, o0, none⟩) d.ps.length c1, .int .i64 d.fuse, .bool d.down].toArray 76 (0, 0)) :: (sb, so1) :: H) (by ((try simp only [List.append_assoc, List.cons_append, List.nil_append, List.append_nil]); exact a_arr))
            refine Fin.join (⟨so1, M2⟩ : CrY) ⟨hM2, hf⟩ ?_ rfl rfl
            (exact a_subs)
          all_goals (exfalso; omega)
        | ren n t =>
          have hc5 := hdc.cells.2
          subst hdc
          (repeat' (first | refine a_go ?_ | (with_reducible apply Fin.thenK; assumption) | (with_reducible (first | apply C.seqK | apply C.regionK); intro _ _) | (apply R.buildSlice0; exact rfl; intro bz) | (apply R.box; exact rfl; (simp only [Value.cells]; rfl); exact rfl; intro bx) | (apply R.alloc; (simp only [Value.cells]; rfl); exact rfl; intro ba) | (apply R.buildSlice; (exact a_prt); exact rfl; exact rfl; (exact a_fills); exact rfl; intro bl) | (refine a_sp ?_ ?_; (intro h; skip; rotate_left; intro h; skip; rotate_left)) | fail))
          · (apply R.store (vs := [.int .i64 2, str n, str t, .slice none 0 0, .int .i64 0]); exact rfl; exact rfl; exact rfl; (exact a_at); (exact a_blit); exact rfl; exact hc5)
            (repeat' (first | refine a_go ?_ | (with_reducible apply Fin.thenK; assumption) | (with_reducible (first | apply C.seqK | apply C.regionK); intro _ _) | (apply R.buildSlice0; exact rfl; intro bz) | (apply R.box; exact rfl; (simp only [Value.cells]; rfl); exact rfl; intro bx) | (apply R.alloc; (simp only [Value.cells]; rfl); exact rfl; intro ba) | (apply R.buildSlice; (exact a_prt); exact rfl; exact rfl; (exact a_fills); exact rfl; intro bl) | (refine a_sp ?_ ?_; (intro h; skip; rotate_left; intro h; skip; rotate_left)) | fail))
            apply Fin.arr (H2 := (db, .cells [.int .i64 d.room, .map (some sb), .map (some sb), .slice (some ⟨b0, o0, none⟩) d.ps.length c1, .int .i64 d.fuse, .bool d.down].toArray 76 (0, 0)) :: (sb, so1) :: H) (by ((try simp only [List.append_assoc, List.cons_append, List.nil_append, List.append_nil]); exact a_arr))
            refine Fin.join (⟨so1, M2⟩ : CrY) ⟨hM2, hf⟩ ?_ rfl rfl
            (exact a_subs)
          all_goals (exfalso; omega)
        | rem n =>
          have hc5 := hdc.cells.2
          subst hdc
          (repeat' (first | refine a_go ?_ | (with_reducible apply Fin.thenK; assumption) | (with_reducible (first | apply C.seqK | apply C.regionK); intro _ _) | (apply R.buildSlice0; exact rfl; intro bz) | (apply R.box; exact rfl; (simp only [Value.cells]; rfl); exact rfl; intro bx) | (apply R.alloc; (simp only [Value.cells]; rfl); exact rfl; intro ba) | (apply R.buildSlice; (exact a_prt); exact rfl; exact rfl; (exact a_fills); exact rfl; intro bl) | (refine a_sp ?_ ?_; (intro h; skip; rotate_left; intro h; skip; rotate_left)) | fail))
          · (apply R.store (vs := [.int .i64 3, str n, str [], .slice none 0 0, .int .i64 0]); exact rfl; exact rfl; exact rfl; (exact a_at); (exact a_blit); exact rfl; exact hc5)
            (repeat' (first | refine a_go ?_ | (with_reducible apply Fin.thenK; assumption) | (with_reducible (first | apply C.seqK | apply C.regionK); intro _ _) | (apply R.buildSlice0; exact rfl; intro bz) | (apply R.box; exact rfl; (simp only [Value.cells]; rfl); exact rfl; intro bx) | (apply R.alloc; (simp only [Value.cells]; rfl); exact rfl; intro ba) | (apply R.buildSlice; (exact a_prt); exact rfl; exact rfl; (exact a_fills); exact rfl; intro bl) | (refine a_sp ?_ ?_; (intro h; skip; rotate_left; intro h; skip; rotate_left)) | fail))
            apply Fin.arr (H2 := (db, .cells [.int .i64 d.room, .map (some sb), .map (some sb), .slice (some ⟨b0, o0, none⟩) d.ps.length c1, .int .i64 d.fuse, .bool d.down].toArray 76 (0, 0)) :: (sb, so1) :: H) (by ((try simp only [List.append_assoc, List.cons_append, List.nil_append, List.append_nil]); exact a_arr))
            refine Fin.join (⟨so1, M2⟩ : CrY) ⟨hM2, hf⟩ ?_ rfl rfl
            (exact a_subs)
          all_goals (exfalso; omega)
        | app n b =>
          have hc5 := hdc.cells.2
          obtain ⟨bb, rfl, hbv⟩ := hdc
          obtain ⟨A2, c2, rfl, hb1, hb2, hb3⟩ := id hbv
          have hbl : b.length ≤ 1048576 := by
            have h1 : fileD (doF ((d.ps.take i).foldl doF d.S) (.app n b)) n = fileD ((d.ps.take i).foldl doF d.S) n ++ b := fileD_put hnp
            have h2 : (fileD (doF ((d.ps.take i).foldl doF d.S) (.app n b)) n).length ≤ 1048576 := Nat.le_trans fileD_len hfit.1
            rw [h1, List.length_append] at h2
            omega
          (repeat' (first | refine a_go ?_ | (with_reducible apply Fin.thenK; assumption) | (with_reducible (first | apply C.seqK | apply C.regionK); intro _ _) | (apply R.buildSlice0; exact rfl; intro bz) | (apply R.box; exact rfl; (simp only [Value.cells]; rfl); exact rfl; intro bx) | (apply R.alloc; (simp only [Value.cells]; rfl); exact rfl; intro ba) | (apply R.buildSlice; (exact a_prt); exact rfl; exact rfl; (exact a_fills); exact rfl; intro bl) | (refine a_sp ?_ ?_; (intro h; skip; rotate_left; intro h; skip; rotate_left)) | fail))
          · (apply R.store (vs := [.int .i64 0, str n, str [], .slice A2 b.length c2, .int .i64 0]); exact rfl; exact rfl; exact rfl; (exact a_at); (exact a_blit); exact rfl; exact hc5)
            (repeat' (first | refine a_go ?_ | (with_reducible apply Fin.thenK; assumption) | (with_reducible (first | apply C.seqK | apply C.regionK); intro _ _) | (apply R.buildSlice0; exact rfl; intro bz) | (apply R.box; exact rfl; (simp only [Value.cells]; rfl); exact rfl; intro bx) | (apply R.alloc; (simp only [Value.cells]; rfl); exact rfl; intro ba) | (apply R.buildSlice; (exact a_prt); exact rfl; exact rfl; (exact a_fills); exact rfl; intro bl) | (refine a_sp ?_ ?_; (intro h; skip; rotate_left; intro h; skip; rotate_left)) | fail))
            · have hb0 : 0 < b.length := by
                have h : (0 : Int) < (b.length : Int) := by assumption
                omega
              have ht0 : 0 ≤ torn % (b.length : Int) := Int.emod_nonneg _ (by omega)
              have ht1 : torn % (b.length : Int) < (b.length : Int) := Int.emod_lt_of_pos _ (by omega)
              obtain ⟨tn, htn⟩ : ∃ tn : Nat, torn % (b.length : Int) = (tn : Int) := ⟨_, (Int.toNat_of_nonneg ht0).symm⟩
              (apply C.regionE (isA := [0, 1, 2, 3, 4, 5, 6, 7]) (ksA := [true, true, true, true, true, true, false, true]) (isB := [8, 9]) (ksB := [1, 0]) (Hs := [(ba, .cells [.int .i64 0, str n, str [], .slice A2 b.length c2, .int .i64 0].toArray 80 (0, 0))]); exact Mix.h; (first | exact Arr.all _ | (exact a_arr)); (exact a_np); (exact a_picked); (exact a_picked); kernel_rfl; intro _ e; subst e)
              (repeat' (first | fail | (apply RQ.step; intro _ _ _; (exact a_ok); exact rfl) | (apply RQ.stepT; exact rfl; exact rfl; exact rfl; intro _ _ _; (exact a_ok); exact rfl) | (apply RQ.stepF; exact rfl; exact rfl; exact rfl; exact rfl; exact rfl)))
              (apply RQ.eff; intro Kc hKc ops0)
              (apply R.call; (exact a_evs); exact rfl); exact within_K torn (b.length : Int) (by omega) (by omega); rintro _ M2 _ ⟨rfl, rfl, rfl⟩
              (apply R.nil; apply Fin.kq hKc; exact Mem.le_refl _; (exact a_arr))
              rw [htn]
              (repeat' (first | (apply RQ.step; intro _ _ _; (apply Ok.sliceHi; exact rfl; exact rfl; omega; omega); exact rfl) | (apply RQ.step; intro _ _ _; (exact a_ok); exact rfl) | (apply RQ.stepT; exact rfl; exact rfl; exact rfl; intro _ _ _; (exact a_ok); exact rfl) | (apply RQ.stepF; exact rfl; exact rfl; exact rfl; exact rfl; exact rfl)))
              apply RQ.nil
              (repeat' (first | (first | (apply RP.step; intro _ _ _; (exact a_ok); exact rfl) | (apply RP.stepT; exact rfl; exact rfl; exact rfl; intro _ _ _; (exact a_ok); exact rfl) | (apply RP.stepF; exact rfl; exact rfl; exact rfl; exact rfl; exact rfl) | (apply RP.effF; exact rfl; exact rfl; exact rfl; exact rfl; exact rfl)) | (apply RP.callQ; (exact a_evs); exact rfl)))
              (apply RP.eff; intro Kc hKc ops0)
              (apply R.store (vs := [.slice A2 ((tn : Int)).toNat c2]); exact rfl; exact rfl; exact rfl; (exact a_at); (exact a_blit); exact rfl; (intro u hu; rw [List.mem_singleton] at hu; rw [hu]; rfl))
              (apply R.nil; apply Fin.kp hKc; exact Mem.le_refl _; (exact a_arr))
              (first | apply RP.nil0 | apply RP.nil)
              have htl : (b.take tn).length = ((tn : Int)).toNat := by rw [List.length_take]; omega
              have hb4 : PlB M2 (.slice A2 ((tn : Int)).toNat c2) (b.take tn) := ⟨A2, c2, by rw [htl], by omega, hb2, by rw [List.map_take]; exact hb3.take tn⟩
              (repeat' (first | refine a_go ?_ | (with_reducible apply Fin.thenK; assumption) | (with_reducible (first | apply C.seqK | apply C.regionK); intro _ _) | (apply R.buildSlice0; exact rfl; intro bz) | (apply R.box; exact rfl; (simp only [Value.cells]; rfl); exact rfl; intro bx) | (apply R.alloc; (simp only [Value.cells]; rfl); exact rfl; intro ba) | (apply R.buildSlice; (exact a_prt); exact rfl; exact rfl; (exact a_fills); exact rfl; intro bl) | (refine a_sp ?_ ?_; (intro h; skip; rotate_left; intro h; skip; rotate_left)) | fail))
              · have hpos : 0 < tn := by
                  have h : (0 : Int) < (((tn : Int)).toNat : Int) := by assumption
                  omega
                have hE : tornF ((d.ps.take i).foldl doF d.S) (.app n b) torn = doF ((d.ps.take i).foldl doF d.S) (.app n (b.take tn)) := by
                  unfold tornF
                  dsimp only
                  rw [htn]
                  exact if_pos ⟨hb0, hpos⟩
                rw [hE]
                apply C.arr (H2 := (ba, .cells [.int .i64 0, str n, str [], .slice A2 ((tn : Int)).toNat c2, .int .i64 0].toArray 80 (0, 0)) :: (db, .cells [.int .i64 d.room, .map (some sb), .map (some sb), .slice (some ⟨b0, o0, none⟩) d.ps.length c1, .int .i64 d.fuse, .bool d.down].toArray 76 (0, 0)) :: (sb, so1) :: H) (by ((try simp only [List.append_assoc, List.cons_append, List.nil_append, List.append_nil]); exact a_arr))
                (apply C.regionO (ks := [1, 1, 1, 1, 1, 0]) (is := [0, 1, 2, 3, 4, 5]) (Hs := [(ba, .cells [.int .i64 0, str n, str [], .slice A2 (Int.toNat ↑tn) c2, .int .i64 0].toArray 80 (0, 0)), (db, .cells [.int .i64 d.room, .map (some sb), .map (some sb), .slice (some ⟨b0, o0, none⟩) d.ps.length c1, .int .i64 d.fuse, .bool d.down].toArray 76 (0, 0))]); exact Mix.h; (first | exact Arr.all _ | (exact a_arr)); (exact a_np); (exact a_picked); kernel_rfl; intro _ e; subst e)
                (repeat' (first | (first | (apply RP.step; intro _ _ _; (exact a_ok); exact rfl) | (apply RP.stepT; exact rfl; exact rfl; exact rfl; intro _ _ _; (exact a_ok); exact rfl) | (apply RP.stepF; exact rfl; exact rfl; exact rfl; exact rfl; exact rfl) | (apply RP.effF; exact rfl; exact rfl; exact rfl; exact rfl; exact rfl)) | (apply RP.callQ; (exact a_evs); exact rfl)))
                (apply RP.eff; intro Kc hKc ops0)
                (apply R.call; (exact a_evs); exact rfl; (apply K.arr (h := does_K (nb := sb) (x := .app n (b.take tn)) hf ⟨_, rfl, hb4⟩ (torn_fit hnp hfit tn))); ((try simp only [List.append_eq, List.append_assoc, List.cons_append, List.nil_append, List.append_nil]); exact a_arr); rintro _ M3 _ ⟨rfl, hM3, so2, hf3, rfl⟩)
                (apply R.nil; apply Fin.kpB (E := []) hKc; exact hM3; ((try simp only [List.append_eq, List.append_assoc, List.cons_append, List.nil_append, List.append_nil]); exact a_arr))
                (first | apply RP.nil0 | apply RP.nil)
                (repeat' (first | refine a_go ?_ | (with_reducible apply Fin.thenK; assumption) | (with_reducible (first | apply C.seqK | apply C.regionK); intro _ _) | (apply R.buildSlice0; exact rfl; intro bz) | (apply R.box; exact rfl; (simp only [Value.cells]; rfl); exact rfl; intro bx) | (apply R.alloc; (simp only [Value.cells]; rfl); exact rfl; intro ba) | (apply R.buildSlice; (exact a_prt); exact rfl; exact rfl; (exact a_fills); exact rfl; intro bl) | (refine a_sp ?_ ?_; (intro h; skip; rotate_left; intro h; skip; rotate_left)) | fail))
                apply Fin.arr (H2 := (db, .cells [.int .i64 d.room, .map (some sb), .map (some sb), .slice (some ⟨b0, o0, none⟩) d.ps.length c1, .int .i64 d.fuse, .bool d.down].toArray 76 (0, 0)) :: (sb, so2) :: H) (by ((try simp only [List.append_assoc, List.cons_append, List.nil_append, List.append_nil]); exact a_arr))
                refine Fin.join (⟨so2, M3⟩ : CrY) ⟨hM2.trans_ hM3, hf3⟩ ?_ rfl rfl
                (exact a_subs)
              · have hz : tn = 0 := by
                  have h : ¬ (0 : Int) < (((tn : Int)).toNat : Int) := by assumption
                  omega
                have hE : tornF ((d.ps.take i).foldl doF d.S) (.app n b) torn = (d.ps.take i).foldl doF d.S := by
                  unfold tornF
                  dsimp only
                  rw [htn]
                  exact if_neg (fun h => by have := h.2; omega)
                rw [hE]
                apply Fin.arr (H2 := (db, .cells [.int .i64 d.room, .map (some sb), .map (some sb), .slice (some ⟨b0, o0, none⟩) d.ps.length c1, .int .i64 d.fuse, .bool d.down].toArray 76 (0, 0)) :: (sb, so1) :: H) (by ((try simp only [List.append_assoc, List.cons_append, List.nil_append, List.append_nil]); exact a_arr))
                refine Fin.join (⟨so1, M2⟩ : CrY) ⟨hM2, hf⟩ ?_ rfl rfl
                (exact a_subs)
            · have hz : ¬ 0 < b.length := by
                have h : ¬ (0 : Int) < (b.length : Int) := by assumption
                omega
              have hE : tornF ((d.ps.take i).foldl doF d.S) (.app n b) torn = (d.ps.take i).foldl doF d.S := if_neg (fun h => hz h.1)
              rw [hE]
              apply Fin.arr (H2 := (db, .cells [.int .i64 d.room, .map (some sb), .map (some sb), .slice (some ⟨b0, o0, none⟩) d.ps.length c1, .int .i64 d.fuse, .bool d.down].toArray 76 (0, 0)) :: (sb, so1) :: H) (by ((try simp only [List.append_assoc, List.cons_append, List.nil_append, List.append_nil]); exact a_arr))
              refine Fin.join (⟨so1, M2⟩ : CrY) ⟨hM2, hf⟩ ?_ rfl rfl
              (exact a_subs)
          all_goals (exfalso; omega)
      · rw [hno (by omega)]
        (repeat' (first | refine a_go ?_ | (with_reducible apply Fin.thenK; assumption) | (with_reducible (first | apply C.seqK | apply C.regionK); intro _ _) | (apply R.buildSlice0; exact rfl; intro bz) | (apply R.box; exact rfl; (simp only [Value.cells]; rfl); exact rfl; intro bx) | (apply R.alloc; (simp only [Value.cells]; rfl); exact rfl; intro ba) | (apply R.buildSlice; (exact a_prt); exact rfl; exact rfl; (exact a_fills); exact rfl; intro bl) | (refine a_sp ?_ ?_; (intro h; skip; rotate_left; intro h; skip; rotate_left)) | fail))
        · exfalso; omega
        · refine Fin.join (⟨so1, M2⟩ : CrY) ⟨hM2, hf⟩ ?_ rfl rfl
          (exact a_subs)
    · rintro ⟨so2, M3⟩ ⟨hM3, hf3⟩
      dsimp only at hM3 hf3 ⊢
      (repeat' (first | refine a_go ?_ | (with_reducible apply Fin.thenK; assumption) | (with_reducible (first | apply C.seqK | apply C.regionK); intro _ _) | (apply R.buildSlice0; exact rfl; intro bz) | (apply R.box; exact rfl; (simp only [Value.cells]; rfl); exact rfl; intro bx) | (apply R.alloc; (simp only [Value.cells]; rfl); exact rfl; intro ba) | (apply R.buildSlice; (exact a_prt); exact rfl; exact rfl; (exact a_fills); exact rfl; intro bl) | (refine a_sp ?_ ?_; (intro h; skip; rotate_left; intro h; skip; rotate_left)) | fail))
      (apply R.call; (exact a_evs); exact rfl; (apply K.arr (h := settle_K (db := db) (sb := sb) (nb := sb) (room := d.room) (fuse := d.fuse) (down := d.down) (pv := .slice A1 d.ps.length c1) (H := H) hf3)); ((try simp only [List.append_assoc, List.cons_append, List.nil_append, List.append_nil]); exact a_arr); rintro _ M3 _ ⟨rfl, rfl, sb', so', f1, rfl⟩)
      (repeat' (first | refine a_go ?_ | (with_reducible apply Fin.thenK; assumption) | (with_reducible (first | apply C.seqK | apply C.regionK); intro _ _) | (apply R.buildSlice0; exact rfl; intro bz) | (apply R.box; exact rfl; (simp only [Value.cells]; rfl); exact rfl; intro bx) | (apply R.alloc; (simp only [Value.cells]; rfl); exact rfl; intro ba) | (apply R.buildSlice; (exact a_prt); exact rfl; exact rfl; (exact a_fills); exact rfl; intro bl) | (refine a_sp ?_ ?_; (intro h; skip; rotate_left; intro h; skip; rotate_left)) | fail))
      (apply Fin.returnA (H2 := (db, dkB d.room sb' sb (.slice none 0 0) (-1) false) :: (sb, so2) :: (sb', so') :: H); assumption; (first | exact .inl rfl | exact .inr rfl); exact rfl; (exact a_res); (simp only [retv]; rfl); (exact a_arr))
      exact ⟨by rw [hk], hM1.trans_ hM3, (db, dkB d.room sb' sb (.slice none 0 0) (-1) false) :: (sb, so2) :: (sb', so') :: [], ⟨⟨hok.1, ⟨Int.le_refl _, show (-1 : Int) ≤ 4611686018427387904 by decide⟩, hcs, trivial⟩, sb', sb, so', so2, .slice none 0 0, [], f1, hf3, RowD.nil, rfl⟩, rfl⟩
end Go.Sx
end
section
namespace Go.Sx
open Go Go.Proofs Go.RowKit
attribute [local irreducible] C R Fin K Own OwnT Rd Pl Ok KOf RetOk OpsOf RP KP Res NoPanic KV KE MapS ItS EntS FsO FsR RowD PlD
variable {M M' : Mem} {H H1 H2 : Hp}
theorem pending_K {db sb nb : Nat} {room fuse : Int} {A : Option Addr} {m c : Nat} {down : Bool} : K Try.prog 20 [.pointer (some ⟨db, 0, none⟩)] M ((db, dkB room sb nb (.slice A m c) fuse down) :: H) fun v' M' H' => v' = .int .i64 (m : Int) ∧ M' = M ∧ H' = (db, dkB room sb nb (.slice A m c) fuse down) :: H := by
  refine K.enterK Try.func20 rfl rfl rfl ?_
  intro Q hNP hQ
  unfold dkB at hQ ⊢
  (repeat' (first | refine a_go ?_ | (with_reducible apply Fin.thenK; assumption) | (with_reducible (first | apply C.seqK | apply C.regionK); intro _ _) | (apply R.buildSlice0; exact rfl; intro bz) | (apply R.box; exact rfl; (simp only [Value.cells]; rfl); exact rfl; intro bx) | (apply R.alloc; (simp only [Value.cells]; rfl); exact rfl; intro ba) | (apply R.buildSlice; (exact a_prt); exact rfl; exact rfl; (exact a_fills); exact rfl; intro bl) | (refine a_sp ?_ ?_; (intro h; skip; rotate_left; intro h; skip; rotate_left)) | fail))
  (refine Fin.rt ?_)
  exact ⟨rfl, rfl, rfl⟩
theorem pending_KD {db : Nat} {d : Dk} {hp : Hp} (ho : DkO M db d hp) : K Try.prog 20 [.pointer (some ⟨db, 0, none⟩)] M (hp ++ H) fun v' M' H' => v' = .int .i64 (d.ps.length : Int) ∧ M' = M ∧ H' = hp ++ H := by
  obtain ⟨h0, sb, nb, so, no, pv, hr, h1, h2, h3, rfl⟩ := ho
  obtain ⟨A, c, rfl, _, _⟩ := h3.form
  exact pending_K
end Go.Sx
end
section
namespace Go.Sx
open Go Go.Proofs Go.RowKit
attribute [local irreducible] C R Fin K Own OwnT Rd Pl Ok KOf RetOk OpsOf RP KP Res NoPanic KV KE MapS ItS EntS FsO FsR RowD PlD
variable {M M' : Mem} {H H1 H2 : Hp}
theorem DkO.isok {db : Nat} {d : Dk} {hp : Hp} (h : DkO M db d hp) : d.ok := h.1
theorem down_K {db sb nb : Nat} {room fuse : Int} {pv : Value} {down : Bool} : K Try.prog 22 [.pointer (some ⟨db, 0, none⟩)] M ((db, dkB room sb nb pv fuse down) :: H) fun v' M' H' => v' = .bool down ∧ M' = M ∧ H' = (db, dkB room sb nb pv fuse down) :: H := by
  refine K.enterK Try.func22 rfl rfl rfl ?_
  intro Q hNP hQ
  unfold dkB at hQ ⊢
  (repeat' (first | refine a_go ?_ | (with_reducible apply Fin.thenK; assumption) | (with_reducible (first | apply C.seqK | apply C.regionK); intro _ _) | (apply R.buildSlice0; exact rfl; intro bz) | (apply R.box; exact rfl; (simp only [Value.cells]; rfl); exact rfl; intro bx) | (apply R.alloc; (simp only [Value.cells]; rfl); exact rfl; intro ba) | (apply R.buildSlice; (exact a_prt); exact rfl; exact rfl; (exact a_fills); exact rfl; intro bl) | (refine a_sp ?_ ?_; (intro h; skip; rotate_left; intro h; skip; rotate_left)) | fail))
  (refine Fin.rt ?_)
  exact ⟨rfl, rfl, rfl⟩
theorem down_KD {db : Nat} {d : Dk} {hp : Hp} (ho : DkO M db d hp) : K Try.prog 22 [.pointer (some ⟨db, 0, none⟩)] M (hp ++ H) fun v' M' H' => v' = .bool d.down ∧ M' = M ∧ H' = hp ++ H := by
  obtain ⟨h0, sb, nb, so, no, pv, hr, h1, h2, h3, rfl⟩ := ho
  exact down_K
theorem dused_KD {db : Nat} {d : Dk} {hp : Hp} (ho : DkO M db d hp) : K Try.prog 40 [.pointer (some ⟨db, 0, none⟩)] M (hp ++ H) fun v' M' H' => v' = .int .i64 (usedD d.down d.now : Int) ∧ M' = M ∧ H' = hp ++ H := by
  have hs := ho.1.sum
  obtain ⟨h0, sb, nb, so, no, pv, hr, h1, h2, h3, rfl⟩ := ho
  exact used_K h2 (by omega)
end Go.Sx
end
section
namespace Go.Sx
open Go Go.Proofs Go.RowKit
attribute [local irreducible] C R Fin K Own OwnT Rd Pl Ok KOf RetOk OpsOf RP KP Res NoPanic KV KE MapS ItS EntS FsO FsR RowD
variable {M M' : Mem} {H H1 H2 : Hp}
theorem truncate_K {db : Nat} {d : Dk} {hp : Hp} {n : Txt} {k : Int} (ho : DkO M db d hp) (hlen : d.ps.length ≤ 1000000) : K Try.prog 52 [.pointer (some ⟨db, 0, none⟩), str n, .int .i64 k] M (hp ++ H) fun v' M' H' => v' = .int .i64 (trcE d n k) ∧ M.le M' ∧ ∃ hp', DkO M' db (opD (trcE d n k) d (.trc n k.toNat)) hp' ∧ H' = hp' ++ H := by
  refine K.enterK Try.func52 rfl rfl rfl ?_
  intro Q hNP hQ
  (repeat' (first | refine a_go ?_ | (with_reducible apply Fin.thenK; assumption) | (with_reducible (first | apply C.seqK | apply C.regionK); intro _ _) | (apply R.buildSlice0; exact rfl; intro bz) | (apply R.box; exact rfl; (simp only [Value.cells]; rfl); exact rfl; intro bx) | (apply R.alloc; (simp only [Value.cells]; rfl); exact rfl; intro ba) | (apply R.buildSlice; (exact a_prt); exact rfl; exact rfl; (exact a_fills); exact rfl; intro bl) | (refine a_sp ?_ ?_; (intro h; skip; rotate_left; intro h; skip; rotate_left)) | fail))
  (apply R.call; (exact a_evs); exact rfl); exact counts_KD ho; rintro _ M _ ⟨rfl, rfl, hp1, ho1, rfl, hdn⟩
  have hnn := ho.nodup
  have hok := ho.1
  clear ho
  by_cases hs : stopD d
  · rw [decide_eq_true hs]
    have hE : trcE d n k = 3 := if_pos hs
    rw [hE] at hQ
    (repeat' (first | refine a_go ?_ | (with_reducible apply Fin.thenK; assumption) | (with_reducible (first | apply C.seqK | apply C.regionK); intro _ _) | (apply R.buildSlice0; exact rfl; intro bz) | (apply R.box; exact rfl; (simp only [Value.cells]; rfl); exact rfl; intro bx) | (apply R.alloc; (simp only [Value.cells]; rfl); exact rfl; intro ba) | (apply R.buildSlice; (exact a_prt); exact rfl; exact rfl; (exact a_fills); exact rfl; intro bl) | (refine a_sp ?_ ?_; (intro h; skip; rotate_left; intro h; skip; rotate_left)) | fail))
    (apply Fin.returnA (H2 := hp1 ++ H); assumption; (first | exact .inl rfl | exact .inr rfl); exact rfl; (exact a_res); (simp only [retv]; rfl); (exact a_arr))
    exact ⟨rfl, Mem.le_refl _, hp1, ho1, rfl⟩
  rw [decide_eq_false hs]
  obtain ⟨hok1, sb, nb, so, no, pv, hr, h1, h2, h3, rfl⟩ := ho1
  rw [cntD_now] at h2
  rw [hdn hs, cntD_room]
  unfold dkB
  obtain ⟨l, hm, hfr, hn⟩ := h2.use
  obtain ⟨⟨A1, c1, e1, _, _, _⟩, hg⟩ := hfr.get hn n
  have hbad : ∀ H', H' = (db, dkB d.room sb nb pv (cntD d).fuse false) :: (nb, no) :: (sb, so) :: (hr ++ H) → trcE d n k = 1 → ∃ hp', DkO M db (opD (trcE d n k) d (.trc n k.toNat)) hp' ∧ H' = hp' ++ H := fun H' hH hE => by
    rw [hE]
    exact ⟨_, DkO.no (sb := sb) (nb := nb) (by decide) hok1 hs h1 h2 h3, hH⟩
  (repeat' (first | (apply R.step; (apply Ok.move; exact rfl); exact rfl) | (apply R.step; (apply Ok.lookupS (ho := hm); exact rfl; exact rfl; exact a_mm); exact rfl) | refine a_go ?_ | (with_reducible apply Fin.thenK; assumption) | (with_reducible (first | apply C.seqK | apply C.regionK); intro _ _) | (apply R.buildSlice0; exact rfl; intro bz) | (apply R.box; exact rfl; (simp only [Value.cells]; rfl); exact rfl; intro bx) | (apply R.alloc; (simp only [Value.cells]; rfl); exact rfl; intro ba) | (apply R.buildSlice; (exact a_prt); exact rfl; exact rfl; (exact a_fills); exact rfl; intro bl) | (refine a_sp ?_ ?_; (intro h; skip; rotate_left; intro h; skip; rotate_left)) | fail))
  · have h : (getS l n).isSome = false := by assumption
    have hE : trcE d n k = 4 := (if_neg hs).trans (if_pos (is_none (by rw [← hg]; exact h)))
    rw [hE] at hQ
    (apply Fin.returnA (H2 := (db, dkB d.room sb nb pv (cntD d).fuse false) :: (nb, no) :: (sb, so) :: (hr ++ H)); assumption; (first | exact .inl rfl | exact .inr rfl); exact rfl; (exact a_res); (simp only [retv]; rfl); (exact a_arr))
    exact ⟨rfl, Mem.le_refl _, _, DkO.no (sb := sb) (nb := nb) (by decide) hok1 hs h1 h2 h3, rfl⟩
  · have h : (getS l n).isSome = true := by assumption
    have h5 : k < 0 := by assumption
    have hE : trcE d n k = 1 := (if_neg hs).trans ((if_neg (is_some (by rw [← hg]; exact h))).trans (if_pos (.inl h5)))
    (apply Fin.returnA (H2 := (db, dkB d.room sb nb pv (cntD d).fuse false) :: (nb, no) :: (sb, so) :: (hr ++ H)); assumption; (first | exact .inl rfl | exact .inr rfl); exact rfl; (exact a_res); (simp only [retv]; rfl); (exact a_arr))
    exact ⟨by rw [hE], Mem.le_refl _, hbad _ rfl hE⟩
  have hsm : (getS l n).isSome = true := by assumption
  have h5 : ¬ k < 0 := by assumption
  rw [e1]
  (repeat' (first | refine a_go ?_ | (with_reducible apply Fin.thenK; assumption) | (with_reducible (first | apply C.seqK | apply C.regionK); intro _ _) | (apply R.buildSlice0; exact rfl; intro bz) | (apply R.box; exact rfl; (simp only [Value.cells]; rfl); exact rfl; intro bx) | (apply R.alloc; (simp only [Value.cells]; rfl); exact rfl; intro ba) | (apply R.buildSlice; (exact a_prt); exact rfl; exact rfl; (exact a_fills); exact rfl; intro bl) | (refine a_sp ?_ ?_; (intro h; skip; rotate_left; intro h; skip; rotate_left)) | fail))
  · have h6 : ((fileD d.now n).length : Int) < k := by assumption
    have hE : trcE d n k = 1 := (if_neg hs).trans ((if_neg (is_some (by rw [← hg]; exact hsm))).trans (if_pos (.inr h6)))
    (apply Fin.returnA (H2 := (db, dkB d.room sb nb pv (cntD d).fuse false) :: (nb, no) :: (sb, so) :: (hr ++ H)); assumption; (first | exact .inl rfl | exact .inr rfl); exact rfl; (exact a_res); (simp only [retv]; rfl); (exact a_arr))
    exact ⟨by rw [hE], Mem.le_refl _, hbad _ rfl hE⟩
  have h6 : ¬ ((fileD d.now n).length : Int) < k := by assumption
  have hE : trcE d n k = 0 := (if_neg hs).trans ((if_neg (is_some (by rw [← hg]; exact hsm))).trans (if_neg (fun h7 => by rcases h7 with h7 | h7; exact h5 h7; exact h6 h7)))
  rw [hE] at hQ
  have hfit := trc_fit (n := n) (k := k.toNat) hnn hok.sum (by omega)
  (apply R.call; (exact a_evs); exact rfl; (apply K.arr (h := put_K (db := db) (sb := sb) (nb := nb) (room := d.room) (fuse := (cntD d).fuse) (down := false) (H := (sb, so) :: H) (x := .trc n k.toNat) (c := [.int .i64 1, str n, str [], .slice none 0 0, .int .i64 k]) h2 h3 (by show _ = _; rw [Int.toNat_of_nonneg (by omega)]) hfit (by rw [cntD_ps]; exact hlen))); ((try simp only [List.append_assoc, List.cons_append, List.nil_append, List.append_nil]); exact a_arr); rintro _ M3 _ ⟨rfl, hM3, pv', hp', no', f1, f2, rfl⟩)
  (repeat' (first | refine a_go ?_ | (with_reducible apply Fin.thenK; assumption) | (with_reducible (first | apply C.seqK | apply C.regionK); intro _ _) | (apply R.buildSlice0; exact rfl; intro bz) | (apply R.box; exact rfl; (simp only [Value.cells]; rfl); exact rfl; intro bx) | (apply R.alloc; (simp only [Value.cells]; rfl); exact rfl; intro ba) | (apply R.buildSlice; (exact a_prt); exact rfl; exact rfl; (exact a_fills); exact rfl; intro bl) | (refine a_sp ?_ ?_; (intro h; skip; rotate_left; intro h; skip; rotate_left)) | fail))
  (apply Fin.returnA (H2 := (db, dkB d.room sb nb pv' (cntD d).fuse false) :: (nb, no') :: (sb, so) :: (hp' ++ H)); assumption; (first | exact .inl rfl | exact .inr rfl); exact rfl; (exact a_res); (simp only [retv]; rfl); (exact a_arr))
  exact ⟨rfl, hM3, _, DkO.op (sb := sb) (nb := nb) hok hs hfit (h1.mono hM3) f1 f2, rfl⟩
theorem rename_K {db : Nat} {d : Dk} {hp : Hp} {n t : Txt} (ho : DkO M db d hp) (hlen : d.ps.length ≤ 1000000) (htl : t.length ≤ 1099511627776) : K Try.prog 57 [.pointer (some ⟨db, 0, none⟩), str n, str t] M (hp ++ H) fun v' M' H' => v' = .int .i64 (renE d n t) ∧ M.le M' ∧ ∃ hp', DkO M' db (opD (renE d n t) d (.ren n t)) hp' ∧ H' = hp' ++ H := by
  refine K.enterK Try.func57 rfl rfl rfl ?_
  intro Q hNP hQ
  (repeat' (first | refine a_go ?_ | (with_reducible apply Fin.thenK; assumption) | (with_reducible (first | apply C.seqK | apply C.regionK); intro _ _) | (apply R.buildSlice0; exact rfl; intro bz) | (apply R.box; exact rfl; (simp only [Value.cells]; rfl); exact rfl; intro bx) | (apply R.alloc; (simp only [Value.cells]; rfl); exact rfl; intro ba) | (apply R.buildSlice; (exact a_prt); exact rfl; exact rfl; (exact a_fills); exact rfl; intro bl) | (refine a_sp ?_ ?_; (intro h; skip; rotate_left; intro h; skip; rotate_left)) | fail))
  (apply R.call; (exact a_evs); exact rfl); exact counts_KD ho; rintro _ M _ ⟨rfl, rfl, hp1, ho1, rfl, hdn⟩
  have hnn := ho.nodup
  have hok := ho.1
  clear ho
  by_cases hs : stopD d
  · rw [decide_eq_true hs]
    have hE : renE d n t = 3 := if_pos hs
    rw [hE] at hQ
    (repeat' (first | refine a_go ?_ | (with_reducible apply Fin.thenK; assumption) | (with_reducible (first | apply C.seqK | apply C.regionK); intro _ _) | (apply R.buildSlice0; exact rfl; intro bz) | (apply R.box; exact rfl; (simp only [Value.cells]; rfl); exact rfl; intro bx) | (apply R.alloc; (simp only [Value.cells]; rfl); exact rfl; intro ba) | (apply R.buildSlice; (exact a_prt); exact rfl; exact rfl; (exact a_fills); exact rfl; intro bl) | (refine a_sp ?_ ?_; (intro h; skip; rotate_left; intro h; skip; rotate_left)) | fail))
    (apply Fin.returnA (H2 := hp1 ++ H); assumption; (first | exact .inl rfl | exact .inr rfl); exact rfl; (exact a_res); (simp only [retv]; rfl); (exact a_arr))
    exact ⟨rfl, Mem.le_refl _, hp1, ho1, rfl⟩
  rw [decide_eq_false hs]
  obtain ⟨hok1, sb, nb, so, no, pv, hr, h1, h2, h3, rfl⟩ := ho1
  rw [cntD_now] at h2
  rw [hdn hs, cntD_room]
  unfold dkB
  obtain ⟨l, hm, hfr, hn⟩ := h2.use
  have hg := (hfr.get hn n).2
  (repeat' (first | (apply R.step; (apply Ok.move; exact rfl); exact rfl) | (apply R.step; (apply Ok.lookupS (ho := hm); exact rfl; exact rfl; exact a_mm); exact rfl) | refine a_go ?_ | (with_reducible apply Fin.thenK; assumption) | (with_reducible (first | apply C.seqK | apply C.regionK); intro _ _) | (apply R.buildSlice0; exact rfl; intro bz) | (apply R.box; exact rfl; (simp only [Value.cells]; rfl); exact rfl; intro bx) | (apply R.alloc; (simp only [Value.cells]; rfl); exact rfl; intro ba) | (apply R.buildSlice; (exact a_prt); exact rfl; exact rfl; (exact a_fills); exact rfl; intro bl) | (refine a_sp ?_ ?_; (intro h; skip; rotate_left; intro h; skip; rotate_left)) | fail))
  (apply R.call; (exact a_evs); exact rfl); exact named_K (by omega); rintro _ M _ ⟨rfl, rfl, rfl⟩
  cases hnm : namedB t with
  | false =>
    have hE : renE d n t = 1 := (if_neg hs).trans (if_pos hnm)
    rw [hE] at hQ
    (repeat' (first | refine a_go ?_ | (with_reducible apply Fin.thenK; assumption) | (with_reducible (first | apply C.seqK | apply C.regionK); intro _ _) | (apply R.buildSlice0; exact rfl; intro bz) | (apply R.box; exact rfl; (simp only [Value.cells]; rfl); exact rfl; intro bx) | (apply R.alloc; (simp only [Value.cells]; rfl); exact rfl; intro ba) | (apply R.buildSlice; (exact a_prt); exact rfl; exact rfl; (exact a_fills); exact rfl; intro bl) | (refine a_sp ?_ ?_; (intro h; skip; rotate_left; intro h; skip; rotate_left)) | fail))
    (apply Fin.returnA (H2 := (db, dkB d.room sb nb pv (cntD d).fuse false) :: (nb, no) :: (sb, so) :: (hr ++ H)); assumption; (first | exact .inl rfl | exact .inr rfl); exact rfl; (exact a_res); (simp only [retv]; rfl); (exact a_arr))
    exact ⟨rfl, Mem.le_refl _, _, DkO.no (sb := sb) (nb := nb) (by decide) hok1 hs h1 h2 h3, rfl⟩
  | true =>
    (repeat' (first | refine a_go ?_ | (with_reducible apply Fin.thenK; assumption) | (with_reducible (first | apply C.seqK | apply C.regionK); intro _ _) | (apply R.buildSlice0; exact rfl; intro bz) | (apply R.box; exact rfl; (simp only [Value.cells]; rfl); exact rfl; intro bx) | (apply R.alloc; (simp only [Value.cells]; rfl); exact rfl; intro ba) | (apply R.buildSlice; (exact a_prt); exact rfl; exact rfl; (exact a_fills); exact rfl; intro bl) | (refine a_sp ?_ ?_; (intro h; skip; rotate_left; intro h; skip; rotate_left)) | fail))
    · have h : (getS l n).isSome = false := by assumption
      have hE : renE d n t = 4 := (if_neg hs).trans ((if_neg (by rw [hnm]; decide)).trans (if_pos (is_none (by rw [← hg]; exact h))))
      rw [hE] at hQ
      (apply Fin.returnA (H2 := (db, dkB d.room sb nb pv (cntD d).fuse false) :: (nb, no) :: (sb, so) :: (hr ++ H)); assumption; (first | exact .inl rfl | exact .inr rfl); exact rfl; (exact a_res); (simp only [retv]; rfl); (exact a_arr))
      exact ⟨rfl, Mem.le_refl _, _, DkO.no (sb := sb) (nb := nb) (by decide) hok1 hs h1 h2 h3, rfl⟩
    have h : (getS l n).isSome = true := by assumption
    have hE : renE d n t = 0 := (if_neg hs).trans ((if_neg (by rw [hnm]; decide)).trans (if_neg (is_some (by rw [← hg]; exact h))))
    rw [hE] at hQ
    have hfit := ren_fit (n := n) (t := t) hnn hok.sum
    (apply R.call; (exact a_evs); exact rfl; (apply K.arr (h := put_K (db := db) (sb := sb) (nb := nb) (room := d.room) (fuse := (cntD d).fuse) (down := false) (H := (sb, so) :: H) (x := .ren n t) h2 h3 rfl hfit (by rw [cntD_ps]; exact hlen))); ((try simp only [List.append_assoc, List.cons_append, List.nil_append, List.append_nil]); exact a_arr); rintro _ M3 _ ⟨rfl, hM3, pv', hp', no', f1, f2, rfl⟩)
    (repeat' (first | refine a_go ?_ | (with_reducible apply Fin.thenK; assumption) | (with_reducible (first | apply C.seqK | apply C.regionK); intro _ _) | (apply R.buildSlice0; exact rfl; intro bz) | (apply R.box; exact rfl; (simp only [Value.cells]; rfl); exact rfl; intro bx) | (apply R.alloc; (simp only [Value.cells]; rfl); exact rfl; intro ba) | (apply R.buildSlice; (exact a_prt); exact rfl; exact rfl; (exact a_fills); exact rfl; intro bl) | (refine a_sp ?_ ?_; (intro h; skip; rotate_left; intro h; skip; rotate_left)) | fail))
    (apply Fin.returnA (H2 := (db, dkB d.room sb nb pv' (cntD d).fuse false) :: (nb, no') :: (sb, so) :: (hp' ++ H)); assumption; (first | exact .inl rfl | exact .inr rfl); exact rfl; (exact a_res); (simp only [retv]; rfl); (exact a_arr))
    exact ⟨rfl, hM3, _, DkO.op (sb := sb) (nb := nb) hok hs hfit (h1.mono hM3) f1 f2, rfl⟩
end Go.Sx
end
section
namespace Go.Sx
open Go Go.Proofs Go.RowKit
attribute [local irreducible] C R Fin K Own OwnT Rd Pl Ok KOf RetOk OpsOf RP KP Res NoPanic KV KE MapS ItS EntS FsO FsR RowD PlD DkO
variable {M M' : Mem} {H H1 H2 : Hp}
theorem frame_KF {A : Option Addr} {cap m : Nat} {bs : List UInt8} (hpl : Pl M A (bs.map bv)) (hm : bs.length = m) (hb : m ≤ 140737488351232) : K Try.prog 51 [.slice A m cap] M H fun v M' H' =>
    PlB M' v (frameS bs) ∧ M.le M' ∧ H' = H := by
  subst hm
  refine (frame_K hpl hb).freezeT ?_
  rintro v M' H' ⟨hp, h1, rfl, rfl⟩
  exact ⟨hp, _, Arr.all _, fun M2 hM2 hin => ⟨h1.plB hin, hM2, rfl⟩⟩
def hfile : Txt := [104, 97, 114, 100]
def hnew : Txt := [104, 97, 114, 100, 46, 110, 101, 119]
def recS (t : Nat) (v : Int) : Txt := numS t ++ [UInt8.ofNat v.toNat]
def hrdC (t : Nat) (v : Int) : List Value := [.int .u64 (t : Int), .int .i64 v]
def rightH (t : Nat) (v : Int) : Bool := decide (t ≤ 72057594037927935) && decide (0 ≤ v) && decide (v ≤ 7)
theorem right_K {t : Nat} {v : Int} : K Try.prog 26 [.agg (hrdC t v).toArray] M H fun v' M' H' => v' = .bool (rightH t v) ∧ M' = M ∧ H' = H := by
  refine K.enterK Try.func26 rfl rfl rfl ?_
  intro Q hNP hQ
  unfold hrdC
  have e1 : decide ((t : Int) ≤ 72057594037927935) = decide (t ≤ 72057594037927935) := decide_eq_decide.2 (by omega)
  by_cases h1 : t ≤ 72057594037927935
  · by_cases h2 : 0 ≤ v
    · have hE : rightH t v = decide (v ≤ 7) := by
        unfold rightH
        rw [decide_eq_true h1, decide_eq_true h2]
        rfl
      rw [hE] at hQ
      (repeat' (first | refine a_go ?_ | (with_reducible apply Fin.thenK; assumption) | (with_reducible (first | apply C.seqK | apply C.regionK); intro _ _) | (apply R.buildSlice0; exact rfl; intro bz) | (apply R.box; exact rfl; (simp only [Value.cells]; rfl); exact rfl; intro bx) | (apply R.alloc; (simp only [Value.cells]; rfl); exact rfl; intro ba) | (apply R.buildSlice; (exact a_prt); exact rfl; exact rfl; (exact a_fills); exact rfl; intro bl) | (refine a_sp ?_ ?_; (intro h; skip; rotate_left; intro h; skip; rotate_left)) | fail))
      all_goals (first | (exfalso; omega) | skip)
      (apply Fin.returnA (H2 := H); assumption; (first | exact .inl rfl | exact .inr rfl); exact rfl; (exact a_res); (simp only [retv]; rfl); (exact a_arr))
      exact ⟨rfl, rfl, rfl⟩
    · have hE : rightH t v = false := by
        unfold rightH
        rw [decide_eq_false h2]
        simp
      rw [hE] at hQ
      (repeat' (first | (apply R.step; (apply Ok.move; exact rfl); exact rfl) | (apply R.step; (apply Ok.geF; exact rfl; exact rfl; exact h2); exact rfl) | refine a_go ?_ | (with_reducible apply Fin.thenK; assumption) | (with_reducible (first | apply C.seqK | apply C.regionK); intro _ _) | (apply R.buildSlice0; exact rfl; intro bz) | (apply R.box; exact rfl; (simp only [Value.cells]; rfl); exact rfl; intro bx) | (apply R.alloc; (simp only [Value.cells]; rfl); exact rfl; intro ba) | (apply R.buildSlice; (exact a_prt); exact rfl; exact rfl; (exact a_fills); exact rfl; intro bl) | (refine a_sp ?_ ?_; (intro h; skip; rotate_left; intro h; skip; rotate_left)) | fail))
      all_goals (first | (exfalso; omega) | skip)
      (apply Fin.returnA (H2 := H); assumption; (first | exact .inl rfl | exact .inr rfl); exact rfl; (exact a_res); (simp only [retv]; rfl); (exact a_arr))
      exact ⟨rfl, rfl, rfl⟩
  · have hE : rightH t v = false := by
      unfold rightH
      rw [decide_eq_false h1]
      simp
    rw [hE] at hQ
    (repeat' (first | (apply R.step; (apply Ok.move; exact rfl); exact rfl) | (apply R.step; (apply Ok.leF; exact rfl; exact rfl; omega); exact rfl) | refine a_go ?_ | (with_reducible apply Fin.thenK; assumption) | (with_reducible (first | apply C.seqK | apply C.regionK); intro _ _) | (apply R.buildSlice0; exact rfl; intro bz) | (apply R.box; exact rfl; (simp only [Value.cells]; rfl); exact rfl; intro bx) | (apply R.alloc; (simp only [Value.cells]; rfl); exact rfl; intro ba) | (apply R.buildSlice; (exact a_prt); exact rfl; exact rfl; (exact a_fills); exact rfl; intro bl) | (refine a_sp ?_ ?_; (intro h; skip; rotate_left; intro h; skip; rotate_left)) | fail))
    all_goals (first | (exfalso; omega) | skip)
    (apply Fin.returnA (H2 := H); assumption; (first | exact .inl rfl | exact .inr rfl); exact rfl; (exact a_res); (simp only [retv]; rfl); (exact a_arr))
    exact ⟨rfl, rfl, rfl⟩
def clearD (d : Dk) : Int × Dk := if (readD d hnew).isSome then (remE d hnew, opD (remE d hnew) d (.rem hnew)) else (0, d)
theorem clear_K {db : Nat} {d : Dk} {hp : Hp} (ho : DkO M db d hp) (hlen : d.ps.length ≤ 1000000) : K Try.prog 45 [.pointer (some ⟨db, 0, none⟩)] M (hp ++ H) fun v' M' H' => v' = .int .i64 (clearD d).1 ∧ M.le M' ∧ ∃ hp', DkO M' db (clearD d).2 hp' ∧ H' = hp' ++ H := by
  refine K.enterK Try.func45 rfl rfl rfl ?_
  intro Q hNP hQ
  (repeat' (first | refine a_go ?_ | (with_reducible apply Fin.thenK; assumption) | (with_reducible (first | apply C.seqK | apply C.regionK); intro _ _) | (apply R.buildSlice0; exact rfl; intro bz) | (apply R.box; exact rfl; (simp only [Value.cells]; rfl); exact rfl; intro bx) | (apply R.alloc; (simp only [Value.cells]; rfl); exact rfl; intro ba) | (apply R.buildSlice; (exact a_prt); exact rfl; exact rfl; (exact a_fills); exact rfl; intro bl) | (refine a_sp ?_ ?_; (intro h; skip; rotate_left; intro h; skip; rotate_left)) | fail))
  (apply R.call; (exact a_evs); exact rfl; exact dread_K (n := hnew) ho; rintro _ M _ ⟨v5, hv5, rfl, hown5, rfl, rfl⟩)
  unfold clearD at hQ
  cases hs : (readD d hnew).isSome with
  | true =>
    rw [hs] at hQ
    (repeat' (first | refine a_go ?_ | (with_reducible apply Fin.thenK; assumption) | (with_reducible (first | apply C.seqK | apply C.regionK); intro _ _) | (apply R.buildSlice0; exact rfl; intro bz) | (apply R.box; exact rfl; (simp only [Value.cells]; rfl); exact rfl; intro bx) | (apply R.alloc; (simp only [Value.cells]; rfl); exact rfl; intro ba) | (apply R.buildSlice; (exact a_prt); exact rfl; exact rfl; (exact a_fills); exact rfl; intro bl) | (refine a_sp ?_ ?_; (intro h; skip; rotate_left; intro h; skip; rotate_left)) | fail))
    apply R.arr (H2 := hp ++ H) (by ((try simp only [List.append_assoc, List.cons_append, List.nil_append, List.append_nil]); exact a_arr))
    (apply R.call; (exact a_evs); exact rfl; exact remove_K (n := hnew) ho hlen; rintro _ M3 _ ⟨rfl, hM3, hp6, ho6, rfl⟩)
    (repeat' (first | refine a_go ?_ | (with_reducible apply Fin.thenK; assumption) | (with_reducible (first | apply C.seqK | apply C.regionK); intro _ _) | (apply R.buildSlice0; exact rfl; intro bz) | (apply R.box; exact rfl; (simp only [Value.cells]; rfl); exact rfl; intro bx) | (apply R.alloc; (simp only [Value.cells]; rfl); exact rfl; intro ba) | (apply R.buildSlice; (exact a_prt); exact rfl; exact rfl; (exact a_fills); exact rfl; intro bl) | (refine a_sp ?_ ?_; (intro h; skip; rotate_left; intro h; skip; rotate_left)) | fail))
    (apply Fin.returnA (H2 := hp6 ++ H); assumption; (first | exact .inl rfl | exact .inr rfl); exact rfl; (exact a_res); (simp only [retv]; rfl); (exact a_arr))
    exact ⟨rfl, hM3, hp6, ho6, rfl⟩
  | false =>
    rw [hs] at hQ
    (repeat' (first | refine a_go ?_ | (with_reducible apply Fin.thenK; assumption) | (with_reducible (first | apply C.seqK | apply C.regionK); intro _ _) | (apply R.buildSlice0; exact rfl; intro bz) | (apply R.box; exact rfl; (simp only [Value.cells]; rfl); exact rfl; intro bx) | (apply R.alloc; (simp only [Value.cells]; rfl); exact rfl; intro ba) | (apply R.buildSlice; (exact a_prt); exact rfl; exact rfl; (exact a_fills); exact rfl; intro bl) | (refine a_sp ?_ ?_; (intro h; skip; rotate_left; intro h; skip; rotate_left)) | fail))
    (apply Fin.returnA (H2 := hp ++ H); assumption; (first | exact .inl rfl | exact .inr rfl); exact rfl; (exact a_res); (simp only [retv]; rfl); (exact a_arr))
    exact ⟨rfl, Mem.le_refl _, hp, ho, rfl⟩
def saveD (d : Dk) (t : Nat) (v : Int) : Int × Dk :=
  if rightH t v = false then (1, d) else
  if ((readD d hfile).getD []).length < 256 then (appE d hfile (frameS (recS t v)), opD (appE d hfile (frameS (recS t v))) d (.app hfile (frameS (recS t v)))) else
  if (clearD d).1 ≠ 0 then clearD d else
  if appE (clearD d).2 hnew (frameS (recS t v)) ≠ 0 then (appE (clearD d).2 hnew (frameS (recS t v)), opD (appE (clearD d).2 hnew (frameS (recS t v))) (clearD d).2 (.app hnew (frameS (recS t v)))) else
  (renE (opD 0 (clearD d).2 (.app hnew (frameS (recS t v)))) hnew hfile, opD (renE (opD 0 (clearD d).2 (.app hnew (frameS (recS t v)))) hnew hfile) (opD 0 (clearD d).2 (.app hnew (frameS (recS t v)))) (.ren hnew hfile))
theorem opD_ps (d : Dk) (e : Int) (x : De) : (opD e d x).ps.length ≤ d.ps.length + 1 := by
  unfold opD
  split
  · show (d.ps ++ [x]).length ≤ _
    rw [List.length_append]
    exact Nat.le_refl _
  · rw [cntD_ps]
    omega
theorem clearD_ps (d : Dk) : (clearD d).2.ps.length ≤ d.ps.length + 1 := by
  unfold clearD
  split
  · exact opD_ps _ _ _
  · show d.ps.length ≤ d.ps.length + 1
    omega
theorem recS_len {t : Nat} {v : Int} (ht : t ≤ 18446744073709551615) : (recS t v).length ≤ 11 := by
  unfold recS
  have := (numS_len10 ht).2
  rw [List.length_append, List.length_singleton]
  omega
theorem save_K {db : Nat} {d : Dk} {hp : Hp} {t : Nat} {v : Int} (ho : DkO M db d hp) (hlen : d.ps.length ≤ 900000) (ht : t ≤ 18446744073709551615) : K Try.prog 25 [.pointer (some ⟨db, 0, none⟩), .agg (hrdC t v).toArray] M (hp ++ H) fun v' M' H' => v' = .int .i64 (saveD d t v).1 ∧ M.le M' ∧ ∃ hp', DkO M' db (saveD d t v).2 hp' ∧ H' = hp' ++ H := by
  refine K.enterK Try.func25 rfl rfl rfl ?_
  intro Q hNP hQ
  (repeat' (first | refine a_go ?_ | (with_reducible apply Fin.thenK; assumption) | (with_reducible (first | apply C.seqK | apply C.regionK); intro _ _) | (apply R.buildSlice0; exact rfl; intro bz) | (apply R.box; exact rfl; (simp only [Value.cells]; rfl); exact rfl; intro bx) | (apply R.alloc; (simp only [Value.cells]; rfl); exact rfl; intro ba) | (apply R.buildSlice; (exact a_prt); exact rfl; exact rfl; (exact a_fills); exact rfl; intro bl) | (refine a_sp ?_ ?_; (intro h; skip; rotate_left; intro h; skip; rotate_left)) | fail))
  (apply R.call; (exact a_evs); exact rfl; exact right_K; rintro _ M _ ⟨rfl, rfl, rfl⟩)
  cases hr : rightH t v with
  | false =>
    have hE : saveD d t v = (1, d) := if_pos hr
    rw [hE] at hQ
    (repeat' (first | refine a_go ?_ | (with_reducible apply Fin.thenK; assumption) | (with_reducible (first | apply C.seqK | apply C.regionK); intro _ _) | (apply R.buildSlice0; exact rfl; intro bz) | (apply R.box; exact rfl; (simp only [Value.cells]; rfl); exact rfl; intro bx) | (apply R.alloc; (simp only [Value.cells]; rfl); exact rfl; intro ba) | (apply R.buildSlice; (exact a_prt); exact rfl; exact rfl; (exact a_fills); exact rfl; intro bl) | (refine a_sp ?_ ?_; (intro h; skip; rotate_left; intro h; skip; rotate_left)) | fail))
    (apply Fin.returnA (H2 := hp ++ H); assumption; (first | exact .inl rfl | exact .inr rfl); exact rfl; (exact a_res); (simp only [retv]; rfl); (exact a_arr))
    exact ⟨rfl, Mem.le_refl _, hp, ho, rfl⟩
  | true =>
    have hv : (0 ≤ v ∧ v ≤ 7) ∧ t ≤ 72057594037927935 := by
      unfold rightH at hr
      simp only [Bool.and_eq_true, decide_eq_true_eq] at hr
      omega
    obtain ⟨vn, hvn⟩ : ∃ vn : Nat, v = (vn : Int) := ⟨_, (Int.toNat_of_nonneg hv.1.1).symm⟩
    unfold hrdC
    (repeat' (first | refine a_go ?_ | (with_reducible apply Fin.thenK; assumption) | (with_reducible (first | apply C.seqK | apply C.regionK); intro _ _) | (apply R.buildSlice0; exact rfl; intro bz) | (apply R.box; exact rfl; (simp only [Value.cells]; rfl); exact rfl; intro bx) | (apply R.alloc; (simp only [Value.cells]; rfl); exact rfl; intro ba) | (apply R.buildSlice; (exact a_prt); exact rfl; exact rfl; (exact a_fills); exact rfl; intro bl) | (refine a_sp ?_ ?_; (intro h; skip; rotate_left; intro h; skip; rotate_left)) | fail))
    (apply R.call; (exact a_evs); exact rfl; exact newWriter_K; rintro _ M _ ⟨wb, rfl, rfl, rfl⟩)
    (repeat' (first | refine a_go ?_ | (with_reducible apply Fin.thenK; assumption) | (with_reducible (first | apply C.seqK | apply C.regionK); intro _ _) | (apply R.buildSlice0; exact rfl; intro bz) | (apply R.box; exact rfl; (simp only [Value.cells]; rfl); exact rfl; intro bx) | (apply R.alloc; (simp only [Value.cells]; rfl); exact rfl; intro ba) | (apply R.buildSlice; (exact a_prt); exact rfl; exact rfl; (exact a_fills); exact rfl; intro bl) | (refine a_sp ?_ ?_; (intro h; skip; rotate_left; intro h; skip; rotate_left)) | fail))
    (apply R.call; (exact a_evs); exact rfl; (apply K.arr (h := wnum_K (wb := wb) (v := .slice none 0 0) (bs := []) (n := t) (hr := []) (H := (bx, .cells [.int .u64 (t : Int), .int .i64 v].toArray 44 (0, 0)) :: (hp ++ H)) (Own.nil _ _) (by decide) ht)); ((try simp only [List.append_assoc, List.cons_append, List.nil_append, List.append_nil]); exact a_arr); rintro _ M _ ⟨rfl, rfl, v2, hr2, how2, rfl⟩)
    rw [List.nil_append] at how2
    rw [hvn]
    (repeat' (first | (apply R.step; (apply Ok.move; exact rfl); exact rfl) | (apply R.step; (apply Ok.convLI; exact rfl); exact rfl) | refine a_go ?_ | (with_reducible apply Fin.thenK; assumption) | (with_reducible (first | apply C.seqK | apply C.regionK); intro _ _) | (apply R.buildSlice0; exact rfl; intro bz) | (apply R.box; exact rfl; (simp only [Value.cells]; rfl); exact rfl; intro bx) | (apply R.alloc; (simp only [Value.cells]; rfl); exact rfl; intro ba) | (apply R.buildSlice; (exact a_prt); exact rfl; exact rfl; (exact a_fills); exact rfl; intro bl) | (refine a_sp ?_ ?_; (intro h; skip; rotate_left; intro h; skip; rotate_left)) | fail))
    have hl10 := (numS_len10 ht).2
    (apply R.call; (exact a_evs); exact rfl; (apply K.arr (h := wbyte_K (wb := wb) (v := v2) (bs := numS t) (b := UInt8.ofNat vn) (hr := hr2) (H := (bx, .cells [.int .u64 (t : Int), .int .i64 (vn : Int)].toArray 44 (0, 0)) :: (hp ++ H)) how2 (by omega))); ((try simp only [List.append_assoc, List.cons_append, List.nil_append, List.append_nil]); exact a_arr); rintro _ M _ ⟨rfl, rfl, v3, hr3, how3, rfl⟩)
    have hrec : numS t ++ [UInt8.ofNat vn] = recS t v := by
      unfold recS
      rw [hvn]
      rfl
    rw [hrec] at how3
    have hrl := recS_len (v := v) ht
    (repeat' (first | refine a_go ?_ | (with_reducible apply Fin.thenK; assumption) | (with_reducible (first | apply C.seqK | apply C.regionK); intro _ _) | (apply R.buildSlice0; exact rfl; intro bz) | (apply R.box; exact rfl; (simp only [Value.cells]; rfl); exact rfl; intro bx) | (apply R.alloc; (simp only [Value.cells]; rfl); exact rfl; intro ba) | (apply R.buildSlice; (exact a_prt); exact rfl; exact rfl; (exact a_fills); exact rfl; intro bl) | (refine a_sp ?_ ?_; (intro h; skip; rotate_left; intro h; skip; rotate_left)) | fail))
    (apply R.call; (exact a_evs); exact rfl; (apply K.arr (h := wbytes_K (wb := wb) (v := v3) (bs := recS t v) (hr := hr3) (H := (bx, .cells [.int .u64 (t : Int), .int .i64 (vn : Int)].toArray 44 (0, 0)) :: (hp ++ H)) how3 (by omega))); ((try simp only [List.append_assoc, List.cons_append, List.nil_append, List.append_nil]); exact a_arr); rintro v4 M _ ⟨rfl, hr4, how4, rfl⟩)
    obtain ⟨A4, c4, rfl, _, _⟩ := how4.form
    apply R.arr (H2 := hr4 ++ (hp ++ H)) (by ((try simp only [List.append_assoc, List.cons_append, List.nil_append, List.append_nil]); exact a_arr))
    (apply R.ice (hp := hr4) (H1 := hp ++ H) (by (exact a_arr)); intro M2 hM2 hin2)
    have hpl4 := how4.plIn hin2
    (apply R.call; (exact a_evs); exact rfl; exact frame_KF hpl4 rfl (by omega); rintro v5 M3 _ ⟨hb5, hM3, rfl⟩)
    have hfl : (frameS (recS t v)).length ≤ 19 := by
      rw [frameS_len (by omega)]
      omega
    have ho3 := (ho.mono hM2).mono hM3
    generalize hf : frameS (recS t v) = f at hb5 hfl
    (repeat' (first | refine a_go ?_ | (with_reducible apply Fin.thenK; assumption) | (with_reducible (first | apply C.seqK | apply C.regionK); intro _ _) | (apply R.buildSlice0; exact rfl; intro bz) | (apply R.box; exact rfl; (simp only [Value.cells]; rfl); exact rfl; intro bx) | (apply R.alloc; (simp only [Value.cells]; rfl); exact rfl; intro ba) | (apply R.buildSlice; (exact a_prt); exact rfl; exact rfl; (exact a_fills); exact rfl; intro bl) | (refine a_sp ?_ ?_; (intro h; skip; rotate_left; intro h; skip; rotate_left)) | fail))
    (apply R.call; (exact a_evs); exact rfl; exact dread_K (n := hfile) ho3; rintro _ M3 _ ⟨v6, hv6, rfl, hown6, rfl, rfl⟩)
    obtain ⟨A6, c6, rfl, _, _⟩ := hown6.form
    obtain ⟨w6, hw6⟩ : ∃ w6, w6 = (readD d hfile).getD [] := ⟨_, rfl⟩
    have hE0 : saveD d t v = if w6.length < 256 then (appE d hfile f, opD (appE d hfile f) d (.app hfile f)) else
        if (clearD d).1 ≠ 0 then clearD d else
        if appE (clearD d).2 hnew f ≠ 0 then (appE (clearD d).2 hnew f, opD (appE (clearD d).2 hnew f) (clearD d).2 (.app hnew f)) else
        (renE (opD 0 (clearD d).2 (.app hnew f)) hnew hfile, opD (renE (opD 0 (clearD d).2 (.app hnew f)) hnew hfile) (opD 0 (clearD d).2 (.app hnew f)) (.ren hnew hfile)) := by
      rw [hw6, ← hf]
      exact if_neg (by rw [hr]; decide)
    rw [← hw6] at hown6 ⊢
    by_cases h256 : w6.length < 256
    · rw [hE0, if_pos h256] at hQ
      (repeat' (first | (apply R.step; (apply Ok.move; exact rfl); exact rfl) | (apply R.step; (apply Ok.ltTr; exact rfl; exact rfl; omega); exact rfl) | refine a_go ?_ | (with_reducible apply Fin.thenK; assumption) | (with_reducible (first | apply C.seqK | apply C.regionK); intro _ _) | (apply R.buildSlice0; exact rfl; intro bz) | (apply R.box; exact rfl; (simp only [Value.cells]; rfl); exact rfl; intro bx) | (apply R.alloc; (simp only [Value.cells]; rfl); exact rfl; intro ba) | (apply R.buildSlice; (exact a_prt); exact rfl; exact rfl; (exact a_fills); exact rfl; intro bl) | (refine a_sp ?_ ?_; (intro h; skip; rotate_left; intro h; skip; rotate_left)) | fail))
      apply R.arr (H2 := hp ++ H) (by ((try simp only [List.append_assoc, List.cons_append, List.nil_append, List.append_nil]); exact a_arr))
      (apply R.call; (exact a_evs); exact rfl; exact append_K (n := hfile) ho3 hb5 (by omega) (by decide) (by omega); rintro _ M4 _ ⟨rfl, hM4, hp7, ho7, rfl⟩)
      (repeat' (first | refine a_go ?_ | (with_reducible apply Fin.thenK; assumption) | (with_reducible (first | apply C.seqK | apply C.regionK); intro _ _) | (apply R.buildSlice0; exact rfl; intro bz) | (apply R.box; exact rfl; (simp only [Value.cells]; rfl); exact rfl; intro bx) | (apply R.alloc; (simp only [Value.cells]; rfl); exact rfl; intro ba) | (apply R.buildSlice; (exact a_prt); exact rfl; exact rfl; (exact a_fills); exact rfl; intro bl) | (refine a_sp ?_ ?_; (intro h; skip; rotate_left; intro h; skip; rotate_left)) | fail))
      (apply Fin.returnA (H2 := hp7 ++ H); assumption; (first | exact .inl rfl | exact .inr rfl); exact rfl; (exact a_res); (simp only [retv]; rfl); (exact a_arr))
      exact ⟨rfl, hM2.trans_ (hM3.trans_ hM4), hp7, ho7, rfl⟩
    · rw [if_neg h256] at hE0
      (repeat' (first | (apply R.step; (apply Ok.move; exact rfl); exact rfl) | (apply R.step; (apply Ok.ltF; exact rfl; exact rfl; omega); exact rfl) | refine a_go ?_ | (with_reducible apply Fin.thenK; assumption) | (with_reducible (first | apply C.seqK | apply C.regionK); intro _ _) | (apply R.buildSlice0; exact rfl; intro bz) | (apply R.box; exact rfl; (simp only [Value.cells]; rfl); exact rfl; intro bx) | (apply R.alloc; (simp only [Value.cells]; rfl); exact rfl; intro ba) | (apply R.buildSlice; (exact a_prt); exact rfl; exact rfl; (exact a_fills); exact rfl; intro bl) | (refine a_sp ?_ ?_; (intro h; skip; rotate_left; intro h; skip; rotate_left)) | fail))
      apply R.arr (H2 := hp ++ H) (by ((try simp only [List.append_assoc, List.cons_append, List.nil_append, List.append_nil]); exact a_arr))
      (apply R.call; (exact a_evs); exact rfl; exact clear_K ho3 (by omega); rintro _ M4 _ ⟨rfl, hM4, hp7, ho7, rfl⟩)
      have hcp := clearD_ps d
      by_cases hc1 : (clearD d).1 ≠ 0
      · rw [hE0, if_pos hc1] at hQ
        (repeat' (first | (apply R.step; (apply Ok.move; exact rfl); exact rfl) | (apply R.step; (apply Ok.neIT; exact rfl; exact rfl; exact hc1); exact rfl) | refine a_go ?_ | (with_reducible apply Fin.thenK; assumption) | (with_reducible (first | apply C.seqK | apply C.regionK); intro _ _) | (apply R.buildSlice0; exact rfl; intro bz) | (apply R.box; exact rfl; (simp only [Value.cells]; rfl); exact rfl; intro bx) | (apply R.alloc; (simp only [Value.cells]; rfl); exact rfl; intro ba) | (apply R.buildSlice; (exact a_prt); exact rfl; exact rfl; (exact a_fills); exact rfl; intro bl) | (refine a_sp ?_ ?_; (intro h; skip; rotate_left; intro h; skip; rotate_left)) | fail))
        (apply Fin.returnA (H2 := hp7 ++ H); assumption; (first | exact .inl rfl | exact .inr rfl); exact rfl; (exact a_res); (simp only [retv]; rfl); (exact a_arr))
        exact ⟨rfl, hM2.trans_ (hM3.trans_ hM4), hp7, ho7, rfl⟩
      rw [if_neg hc1] at hE0
      have hc0 : (clearD d).1 = 0 := by omega
      rw [hc0]
      generalize (clearD d).2 = d1 at hE0 ho7 hcp
      (repeat' (first | refine a_go ?_ | (with_reducible apply Fin.thenK; assumption) | (with_reducible (first | apply C.seqK | apply C.regionK); intro _ _) | (apply R.buildSlice0; exact rfl; intro bz) | (apply R.box; exact rfl; (simp only [Value.cells]; rfl); exact rfl; intro bx) | (apply R.alloc; (simp only [Value.cells]; rfl); exact rfl; intro ba) | (apply R.buildSlice; (exact a_prt); exact rfl; exact rfl; (exact a_fills); exact rfl; intro bl) | (refine a_sp ?_ ?_; (intro h; skip; rotate_left; intro h; skip; rotate_left)) | fail))
      (apply R.call; (exact a_evs); exact rfl; exact append_K (n := hnew) ho7 (hb5.mono hM4) (by omega) (by decide) (by omega); rintro _ M5 _ ⟨rfl, hM5, hp8, ho8, rfl⟩)
      by_cases ha1 : appE d1 hnew f ≠ 0
      · rw [hE0, if_pos ha1] at hQ
        (repeat' (first | (apply R.step; (apply Ok.move; exact rfl); exact rfl) | (apply R.step; (apply Ok.neIT; exact rfl; exact rfl; exact ha1); exact rfl) | refine a_go ?_ | (with_reducible apply Fin.thenK; assumption) | (with_reducible (first | apply C.seqK | apply C.regionK); intro _ _) | (apply R.buildSlice0; exact rfl; intro bz) | (apply R.box; exact rfl; (simp only [Value.cells]; rfl); exact rfl; intro bx) | (apply R.alloc; (simp only [Value.cells]; rfl); exact rfl; intro ba) | (apply R.buildSlice; (exact a_prt); exact rfl; exact rfl; (exact a_fills); exact rfl; intro bl) | (refine a_sp ?_ ?_; (intro h; skip; rotate_left; intro h; skip; rotate_left)) | fail))
        (apply Fin.returnA (H2 := hp8 ++ H); assumption; (first | exact .inl rfl | exact .inr rfl); exact rfl; (exact a_res); (simp only [retv]; rfl); (exact a_arr))
        exact ⟨rfl, hM2.trans_ (hM3.trans_ (hM4.trans_ hM5)), hp8, ho8, rfl⟩
      rw [if_neg ha1] at hE0
      have ha0 : appE d1 hnew f = 0 := by omega
      rw [ha0] at ho8 ⊢
      have hps := opD_ps d1 0 (.app hnew f)
      rw [hE0] at hQ
      (repeat' (first | refine a_go ?_ | (with_reducible apply Fin.thenK; assumption) | (with_reducible (first | apply C.seqK | apply C.regionK); intro _ _) | (apply R.buildSlice0; exact rfl; intro bz) | (apply R.box; exact rfl; (simp only [Value.cells]; rfl); exact rfl; intro bx) | (apply R.alloc; (simp only [Value.cells]; rfl); exact rfl; intro ba) | (apply R.buildSlice; (exact a_prt); exact rfl; exact rfl; (exact a_fills); exact rfl; intro bl) | (refine a_sp ?_ ?_; (intro h; skip; rotate_left; intro h; skip; rotate_left)) | fail))
      (apply R.call; (exact a_evs); exact rfl; exact rename_K (n := hnew) (t := hfile) ho8 (by omega) (by decide); rintro _ M6 _ ⟨rfl, hM6, hp9, ho9, rfl⟩)
      (repeat' (first | refine a_go ?_ | (with_reducible apply Fin.thenK; assumption) | (with_reducible (first | apply C.seqK | apply C.regionK); intro _ _) | (apply R.buildSlice0; exact rfl; intro bz) | (apply R.box; exact rfl; (simp only [Value.cells]; rfl); exact rfl; intro bx) | (apply R.alloc; (simp only [Value.cells]; rfl); exact rfl; intro ba) | (apply R.buildSlice; (exact a_prt); exact rfl; exact rfl; (exact a_fills); exact rfl; intro bl) | (refine a_sp ?_ ?_; (intro h; skip; rotate_left; intro h; skip; rotate_left)) | fail))
      (apply Fin.returnA (H2 := hp9 ++ H); assumption; (first | exact .inl rfl | exact .inr rfl); exact rfl; (exact a_res); (simp only [retv]; rfl); (exact a_arr))
      exact ⟨rfl, hM2.trans_ (hM3.trans_ (hM4.trans_ (hM5.trans_ hM6))), hp9, ho9, rfl⟩
end Go.Sx
end
section
namespace Go.Sx
open Go Go.Proofs Go.RowKit
attribute [local irreducible] C R Fin K Own OwnT Rd Pl Ok KOf RetOk OpsOf RP KP Res NoPanic KV KE MapS ItS EntS FsO FsR RowD PlD DkO
variable {M M' : Mem} {H H1 H2 : Hp}
def recP (x : Txt) : Option (Nat × Int) :=
  if endR x (byteR x 7 (numRd x 72057594037927935 0 0).2.1 (numRd x 72057594037927935 0 0).2.2).2.1 (byteR x 7 (numRd x 72057594037927935 0 0).2.1 (numRd x 72057594037927935 0 0).2.2).2.2 = 0
  then some ((numRd x 72057594037927935 0 0).1, ((byteR x 7 (numRd x 72057594037927935 0 0).2.1 (numRd x 72057594037927935 0 0).2.2).1.toNat : Int)) else none
def openF : List Txt → Nat × Int → Nat → (Nat × Int) × Nat
  | [], h, at_ => (h, at_)
  | x :: xs, h, at_ => match recP x with
    | none => (h, at_)
    | some h' => openF xs h' (at_ + (frameS x).length)
theorem openF_some {x : Txt} {xs : List Txt} {h h' : Nat × Int} {a : Nat} (e : recP x = some h') : openF (x :: xs) h a = openF xs h' (a + (frameS x).length) := by rw [openF, e]
theorem openF_none {x : Txt} {xs : List Txt} {h : Nat × Int} {a : Nat} (e : recP x = none) : openF (x :: xs) h a = (h, a) := by rw [openF, e]
structure OpS where
  h : Nat × Int
  at_ : Nat
  brk : Bool
  M : Mem
def OpSt (s : OpS) (r : Txt) (b : Bool) (s1 : OpS) : Prop := s.M.le s1.M ∧ r.length ≤ 65536 ∧
  ((recP r = none ∧ b = false ∧ s1.h = s.h ∧ s1.at_ = s.at_ ∧ s1.brk = true) ∨ (b = true ∧ recP r = some s1.h ∧ s1.at_ = s.at_ + (frameS r).length ∧ s1.brk = false))
theorem told_op {s0 : OpS} (h0 : s0.brk = false) {pre : List Txt} {s : OpS} (h : Told OpSt s0 pre s) : s0.M.le s.M ∧ s.brk = false ∧ s.at_ = s0.at_ + endS pre ∧ ∀ rest, openF (pre ++ rest) s0.h s0.at_ = openF rest s.h s.at_ := by
  induction h with
  | nil => exact ⟨Mem.le_refl _, h0, rfl, fun _ => rfl⟩
  | more _ hs ih =>
    obtain ⟨i1, i2, i3, i4⟩ := ih
    obtain ⟨h1, h2, ⟨_, h3, _⟩ | ⟨_, h3, h4, h5⟩⟩ := hs
    · cases h3
    · refine ⟨i1.trans_ h1, h5, ?_, fun rest => ?_⟩
      · rw [h4, i3, endS_append, frameS_len h2]
        unfold endS
        simp
        omega
      · rw [List.append_assoc, i4]
        show openF (_ :: rest) _ _ = _
        rw [openF_some h3, h4]
theorem ends_op {s0 : OpS} (h0 : s0.brk = false) {l : List Txt} {s : OpS} (h : Ends OpSt s0 l s) : s0.M.le s.M ∧ openF l s0.h s0.at_ = (s.h, s.at_) := by
  rcases h with h | ⟨pre, r, rest, s1, rfl, h, hs⟩
  · obtain ⟨i1, _, _, i4⟩ := told_op h0 h
    have := i4 []
    rw [List.append_nil] at this
    exact ⟨i1, this⟩
  · obtain ⟨i1, _, _, i4⟩ := told_op h0 h
    obtain ⟨h1, _, ⟨h3, _, h4, h5, _⟩ | ⟨h3, _⟩⟩ := hs
    · refine ⟨i1.trans_ h1, ?_⟩
      rw [i4, openF_none h3, h4, h5]
    · cases h3
def openC (d1 : Dk) (b : Txt) (z : (Nat × Int) × Nat) : Int × Dk × (Nat × Int) :=
  if z.2 < b.length then (if trcE d1 hfile (z.2 : Int) ≠ 0 then (trcE d1 hfile (z.2 : Int), opD (trcE d1 hfile (z.2 : Int)) d1 (.trc hfile z.2), (0, 0)) else (0, opD 0 d1 (.trc hfile z.2), z.1)) else (0, d1, z.1)
def openD (d : Dk) : Int × Dk × (Nat × Int) :=
  if (clearD d).1 ≠ 0 then ((clearD d).1, (clearD d).2, (0, 0)) else
  openC (clearD d).2 ((readD (clearD d).2 hfile).getD []) (openF (framesF ((readD (clearD d).2 hfile).getD []).length ((readD (clearD d).2 hfile).getD [])) (0, 0) 0)
def hrdV (h : Nat × Int) : Value := .agg (hrdC h.1 h.2).toArray
theorem readD_len {d : Dk} (h : d.ok) (n : Txt) : ((readD d n).getD []).length ≤ 1048576 := by
  unfold readD
  split
  · exact Nat.zero_le _
  · exact Nat.le_trans fileD_len h.sum
theorem open_K {db : Nat} {d : Dk} {hp : Hp} (ho : DkO M db d hp) (hlen : d.ps.length ≤ 900000) : K Try.prog 23 [.pointer (some ⟨db, 0, none⟩)] M (hp ++ H) fun v' M' H' => v' = .tuple #[hrdV (openD d).2.2, .int .i64 (openD d).1] ∧ M.le M' ∧ ∃ hp', DkO M' db (openD d).2.1 hp' ∧ H' = hp' ++ H := by
  refine K.enterM Try.func23 rfl rfl rfl ?_
  intro Q hNP hQ
  unfold hrdV hrdC at hQ
  (repeat' (first | (apply R.step; (exact a_ok); exact rfl) | (first | (with_reducible first | apply R.nil | apply C.ret | apply C.block | apply C.skip | apply C.exit | apply Fin.thenRet | apply Fin.thenExit | apply Fin.blockNormal | apply Fin.blockRet | apply Fin.blockExit) | (with_reducible apply Fin.thenK; assumption) | (with_reducible apply C.seqK; intro _ _) | (with_reducible apply C.regionK; intro _ _) | (with_reducible apply Fin.blockOther; exact rfl)) | (apply R.store; exact rfl; exact rfl; exact rfl; (exact a_at); (exact a_blit); exact rfl; (focus (simp [Value.oneCell']; done))) | (first | (apply R.guardT; assumption; exact rfl; exact rfl; exact rfl) | (apply R.guardF; assumption; exact rfl; exact rfl; exact rfl; exact rfl; exact rfl) | (apply R.guardU; assumption; exact rfl; exact rfl; exact rfl; exact rfl) | (apply R.guardDec; assumption; exact rfl; exact rfl; (intro h; skip; rotate_left; intro h; skip; rotate_left)) | (apply R.guardBeq; assumption; exact rfl; exact rfl; (intro h; skip; rotate_left; intro h; skip; rotate_left)) | (apply R.guardBne; assumption; exact rfl; exact rfl; (intro h; skip; rotate_left; intro h; skip; rotate_left)) | (apply R.guardNDec; assumption; exact rfl; exact rfl; (intro h; skip; rotate_left; intro h; skip; rotate_left)) | (apply R.guardNot; assumption; exact rfl; exact rfl; (intro h; skip; rotate_left; intro h; skip; rotate_left)) | (apply R.guardC; assumption; exact rfl; exact rfl; (intro h; skip; rotate_left; intro h; skip; rotate_left))) | (first | (apply C.condT; exact rfl) | (apply C.condF; exact rfl) | (apply C.condDec; exact rfl; (intro h; skip; rotate_left; intro h; skip; rotate_left)) | (apply C.condBeq; exact rfl; (intro h; skip; rotate_left; intro h; skip; rotate_left)) | (apply C.condBne; exact rfl; (intro h; skip; rotate_left; intro h; skip; rotate_left)) | (apply C.condNDec; exact rfl; (intro h; skip; rotate_left; intro h; skip; rotate_left)) | (apply C.condNot; exact rfl; (intro h; skip; rotate_left; intro h; skip; rotate_left)) | (apply C.cond; exact rfl; (intro h; skip; rotate_left; intro h; skip; rotate_left)))))
  ((apply R.alloc; (simp only [Value.cells]; rfl); exact rfl); intro b2)
  (repeat' (first | refine a_go ?_ | (with_reducible apply Fin.thenK; assumption) | (with_reducible (first | apply C.seqK | apply C.regionK); intro _ _) | (apply R.buildSlice0; exact rfl; intro bz) | (apply R.box; exact rfl; (simp only [Value.cells]; rfl); exact rfl; intro bx) | (apply R.alloc; (simp only [Value.cells]; rfl); exact rfl; intro ba) | (apply R.buildSlice; (exact a_prt); exact rfl; exact rfl; (exact a_fills); exact rfl; intro bl) | (refine a_sp ?_ ?_; (intro h; skip; rotate_left; intro h; skip; rotate_left)) | fail))
  apply R.arr (H2 := hp ++ ((b2, .cells [.int .u64 0, .int .i64 0].toArray 44 (0, 0)) :: H)) (by ((try simp only [List.append_assoc, List.cons_append, List.nil_append, List.append_nil]); exact a_arr))
  (apply R.call; (exact a_evs); exact rfl; exact clear_K ho (by omega); rintro _ M1 _ ⟨rfl, hM1, hp1, ho1, rfl⟩)
  have hcp := clearD_ps d
  by_cases hc1 : (clearD d).1 ≠ 0
  · have hE : openD d = ((clearD d).1, (clearD d).2, (0, 0)) := if_pos hc1
    rw [hE] at hQ
    (repeat' (first | (apply R.step; (apply Ok.move; exact rfl); exact rfl) | (apply R.step; (apply Ok.neIT; exact rfl; exact rfl; exact hc1); exact rfl) | refine a_go ?_ | (with_reducible apply Fin.thenK; assumption) | (with_reducible (first | apply C.seqK | apply C.regionK); intro _ _) | (apply R.buildSlice0; exact rfl; intro bz) | (apply R.box; exact rfl; (simp only [Value.cells]; rfl); exact rfl; intro bx) | (apply R.alloc; (simp only [Value.cells]; rfl); exact rfl; intro ba) | (apply R.buildSlice; (exact a_prt); exact rfl; exact rfl; (exact a_fills); exact rfl; intro bl) | (refine a_sp ?_ ?_; (intro h; skip; rotate_left; intro h; skip; rotate_left)) | fail))
    (apply Fin.returnM (H2 := hp1 ++ H); assumption; exact .inl rfl; exact rfl; exact Marks.nil _; (exact a_res); (simp only [retv]; rfl); (exact a_arr))
    exact ⟨rfl, hM1, hp1, ho1, rfl⟩
  have hc0 : (clearD d).1 = 0 := by omega
  have hE : openD d = openC (clearD d).2 ((readD (clearD d).2 hfile).getD []) (openF (framesF ((readD (clearD d).2 hfile).getD []).length ((readD (clearD d).2 hfile).getD [])) (0, 0) 0) := if_neg hc1
  rw [hE] at hQ
  rw [hc0]
  clear hE hc0 hc1 ho
  generalize (clearD d).2 = d1 at ho1 hcp hQ
  have hbl := readD_len ho1.isok hfile
  (repeat' (first | refine a_go ?_ | (with_reducible apply Fin.thenK; assumption) | (with_reducible (first | apply C.seqK | apply C.regionK); intro _ _) | (apply R.buildSlice0; exact rfl; intro bz) | (apply R.box; exact rfl; (simp only [Value.cells]; rfl); exact rfl; intro bx) | (apply R.alloc; (simp only [Value.cells]; rfl); exact rfl; intro ba) | (apply R.buildSlice; (exact a_prt); exact rfl; exact rfl; (exact a_fills); exact rfl; intro bl) | (refine a_sp ?_ ?_; (intro h; skip; rotate_left; intro h; skip; rotate_left)) | fail))
  (apply R.call; (exact a_evs); exact rfl; exact dread_K (n := hfile) ho1; rintro _ M1 _ ⟨v5, hv5, rfl, hown5, rfl, rfl⟩)
  generalize (readD d1 hfile).getD [] = b at hown5 hbl hQ
  obtain ⟨A5, c5, rfl, k1, k2⟩ := hown5.form
  (apply R.ice (hp := hv5) (H1 := hp1 ++ ((b2, .cells [.int .u64 0, .int .i64 0].toArray 44 (0, 0)) :: H)) (by (exact a_arr)); intro M2 hM2 hin5)
  have hpl5 := hown5.plIn hin5
  replace ho1 := ho1.mono hM2
  (repeat' (first | (apply R.step; (exact a_ok); exact rfl) | (first | (with_reducible first | apply R.nil | apply C.ret | apply C.block | apply C.skip | apply C.exit | apply Fin.thenRet | apply Fin.thenExit | apply Fin.blockNormal | apply Fin.blockRet | apply Fin.blockExit) | (with_reducible apply Fin.thenK; assumption) | (with_reducible apply C.seqK; intro _ _) | (with_reducible apply C.regionK; intro _ _) | (with_reducible apply Fin.blockOther; exact rfl)) | (apply R.store; exact rfl; exact rfl; exact rfl; (exact a_at); (exact a_blit); exact rfl; (focus (simp [Value.oneCell']; done))) | (first | (apply R.guardT; assumption; exact rfl; exact rfl; exact rfl) | (apply R.guardF; assumption; exact rfl; exact rfl; exact rfl; exact rfl; exact rfl) | (apply R.guardU; assumption; exact rfl; exact rfl; exact rfl; exact rfl) | (apply R.guardDec; assumption; exact rfl; exact rfl; (intro h; skip; rotate_left; intro h; skip; rotate_left)) | (apply R.guardBeq; assumption; exact rfl; exact rfl; (intro h; skip; rotate_left; intro h; skip; rotate_left)) | (apply R.guardBne; assumption; exact rfl; exact rfl; (intro h; skip; rotate_left; intro h; skip; rotate_left)) | (apply R.guardNDec; assumption; exact rfl; exact rfl; (intro h; skip; rotate_left; intro h; skip; rotate_left)) | (apply R.guardNot; assumption; exact rfl; exact rfl; (intro h; skip; rotate_left; intro h; skip; rotate_left)) | (apply R.guardC; assumption; exact rfl; exact rfl; (intro h; skip; rotate_left; intro h; skip; rotate_left))) | (first | (apply C.condT; exact rfl) | (apply C.condF; exact rfl) | (apply C.condDec; exact rfl; (intro h; skip; rotate_left; intro h; skip; rotate_left)) | (apply C.condBeq; exact rfl; (intro h; skip; rotate_left; intro h; skip; rotate_left)) | (apply C.condBne; exact rfl; (intro h; skip; rotate_left; intro h; skip; rotate_left)) | (apply C.condNDec; exact rfl; (intro h; skip; rotate_left; intro h; skip; rotate_left)) | (apply C.condNot; exact rfl; (intro h; skip; rotate_left; intro h; skip; rotate_left)) | (apply C.cond; exact rfl; (intro h; skip; rotate_left; intro h; skip; rotate_left)))))
  ((apply R.alloc; (simp only [Value.cells]; rfl); exact rfl); intro b7)
  (repeat' (first | (apply R.step; (exact a_ok); exact rfl) | (first | (with_reducible first | apply R.nil | apply C.ret | apply C.block | apply C.skip | apply C.exit | apply Fin.thenRet | apply Fin.thenExit | apply Fin.blockNormal | apply Fin.blockRet | apply Fin.blockExit) | (with_reducible apply Fin.thenK; assumption) | (with_reducible apply C.seqK; intro _ _) | (with_reducible apply C.regionK; intro _ _) | (with_reducible apply Fin.blockOther; exact rfl)) | (apply R.store; exact rfl; exact rfl; exact rfl; (exact a_at); (exact a_blit); exact rfl; (focus (simp [Value.oneCell']; done))) | (first | (apply R.guardT; assumption; exact rfl; exact rfl; exact rfl) | (apply R.guardF; assumption; exact rfl; exact rfl; exact rfl; exact rfl; exact rfl) | (apply R.guardU; assumption; exact rfl; exact rfl; exact rfl; exact rfl) | (apply R.guardDec; assumption; exact rfl; exact rfl; (intro h; skip; rotate_left; intro h; skip; rotate_left)) | (apply R.guardBeq; assumption; exact rfl; exact rfl; (intro h; skip; rotate_left; intro h; skip; rotate_left)) | (apply R.guardBne; assumption; exact rfl; exact rfl; (intro h; skip; rotate_left; intro h; skip; rotate_left)) | (apply R.guardNDec; assumption; exact rfl; exact rfl; (intro h; skip; rotate_left; intro h; skip; rotate_left)) | (apply R.guardNot; assumption; exact rfl; exact rfl; (intro h; skip; rotate_left; intro h; skip; rotate_left)) | (apply R.guardC; assumption; exact rfl; exact rfl; (intro h; skip; rotate_left; intro h; skip; rotate_left))) | (first | (apply C.condT; exact rfl) | (apply C.condF; exact rfl) | (apply C.condDec; exact rfl; (intro h; skip; rotate_left; intro h; skip; rotate_left)) | (apply C.condBeq; exact rfl; (intro h; skip; rotate_left; intro h; skip; rotate_left)) | (apply C.condBne; exact rfl; (intro h; skip; rotate_left; intro h; skip; rotate_left)) | (apply C.condNDec; exact rfl; (intro h; skip; rotate_left; intro h; skip; rotate_left)) | (apply C.condNot; exact rfl; (intro h; skip; rotate_left; intro h; skip; rotate_left)) | (apply C.cond; exact rfl; (intro h; skip; rotate_left; intro h; skip; rotate_left)))))
  ((apply R.alloc; (simp only [Value.cells]; rfl); exact rfl); intro b8)
  (repeat' (first | refine a_go ?_ | (with_reducible apply Fin.thenK; assumption) | (with_reducible (first | apply C.seqK | apply C.regionK); intro _ _) | (apply R.buildSlice0; exact rfl; intro bz) | (apply R.box; exact rfl; (simp only [Value.cells]; rfl); exact rfl; intro bx) | (apply R.alloc; (simp only [Value.cells]; rfl); exact rfl; intro ba) | (apply R.buildSlice; (exact a_prt); exact rfl; exact rfl; (exact a_fills); exact rfl; intro bl) | (refine a_sp ?_ ?_; (intro h; skip; rotate_left; intro h; skip; rotate_left)) | fail))
  (apply R.call; (exact a_evs); exact rfl; exact all_K; rintro _ M2 _ ⟨bx, rfl, rfl, rfl⟩)
  (repeat' (first | refine a_go ?_ | (with_reducible apply Fin.thenK; assumption) | (with_reducible (first | apply C.seqK | apply C.regionK); intro _ _) | (apply R.buildSlice0; exact rfl; intro bz) | (apply R.box; exact rfl; (simp only [Value.cells]; rfl); exact rfl; intro bx) | (apply R.alloc; (simp only [Value.cells]; rfl); exact rfl; intro ba) | (apply R.buildSlice; (exact a_prt); exact rfl; exact rfl; (exact a_fills); exact rfl; intro bl) | (refine a_sp ?_ ?_; (intro h; skip; rotate_left; intro h; skip; rotate_left)) | fail))
  apply C.rangeO (gf := 77) (pl := [30]) (cs := [.pointer (some ⟨bx, 0, none⟩)]); exact rfl
  intro fn tmps bD l o ho_ hfr
  have hJ : ∃ J : OpS → Hp, J = fun s => (l, o (if s.brk then .done else .ready) (if s.brk then some (.exit 0) else none)) :: (bD, .deferred (some [])) :: (b8, .cells #[.int .i64 (s.at_ : Int)] 3 (0, 0)) :: [(b7, .cells #[.int .u64 (s.h.1 : Int), .int .i64 s.h.2] 44 (0, 0))] := ⟨_, rfl⟩
  obtain ⟨J, hJ⟩ := hJ
  refine (K.arr (H2 := J ⟨(0, 0), 0, false, M2⟩ ++ ((bx, .cells #[.slice A5 b.length c5] 25 (0, 0)) :: (hp1 ++ ((b2, .cells [.int .u64 0, .int .i64 0].toArray 44 (0, 0)) :: H)))) ?_ (all1_M (J := J) (Mf := OpS.M) (St := OpSt) ⟨(0, 0), 0, false, M2⟩ hpl5 k1 (by unfold maxLen at k2; omega) ?_ ?_)).mono ?_
  · rw [hJ]
    (exact a_arr)
  · intro pre s h
    exact (told_op rfl h).1
  · intro pre r rest s v hpv H' hfr2 htold hown hr6
    obtain ⟨i1, i2, i3, i4⟩ := told_op rfl htold
    have hat : s.at_ + 8 + r.length ≤ b.length := by
      have h1 := framesF_end b.length b
      rw [hfr2, endS_append] at h1
      have h2 : endS (r :: rest) = 8 + r.length + endS rest := by simp [endS]
      dsimp only at i3
      omega
    obtain ⟨AV, capV, rfl, _, _⟩ := hown.form
    refine KV.perm (H' := (l, o .ready none) :: (bD, .deferred (some [])) :: (b8, .cells #[.int .i64 (s.at_ : Int)] 3 (0, 0)) :: (b7, .cells #[.int .u64 (s.h.1 : Int), .int .i64 s.h.2] 44 (0, 0)) :: (hpv ++ H')) ?_ ?_
    · rw [hJ]
      dsimp only
      rw [i2]
      (exact a_arr)
    subst ho_
    refine KV.roundL (pl := [30]) (vs := [.slice AV r.length capV]) (At.head _ _ _) rfl (by decide) hfr ?_
    intro Q2 hNP2 hAsg
    (repeat' (first | refine a_go ?_ | (with_reducible apply Fin.thenK; assumption) | (with_reducible (first | apply C.seqK | apply C.regionK); intro _ _) | (apply R.buildSlice0; exact rfl; intro bz) | (apply R.box; exact rfl; (simp only [Value.cells]; rfl); exact rfl; intro bx) | (apply R.alloc; (simp only [Value.cells]; rfl); exact rfl; intro ba) | (apply R.buildSlice; (exact a_prt); exact rfl; exact rfl; (exact a_fills); exact rfl; intro bl) | (refine a_sp ?_ ?_; (intro h; skip; rotate_left; intro h; skip; rotate_left)) | fail))
    refine hAsg _ _ _ _ _ (At.head _ _ _) ?_
    intro Q3 hR
    have hNP3 := hR.np
    apply C.ice (hp := hpv) (H1 := (l, _) :: (bD, .deferred (some [])) :: (b8, .cells #[.int .i64 (s.at_ : Int)] 3 (0, 0)) :: (b7, .cells #[.int .u64 (s.h.1 : Int), .int .i64 s.h.2] 44 (0, 0)) :: H') (by (exact a_arr))
    intro M3 hM3 hin3
    have hplr := hown.plIn hin3
    have hbr := hown.plB hin3
    (repeat' (first | refine a_go ?_ | (with_reducible apply Fin.thenK; assumption) | (with_reducible (first | apply C.seqK | apply C.regionK); intro _ _) | (apply R.buildSlice0; exact rfl; intro bz) | (apply R.box; exact rfl; (simp only [Value.cells]; rfl); exact rfl; intro bx) | (apply R.alloc; (simp only [Value.cells]; rfl); exact rfl; intro ba) | (apply R.buildSlice; (exact a_prt); exact rfl; exact rfl; (exact a_fills); exact rfl; intro bl) | (refine a_sp ?_ ?_; (intro h; skip; rotate_left; intro h; skip; rotate_left)) | fail))
    (apply R.call; (exact a_evs); exact rfl; exact newReader_K hbr (by omega); rintro _ M4 _ ⟨rb, v4, rfl, hM4, hb4, rfl⟩)
    (repeat' (first | refine a_go ?_ | (with_reducible apply Fin.thenK; assumption) | (with_reducible (first | apply C.seqK | apply C.regionK); intro _ _) | (apply R.buildSlice0; exact rfl; intro bz) | (apply R.box; exact rfl; (simp only [Value.cells]; rfl); exact rfl; intro bx) | (apply R.alloc; (simp only [Value.cells]; rfl); exact rfl; intro ba) | (apply R.buildSlice; (exact a_prt); exact rfl; exact rfl; (exact a_fills); exact rfl; intro bl) | (refine a_sp ?_ ?_; (intro h; skip; rotate_left; intro h; skip; rotate_left)) | fail))
    (apply R.call; (exact a_evs); exact rfl; exact rnum_K (most := 72057594037927935) (at_ := 0) (bad := 0) hb4 (by omega) (Nat.zero_le _); rintro _ M4 _ ⟨rfl, rfl, rfl⟩)
    have hz1 := numRd_at (bs := r) (most := 72057594037927935) (at_ := 0) (bad := 0) (Nat.zero_le _)
    have hrec : recP r = if endR r (byteR r 7 (numRd r 72057594037927935 0 0).2.1 (numRd r 72057594037927935 0 0).2.2).2.1 (byteR r 7 (numRd r 72057594037927935 0 0).2.1 (numRd r 72057594037927935 0 0).2.2).2.2 = 0
      then some ((numRd r 72057594037927935 0 0).1, ((byteR r 7 (numRd r 72057594037927935 0 0).2.1 (numRd r 72057594037927935 0 0).2.2).1.toNat : Int)) else none := rfl
    generalize numRd r 72057594037927935 0 0 = z1 at hz1 hrec
    obtain ⟨t1, a1, e1⟩ := z1
    dsimp only at hz1 hrec ⊢
    (repeat' (first | refine a_go ?_ | (with_reducible apply Fin.thenK; assumption) | (with_reducible (first | apply C.seqK | apply C.regionK); intro _ _) | (apply R.buildSlice0; exact rfl; intro bz) | (apply R.box; exact rfl; (simp only [Value.cells]; rfl); exact rfl; intro bx) | (apply R.alloc; (simp only [Value.cells]; rfl); exact rfl; intro ba) | (apply R.buildSlice; (exact a_prt); exact rfl; exact rfl; (exact a_fills); exact rfl; intro bl) | (refine a_sp ?_ ?_; (intro h; skip; rotate_left; intro h; skip; rotate_left)) | fail))
    (apply R.call; (exact a_evs); exact rfl; exact rbyte_K (most := 7) (at_ := a1) (bad := e1) hb4 hz1; rintro _ M4 _ ⟨rfl, rfl, rfl⟩)
    generalize byteR r 7 a1 e1 = z2 at hrec
    obtain ⟨t2, a2, e2⟩ := z2
    dsimp only at hrec ⊢
    (repeat' (first | refine a_go ?_ | (with_reducible apply Fin.thenK; assumption) | (with_reducible (first | apply C.seqK | apply C.regionK); intro _ _) | (apply R.buildSlice0; exact rfl; intro bz) | (apply R.box; exact rfl; (simp only [Value.cells]; rfl); exact rfl; intro bx) | (apply R.alloc; (simp only [Value.cells]; rfl); exact rfl; intro ba) | (apply R.buildSlice; (exact a_prt); exact rfl; exact rfl; (exact a_fills); exact rfl; intro bl) | (refine a_sp ?_ ?_; (intro h; skip; rotate_left; intro h; skip; rotate_left)) | fail))
    (apply R.call; (exact a_evs); exact rfl; exact rend_K (at_ := a2) (bad := e2) hb4 (by omega); rintro _ M4 _ ⟨rfl, rfl, rfl⟩)
    by_cases hE : endR r a2 e2 = 0
    · rw [if_pos hE] at hrec
      rw [hE]
      (repeat' (first | (apply R.step; (apply Ok.move; exact rfl); exact rfl) | (apply R.step; (apply Ok.convBI; exact rfl); exact rfl) | refine a_go ?_ | (with_reducible apply Fin.thenK; assumption) | (with_reducible (first | apply C.seqK | apply C.regionK); intro _ _) | (apply R.buildSlice0; exact rfl; intro bz) | (apply R.box; exact rfl; (simp only [Value.cells]; rfl); exact rfl; intro bx) | (apply R.alloc; (simp only [Value.cells]; rfl); exact rfl; intro ba) | (apply R.buildSlice; (exact a_prt); exact rfl; exact rfl; (exact a_fills); exact rfl; intro bl) | (refine a_sp ?_ ?_; (intro h; skip; rotate_left; intro h; skip; rotate_left)) | fail))
      have hfl := frameS_len hr6
      (apply C.regionE (isA := [0, 1, 2, 3, 4]) (ksA := [true, true, false, true, true]) (isB := [5]) (ksB := [0]) (Hs := [(b8, .cells #[.int .i64 ↑s.at_] 3 (0, 0))]); exact Mix.h; (first | exact Arr.all _ | (exact a_arr)); (exact a_np); (exact a_picked); (exact a_picked); kernel_rfl; intro _ e; subst e)
      (repeat' (first | fail | (apply RQ.step; intro _ _ _; (exact a_ok); exact rfl) | (apply RQ.stepT; exact rfl; exact rfl; exact rfl; intro _ _ _; (exact a_ok); exact rfl) | (apply RQ.stepF; exact rfl; exact rfl; exact rfl; exact rfl; exact rfl)))
      (apply RQ.eff; intro Kc hKc ops0)
      (apply R.call; (exact a_evs); exact rfl; exact frame_KF (hplr.mono hM4) rfl (by omega); rintro v5 M5 _ ⟨hb5, hM5, rfl⟩)
      (apply R.nil; apply Fin.kq hKc; exact hM5; (exact a_arr))
      obtain ⟨A6, c6, rfl, _, _, _⟩ := hb5
      (repeat' (first | fail | (apply RQ.step; intro _ _ _; (exact a_ok); exact rfl) | (apply RQ.stepT; exact rfl; exact rfl; exact rfl; intro _ _ _; (exact a_ok); exact rfl) | (apply RQ.stepF; exact rfl; exact rfl; exact rfl; exact rfl; exact rfl)))
      apply RQ.nil
      (repeat' (first | (first | (apply RP.step; intro _ _ _; (exact a_ok); exact rfl) | (apply RP.stepT; exact rfl; exact rfl; exact rfl; intro _ _ _; (exact a_ok); exact rfl) | (apply RP.stepF; exact rfl; exact rfl; exact rfl; exact rfl; exact rfl) | (apply RP.effF; exact rfl; exact rfl; exact rfl; exact rfl; exact rfl)) | (apply RP.callQ; (exact a_evs); exact rfl)))
      (apply RP.eff; intro Kc hKc ops0)
      (first | (apply R.store; exact rfl; exact rfl; exact rfl; (exact a_at); (exact a_blit); exact rfl; (focus (simp [Value.oneCell']; done))) | (apply R.buildSlice0; exact rfl; intro bz) | (apply R.box; exact rfl; (simp only [Value.cells]; rfl); exact rfl; intro bx) | (apply R.alloc; (simp only [Value.cells]; rfl); exact rfl; intro ba) | (apply R.buildSlice; (exact a_prt); exact rfl; exact rfl; (exact a_fills); exact rfl; intro bl))
      (apply R.nil; apply Fin.kp hKc; exact hM5; (exact a_arr))
      (first | apply RP.nil0 | apply RP.nil)
      (repeat' (first | refine a_go ?_ | (with_reducible apply Fin.thenK; assumption) | (with_reducible (first | apply C.seqK | apply C.regionK); intro _ _) | (apply R.buildSlice0; exact rfl; intro bz) | (apply R.box; exact rfl; (simp only [Value.cells]; rfl); exact rfl; intro bx) | (apply R.alloc; (simp only [Value.cells]; rfl); exact rfl; intro ba) | (apply R.buildSlice; (exact a_prt); exact rfl; exact rfl; (exact a_fills); exact rfl; intro bl) | (refine a_sp ?_ ?_; (intro h; skip; rotate_left; intro h; skip; rotate_left)) | fail))
      (apply Fin.arr (H2 := (l, _) :: (bD, .deferred (some [])) :: (b8, .cells #[.int .i64 ((s.at_ + (frameS r).length : Nat) : Int)] 3 (0, 0)) :: (b7, .cells #[.int .u64 (t1 : Int), .int .i64 (t2.toNat : Int)] 44 (0, 0)) :: H'); (exact a_arr))
      refine hR.normal _ _ _ _ _ _ (At.head _ _ _) ?_
      refine ⟨true, ⟨(t1, (t2.toNat : Int)), s.at_ + (frameS r).length, false, M5⟩, rfl, rfl, ?_, hM3.trans_ (hM4.trans_ hM5), hr6, .inr ⟨rfl, hrec, rfl, rfl⟩⟩
      rw [hJ]
      rfl
    · rw [if_neg hE] at hrec
      (repeat' (first | (apply R.step; (apply Ok.move; exact rfl); exact rfl) | (apply R.step; (apply Ok.neIT; exact rfl; exact rfl; exact hE); exact rfl) | refine a_go ?_ | (with_reducible apply Fin.thenK; assumption) | (with_reducible (first | apply C.seqK | apply C.regionK); intro _ _) | (apply R.buildSlice0; exact rfl; intro bz) | (apply R.box; exact rfl; (simp only [Value.cells]; rfl); exact rfl; intro bx) | (apply R.alloc; (simp only [Value.cells]; rfl); exact rfl; intro ba) | (apply R.buildSlice; (exact a_prt); exact rfl; exact rfl; (exact a_fills); exact rfl; intro bl) | (refine a_sp ?_ ?_; (intro h; skip; rotate_left; intro h; skip; rotate_left)) | fail))
      apply Fin.blockOther (by exact rfl)
      (apply Fin.arr (H2 := (l, _) :: (bD, .deferred (some [])) :: (b8, .cells #[.int .i64 (s.at_ : Int)] 3 (0, 0)) :: (b7, .cells #[.int .u64 (s.h.1 : Int), .int .i64 s.h.2] 44 (0, 0)) :: H'); (exact a_arr))
      refine hR.exit _ _ _ _ _ _ _ (At.head _ _ _) ?_
      refine ⟨false, ⟨s.h, s.at_, true, M4⟩, rfl, rfl, ?_, hM3.trans_ hM4, hr6, .inl ⟨hrec, rfl, rfl, rfl, rfl⟩⟩
      rw [hJ]
      rfl
  · rintro v M' H' ⟨s', rfl, rfl, hend⟩
    obtain ⟨i1, i2⟩ := ends_op rfl hend
    dsimp only at i1 i2
    rw [i2] at hQ
    rw [hJ]
    clear hend hJ ho_
    obtain ⟨h, at_, brk, M3⟩ := s'
    dsimp only at i1 i2 hQ ⊢
    have ho3 := ho1.mono i1
    refine ⟨if brk then .done else .ready, if brk then some (.exit 0) else none, _, by cases brk <;> simp, At.head _ _ _, ?_⟩
    cases brk
    rotate_left
    (show C _ _ _ (.exit 0) _ _ _ _ _; apply C.exit; apply Fin.blockExit; generalize o _ _ = ob)
    rotate_left
    (show Fin _ .normal (Exit.inBlock 0 _) _ _ _ _; apply Fin.blockNormal; generalize o _ _ = ob)
    all_goals (apply Fin.arr (H2 := (l, ob) :: (bD, .deferred (some [])) :: (b8, .cells #[.int .i64 (at_ : Int)] 3 (0, 0)) :: (b7, .cells #[.int .u64 (h.1 : Int), .int .i64 h.2] 44 (0, 0)) :: (bx, .cells #[.slice A5 b.length c5] 25 (0, 0)) :: (hp1 ++ ((b2, .cells [.int .u64 0, .int .i64 0].toArray 44 (0, 0)) :: H))) (by (exact a_arr)) ?_)
    all_goals (
      obtain ⟨ht, hv⟩ := h
      dsimp only at hQ i2 ⊢
      (repeat' (first | refine a_go ?_ | (with_reducible apply Fin.thenK; assumption) | (with_reducible (first | apply C.seqK | apply C.regionK); intro _ _) | (apply R.buildSlice0; exact rfl; intro bz) | (apply R.box; exact rfl; (simp only [Value.cells]; rfl); exact rfl; intro bx) | (apply R.alloc; (simp only [Value.cells]; rfl); exact rfl; intro ba) | (apply R.buildSlice; (exact a_prt); exact rfl; exact rfl; (exact a_fills); exact rfl; intro bl) | (refine a_sp ?_ ?_; (intro h; skip; rotate_left; intro h; skip; rotate_left)) | fail))
      · have hlt : at_ < b.length := by
          have h : (at_ : Int) < (b.length : Int) := by assumption
          omega
        apply R.arr (H2 := hp1 ++ ((l, ob) :: (bD, .deferred (some [])) :: (b8, .cells #[.int .i64 (at_ : Int)] 3 (0, 0)) :: (b7, .cells #[.int .u64 (ht : Int), .int .i64 hv] 44 (0, 0)) :: (bx, .cells #[.slice A5 b.length c5] 25 (0, 0)) :: ((b2, .cells [.int .u64 0, .int .i64 0].toArray 44 (0, 0)) :: H))) (by ((try simp only [List.append_assoc, List.cons_append, List.nil_append, List.append_nil]); exact a_arr))
        (apply R.call; (exact a_evs); exact rfl; exact truncate_K (n := hfile) (k := (at_ : Int)) ho3 (by omega); rintro _ M4 _ ⟨rfl, hM4, hp4, ho4, rfl⟩)
        rw [Int.toNat_natCast] at ho4
        by_cases hte : trcE d1 hfile (at_ : Int) ≠ 0
        · have hE : openC d1 b ((ht, hv), at_) = (trcE d1 hfile (at_ : Int), opD (trcE d1 hfile (at_ : Int)) d1 (.trc hfile at_), (0, 0)) := (if_pos hlt).trans (if_pos hte)
          rw [hE] at hQ
          (repeat' (first | (apply R.step; (apply Ok.move; exact rfl); exact rfl) | (apply R.step; (apply Ok.neIT; exact rfl; exact rfl; exact hte); exact rfl) | refine a_go ?_ | (with_reducible apply Fin.thenK; assumption) | (with_reducible (first | apply C.seqK | apply C.regionK); intro _ _) | (apply R.buildSlice0; exact rfl; intro bz) | (apply R.box; exact rfl; (simp only [Value.cells]; rfl); exact rfl; intro bx) | (apply R.alloc; (simp only [Value.cells]; rfl); exact rfl; intro ba) | (apply R.buildSlice; (exact a_prt); exact rfl; exact rfl; (exact a_fills); exact rfl; intro bl) | (refine a_sp ?_ ?_; (intro h; skip; rotate_left; intro h; skip; rotate_left)) | fail))
          (apply Fin.returnM (H2 := hp4 ++ H); assumption; exact .inl rfl; exact rfl; exact Marks.cons (by (exact a_at)) (Marks.nil _); (exact a_res); (simp only [retv]; rfl); (exact a_arr))
          exact ⟨rfl, hM1.trans_ (hM2.trans_ (i1.trans_ hM4)), hp4, ho4, rfl⟩
        · have hte0 : trcE d1 hfile (at_ : Int) = 0 := by omega
          have hE : openC d1 b ((ht, hv), at_) = (0, opD 0 d1 (.trc hfile at_), (ht, hv)) := (if_pos hlt).trans (if_neg hte)
          rw [hE] at hQ
          rw [hte0] at ho4 ⊢
          (repeat' (first | refine a_go ?_ | (with_reducible apply Fin.thenK; assumption) | (with_reducible (first | apply C.seqK | apply C.regionK); intro _ _) | (apply R.buildSlice0; exact rfl; intro bz) | (apply R.box; exact rfl; (simp only [Value.cells]; rfl); exact rfl; intro bx) | (apply R.alloc; (simp only [Value.cells]; rfl); exact rfl; intro ba) | (apply R.buildSlice; (exact a_prt); exact rfl; exact rfl; (exact a_fills); exact rfl; intro bl) | (refine a_sp ?_ ?_; (intro h; skip; rotate_left; intro h; skip; rotate_left)) | fail))
          (apply Fin.returnM (H2 := hp4 ++ H); assumption; exact .inl rfl; exact rfl; exact Marks.cons (by (exact a_at)) (Marks.nil _); (exact a_res); (simp only [retv]; rfl); (exact a_arr))
          exact ⟨rfl, hM1.trans_ (hM2.trans_ (i1.trans_ hM4)), hp4, ho4, rfl⟩
      · have hlt : ¬ at_ < b.length := by
          have h : ¬ (at_ : Int) < (b.length : Int) := by assumption
          omega
        have hE : openC d1 b ((ht, hv), at_) = (0, d1, (ht, hv)) := if_neg hlt
        rw [hE] at hQ
        (apply Fin.returnM (H2 := hp1 ++ H); assumption; exact .inl rfl; exact rfl; exact Marks.cons (by (exact a_at)) (Marks.nil _); (exact a_res); (simp only [retv]; rfl); (exact a_arr))
        exact ⟨rfl, hM1.trans_ (hM2.trans_ i1), hp1, ho3, rfl⟩)
end Go.Sx
end
section
namespace Go.Sx
open Go Go.Proofs Go.RowKit
theorem numGo_lay {bs : Txt} {at_ : Nat} : ∀ (k i m acc : Nat), i + k = 10 → 0 < k → m * 128 ^ i < 18446744073709551616 → (0 < i → 0 < m) → (∀ j, j < (numS m).length → bs[at_ + i + j]? = (numS m)[j]?) → numGo bs at_ k i acc = (acc + m * 128 ^ i, 0, at_ + i + (numS m).length)
  | 0, _, _, _, _, h, _, _, _ => absurd h (by decide)
  | k + 1, i, m, acc, hik, _, hm, hi0, hb => by
    have hpos : 0 < 128 ^ i := Nat.pow_pos (by decide)
    have h9 : i = 9 → m ≤ 1 := by
      rintro rfl
      have : (128 : Nat) ^ 9 = 9223372036854775808 := by decide
      rw [this] at hm
      omega
    unfold numGo
    by_cases hlo : m < 128
    · rw [numS_lo hlo] at hb ⊢
      have h0 := hb 0 (Nat.zero_lt_one)
      rw [Nat.add_zero] at h0
      rw [h0]
      have hx : (UInt8.ofNat m).toNat = m := by
        rw [UInt8.toNat_ofNat']
        omega
      show (if i = 9 ∧ 1 < (UInt8.ofNat m).toNat then _ else _) = _
      rw [hx, if_neg (by omega), if_neg (by omega), if_neg (by omega), Nat.mod_eq_of_lt hlo]
      rfl
    · rw [numS_hi hlo] at hb ⊢
      have h0 := hb 0 (by simp)
      rw [Nat.add_zero] at h0
      rw [h0]
      have hx : (UInt8.ofNat m ||| 128).toNat = m % 128 + 128 := by
        rw [or128_toNat, UInt8.toNat_ofNat']
        omega
      show (if i = 9 ∧ 1 < (UInt8.ofNat m ||| 128).toNat then _ else _) = _
      rw [hx, if_neg (by omega), if_pos (by omega), show (m % 128 + 128) % 128 = m % 128 by omega]
      have hdm := Nat.div_add_mod m 128
      have e1 : m / 128 * 128 ^ (i + 1) + m % 128 * 128 ^ i = m * 128 ^ i := by
        rw [Nat.pow_succ, Nat.mul_comm (128 ^ i) 128, ← Nat.mul_assoc, ← Nat.add_mul]
        congr 1
        omega
      have hk : i < 9 := by omega
      have h2 := numGo_lay (bs := bs) (at_ := at_) k (i + 1) (m / 128) (acc + m % 128 * 128 ^ i) (by omega) (by omega) (by omega) (by omega) (fun j hj => by
        have := hb (j + 1) (by rw [List.length_cons]; omega)
        rw [List.getElem?_cons_succ] at this
        rw [← this]
        congr 1
        omega)
      rw [h2, List.length_cons]
      refine Prod.ext (by show _ + _ + _ = acc + m * 128 ^ i; omega) (Prod.ext rfl (by show _ + _ = at_ + i + ((numS (m / 128)).length + 1); omega))
theorem numR_lay {n : Nat} {rest pre : Txt} (h : n ≤ 18446744073709551615) : numR (pre ++ (numS n ++ rest)) pre.length = (n, 0, pre.length + (numS n).length) := by
  have := numGo_lay (bs := pre ++ (numS n ++ rest)) (at_ := pre.length) 10 0 n 0 rfl (by decide) (by omega) (by omega) (fun j hj => by
    rw [Nat.add_zero, List.getElem?_append_right (by omega), Nat.add_sub_cancel_left, List.getElem?_append_left hj])
  unfold numR
  rw [this]
  refine Prod.ext (by show 0 + n * 1 = n; omega) (Prod.ext rfl rfl)
theorem numRd_lay {n most : Nat} {rest pre : Txt} (h : n ≤ 18446744073709551615) (hm : n ≤ most) : numRd (pre ++ (numS n ++ rest)) most pre.length 0 = (n, pre.length + (numS n).length, 0) := by
  unfold numRd
  rw [numR_lay h, if_neg (by decide), if_neg (by dsimp only; omega), if_neg (fun h => h rfl)]
theorem recP_lay {t : Nat} {v : Int} (ht : t ≤ 72057594037927935) (h0 : 0 ≤ v) (h7 : v ≤ 7) : (numRd (numS t ++ [UInt8.ofNat v.toNat]) 72057594037927935 0 0 = (t, (numS t).length, 0)) ∧ byteR (numS t ++ [UInt8.ofNat v.toNat]) 7 (numS t).length 0 = (UInt8.ofNat v.toNat, (numS t).length + 1, 0) ∧ endR (numS t ++ [UInt8.ofNat v.toNat]) ((numS t).length + 1) 0 = 0 := by
  refine ⟨?_, ?_, ?_⟩
  · have := numRd_lay (n := t) (most := 72057594037927935) (rest := [UInt8.ofNat v.toNat]) (pre := []) (by omega) ht
    rw [List.nil_append, List.length_nil, Nat.zero_add] at this
    exact this
  · unfold byteR
    rw [if_neg (fun h => h rfl), List.getElem?_append_right (Nat.le_refl _), Nat.sub_self, List.getElem?_cons_zero]
    have h : ¬ (7 : UInt8) < UInt8.ofNat v.toNat := by
      rw [UInt8.lt_iff_toNat_lt, UInt8.toNat_ofNat']
      show ¬ 7 < _
      omega
    dsimp only
    exact if_neg h
  · unfold endR
    refine if_neg ?_
    rw [List.length_append, List.length_singleton]
    omega
end Go.Sx
end
section
namespace Go.Sx
open Go Go.Proofs Go.RowKit
attribute [local irreducible] C R Fin K Own OwnT Rd Pl Ok KOf RetOk OpsOf RP KP Res NoPanic KV KE MapS ItS EntS FsO FsR RowD PlD DkO
variable {M M' : Mem} {H H1 H2 : Hp}
def k2 : Dk := opD 0 (newD 9) (.app [97] [120, 121, 122])
def k3 : Dk := synD k2
def k4 : Dk := opD 0 k3 (.app [97] [49, 50])
def k5 : Dk := opD 0 k4 (.rem [97])
def k6 : Dk := crashD k5 1 0
end Go.Sx
end
section
namespace Go.Sx
open Go Go.Proofs Go.RowKit
def onF (n : Txt) : Option Txt → Fs
  | none => []
  | some b => [(n, b)]
theorem onF_get (n : Txt) (x : Option Txt) : getS (onF n x) n = x := by
  cases x with
  | none => rfl
  | some b => simp [onF, getS]
theorem onF_put (n : Txt) (x : Option Txt) (b : Txt) : putS (onF n x) n b = onF n (some b) := by
  cases x with
  | none => simp [onF, putS, keyS]
  | some c => simp [onF, putS, keyS]
theorem onF_app (n : Txt) (x : Option Txt) (b : Txt) : doF (onF n x) (.app n b) = onF n (some (x.getD [] ++ b)) := by
  show putS (onF n x) n (fileD (onF n x) n ++ b) = _
  unfold fileD
  rw [onF_get, onF_put]
theorem onF_sum (n : Txt) (x : Option Txt) : sumF (onF n x) = (x.getD []).length := by
  cases x with
  | none => rfl
  | some b => simp [onF, sumF]
theorem onF_len (n : Txt) (x : Option Txt) : (onF n x).length ≤ 1 := by
  cases x <;> simp [onF]
end Go.Sx
end
section
namespace Go.Sx
open Go Go.Proofs Go.RowKit
abbrev Hd := Nat × Int
def recH (h : Hd) : Txt := recS h.1 h.2
def okH (h : Hd) : Prop := h.1 ≤ 72057594037927935 ∧ 0 ≤ h.2 ∧ h.2 ≤ 7
theorem okH_right {h : Hd} (ok : okH h) : rightH h.1 h.2 = true := by
  unfold rightH
  rw [decide_eq_true ok.1, decide_eq_true ok.2.1, decide_eq_true ok.2.2]
  rfl
theorem recP_rec {h : Hd} (ok : okH h) : recP (recH h) = some h := by
  obtain ⟨e1, e2, e3⟩ := recP_lay ok.1 ok.2.1 ok.2.2
  unfold recP recH recS
  rw [e1]
  dsimp only
  rw [e2]
  dsimp only
  rw [e3, if_pos rfl]
  refine congrArg some (Prod.ext rfl ?_)
  rw [UInt8.toNat_ofNat']
  have := ok.2
  show ((h.2.toNat % 256 : Nat) : Int) = h.2
  omega
theorem recH_len {h : Hd} (ok : okH h) : (recH h).length ≤ 11 := recS_len (by have := ok.1; omega)
theorem openF_recs : ∀ (l : List Hd) (h0 : Hd) (a : Nat), (∀ h ∈ l, okH h) → openF (l.map recH) h0 a = (l.getLastD h0, a + endS (l.map recH))
  | [], _, _, _ => rfl
  | h :: l, h0, a, ok => by
    have oh := ok h (List.mem_cons_self ..)
    have hl := recH_len oh
    rw [List.map_cons, openF_some (recP_rec oh), openF_recs l h _ (fun x hx => ok x (List.mem_cons_of_mem _ hx)), List.getLastD_cons, endS_cons, frameS_len (by omega)]
    refine Prod.ext rfl ?_
    show _ + _ + _ = _ + (_ + _)
    omega
def viewB (b : Txt) : Hd := (openF (framesF b.length b) (0, 0) 0).1
def fileH (l : List Hd) : Txt := cat (l.map recH)
theorem recs_len {l : List Hd} (ok : ∀ h ∈ l, okH h) : ∀ p ∈ l.map recH, p.length ≤ 65536 := by
  intro p hp
  obtain ⟨h, hh, rfl⟩ := List.mem_map.1 hp
  have := recH_len (ok h hh)
  omega
theorem fileH_snoc (l : List Hd) (h : Hd) : fileH (l ++ [h]) = fileH l ++ frameS (recH h) := by
  unfold fileH
  rw [List.map_append]
  exact cat_snoc _ _
theorem viewB_cut {l : List Hd} {k : Nat} (ok : ∀ h ∈ l, okH h) (hk : k ≤ (fileH l).length) (hb : (fileH l).length < 4294967296) : viewB ((fileH l).take k) = (l.take (wholeN (l.map recH) k)).getLastD (0, 0) := by
  unfold viewB
  have := frames_cut (l.map recH) k (recs_len ok) hk (by omega)
  unfold fileH
  rw [this, ← List.map_take, openF_recs _ _ _ (fun h hh => ok h (List.mem_of_mem_take hh))]
theorem open_all {l : List Hd} (ok : ∀ h ∈ l, okH h) (hb : (fileH l).length < 4294967296) : openF (framesF (fileH l).length (fileH l)) (0, 0) 0 = (l.getLastD (0, 0), (fileH l).length) := by
  unfold fileH at hb ⊢
  rw [frames_cat _ (recs_len ok) hb, openF_recs _ _ _ ok, Nat.zero_add, cat_len _ (recs_len ok)]
theorem viewB_all {l : List Hd} (ok : ∀ h ∈ l, okH h) (hb : (fileH l).length < 4294967296) : viewB (fileH l) = l.getLastD (0, 0) := by
  unfold viewB
  rw [open_all ok hb]
theorem fileH_end {l : List Hd} (ok : ∀ h ∈ l, okH h) : (fileH l).length = endS (l.map recH) := cat_len _ (recs_len ok)
theorem torn_whole {l : List Hd} {h : Hd} {t : Nat} (ok : ∀ h ∈ l, okH h) (oh : okH h) (ht : t < (frameS (recH h)).length) : wholeN ((l ++ [h]).map recH) ((fileH l).length + t) = l.length := by
  refine wholeN_is _ _ _ (by simp) ?_ (.inr ?_)
  · rw [List.map_append, List.take_append_of_le_length (by simp), List.take_of_length_le (by simp), fileH_end ok]
    omega
  · rw [List.take_of_length_le (by simp), ← fileH_end (l := l ++ [h]) (by
      intro x hx
      rcases List.mem_append.1 hx with hx | hx
      · exact ok x hx
      · rw [List.mem_singleton] at hx
        rw [hx]
        exact oh), fileH_snoc, List.length_append]
    omega
theorem ok_snoc {l : List Hd} {h : Hd} (ok : ∀ h ∈ l, okH h) (oh : okH h) : ∀ x ∈ l ++ [h], okH x := by
  intro x hx
  rcases List.mem_append.1 hx with hx | hx
  · exact ok x hx
  · rw [List.mem_singleton] at hx
    rw [hx]
    exact oh
theorem viewB_torn {l : List Hd} {h : Hd} {t : Nat} (ok : ∀ h ∈ l, okH h) (oh : okH h) (ht : t < (frameS (recH h)).length) (hb : (fileH l).length < 4294000000) : viewB (fileH l ++ (frameS (recH h)).take t) = l.getLastD (0, 0) := by
  have hl := recH_len oh
  have hfl := frameS_len (bs := recH h) (by omega)
  have e : fileH l ++ (frameS (recH h)).take t = (fileH (l ++ [h])).take ((fileH l).length + t) := by
    rw [fileH_snoc, List.take_length_add_append]
  rw [e, viewB_cut (ok_snoc ok oh) (by rw [fileH_snoc, List.length_append]; omega) (by rw [fileH_snoc, List.length_append]; omega), torn_whole ok oh ht, List.take_append_of_le_length (Nat.le_refl _), List.take_length]
theorem getS_del_ne {α : Type} {n k : Txt} (h : k ≠ n) : ∀ l : List (Txt × α), getS (delS l n) k = getS l k
  | [] => rfl
  | p :: l => by
    have ih := getS_del_ne h l
    unfold getS delS at ih ⊢
    rw [List.filter_cons]
    by_cases hp : p.1 = n
    · rw [if_neg (by simp [hp]), ih, List.find?_cons_of_neg (by rw [hp]; simp [Ne.symm h])]
    · rw [if_pos (by simp [hp])]
      by_cases hk : p.1 = k
      · rw [List.find?_cons_of_pos (by simp [hk]), List.find?_cons_of_pos (by simp [hk])]
      · rw [List.find?_cons_of_neg (by simp [hk]), List.find?_cons_of_neg (by simp [hk]), ih]
def goes (d : Dk) : Prop := d.fuse = -1 ∧ d.down = false
theorem goes.stop {d : Dk} (h : goes d) : ¬ stopD d := by
  rintro (h1 | h1)
  · rw [h.2] at h1
    cases h1
  · rw [h.1] at h1
    cases h1
theorem goes.cnt {d : Dk} (h : goes d) : cntD d = d := by
  unfold cntD
  rw [if_neg h.stop, h.1, if_neg (by decide), ← h.1]
theorem goes.op {d : Dk} {x : De} (h : goes d) : opD 0 d x = { d with ps := d.ps ++ [x] } := by
  unfold opD
  rw [if_pos rfl, h.cnt]
theorem goes.read {d : Dk} (h : goes d) (n : Txt) : readD d n = getS d.now n := by
  unfold readD
  rw [h.2]
  rfl
theorem goes.op' {d : Dk} {x : De} (h : goes d) : goes (opD 0 d x) := by
  rw [h.op]
  exact h
theorem goes.now {d : Dk} {x : De} (h : goes d) : (opD 0 d x).now = doF d.now x := by
  rw [h.op]
  unfold Dk.now
  rw [List.foldl_append]
  rfl
def viewF (F : Fs) : Hd := viewB (fileD F hfile)
theorem hnew_ne : hfile ≠ hnew := by decide
theorem clear_is {d : Dk} (h : goes d) : (clearD d).1 = 0 ∧ goes (clearD d).2 ∧ getS (clearD d).2.now hfile = getS d.now hfile := by
  unfold clearD
  split
  · rename_i hs
    rw [h.read] at hs
    have e : remE d hnew = 0 := (if_neg h.stop).trans (if_neg (by rw [Option.isSome_iff_ne_none] at hs; exact hs))
    rw [e]
    refine ⟨rfl, h.op', ?_⟩
    dsimp only
    rw [h.now]
    exact getS_del_ne hnew_ne _
  · exact ⟨rfl, h, rfl⟩
theorem open_view {d : Dk} (h : goes d) : (openD d).1 = 0 ∧ (openD d).2.2 = viewF d.now := by
  obtain ⟨c1, c2, c3⟩ := clear_is h
  unfold openD
  rw [if_neg (fun h => h c1), c2.read, c3]
  generalize hz : openF _ (0, 0) 0 = z
  have hv : viewF d.now = z.1 := by
    rw [← hz]
    rfl
  rw [hv]
  unfold openC
  split
  · rename_i hl
    have hne : getS (clearD d).2.now hfile ≠ none := by
      rw [c3]
      intro hn
      rw [hn] at hl
      cases hl
    have e : trcE (clearD d).2 hfile (z.2 : Int) = 0 := by
      refine (if_neg c2.stop).trans ((if_neg hne).trans (if_neg ?_))
      unfold fileD
      rw [c3]
      omega
    rw [if_neg (fun h => h e)]
    exact ⟨rfl, rfl⟩
  · exact ⟨rfl, rfl⟩
end Go.Sx
end
section
namespace Go.Sx
open Go Go.Proofs Go.RowKit
def CrI (d : Dk) (cand : List Hd) : Prop := ∀ k, k ≤ d.ps.length → viewF ((d.ps.take k).foldl doF d.S) ∈ cand ∧ ∀ n b, d.ps[k]? = some (.app n b) → ∀ t, t < b.length → viewF (doF ((d.ps.take k).foldl doF d.S) (.app n (b.take t))) ∈ cand
theorem CrI.sub {d : Dk} {c c' : List Hd} (h : CrI d c) (hs : ∀ x ∈ c, x ∈ c') : CrI d c' := fun k hk => ⟨hs _ (h k hk).1, fun n b hb t ht => hs _ ((h k hk).2 n b hb t ht)⟩
theorem CrI.op {d : Dk} {c : List Hd} {x : De} (g : goes d) (h : CrI d c) (hn : viewF (doF d.now x) ∈ c) (ht : ∀ n b, x = .app n b → ∀ t, t < b.length → viewF (doF d.now (.app n (b.take t))) ∈ c) : CrI (opD 0 d x) c := by
  rw [g.op]
  intro k hk
  change k ≤ (d.ps ++ [x]).length at hk
  rw [List.length_append, List.length_singleton] at hk
  show viewF (((d.ps ++ [x]).take k).foldl doF d.S) ∈ c ∧ ∀ n b, (d.ps ++ [x])[k]? = some (.app n b) → _
  by_cases h1 : k ≤ d.ps.length
  · rw [List.take_append_of_le_length h1]
    refine ⟨(h k h1).1, fun n b hb t htb => ?_⟩
    by_cases h2 : k < d.ps.length
    · rw [List.getElem?_append_left h2] at hb
      have := (h k h1).2 n b hb t htb
      exact this
    · have e : k = d.ps.length := by omega
      subst e
      rw [List.getElem?_append_right (Nat.le_refl _), Nat.sub_self, List.getElem?_cons_zero] at hb
      have := ht n b (Option.some.inj hb) t htb
      show viewF (doF ((d.ps.take d.ps.length).foldl doF d.S) (.app n (b.take t))) ∈ c
      rw [List.take_length]
      exact this
  · have e : k = d.ps.length + 1 := by omega
    subst e
    have e2 : (d.ps ++ [x]).take (d.ps.length + 1) = d.ps ++ [x] := List.take_of_length_le (by simp)
    rw [e2, List.foldl_append]
    refine ⟨hn, fun n b hb => ?_⟩
    rw [List.getElem?_eq_none (by simp)] at hb
    cases hb
theorem CrI.crash {d : Dk} {c : List Hd} (h : CrI d c) (keep torn : Int) : viewF (crashD d keep torn).now ∈ c := by
  have hk : keepD d keep ≤ d.ps.length := by
    unfold keepD
    have h0 : 0 ≤ keep % ((d.ps.length + 1 : Nat) : Int) := Int.emod_nonneg _ (by omega)
    have h1 : keep % ((d.ps.length + 1 : Nat) : Int) < ((d.ps.length + 1 : Nat) : Int) := Int.emod_lt_of_pos _ (by omega)
    omega
  obtain ⟨h1, h2⟩ := h _ hk
  show viewF (crashF d keep torn) ∈ c
  unfold crashF
  split
  · rename_i x hx
    unfold tornF
    split
    · rename_i n b
      split
      · rename_i hb
        refine h2 n b hx _ ?_
        have ht1 : torn % (b.length : Int) < (b.length : Int) := Int.emod_lt_of_pos _ (by omega)
        omega
      · exact h1
    · exact h1
  · exact h1
theorem crash_goes (d : Dk) (keep torn : Int) : goes (crashD d keep torn) := ⟨rfl, rfl⟩
structure HI (d : Dk) (l cand : List Hd) : Prop where
  room : d.room = 1048576
  go : goes d
  now : ∃ x, d.now = onF hfile x ∧ x.getD [] = fileH l
  ok : ∀ h ∈ l, okH h
  len : (fileH l).length < 300
  last : l.getLastD (0, 0) ∈ cand
  crash : CrI d cand
theorem HI.sub {d : Dk} {l c c' : List Hd} (h : HI d l c) (hs : ∀ x ∈ c, x ∈ c') : HI d l c' := ⟨h.1, h.2, h.3, h.4, h.5, hs _ h.6, h.7.sub hs⟩
theorem HI.new : HI (newD 1048576) [] [(0, 0)] := by
  refine ⟨rfl, ⟨rfl, rfl⟩, ⟨none, rfl, rfl⟩, ?_, by decide, by simp, ?_⟩
  · intro h hh
    cases hh
  · intro k hk
    have : k = 0 := by
      change k ≤ 0 at hk
      omega
    subst this
    refine ⟨?_, fun n b hb => by cases hb⟩
    show viewB (fileH []) ∈ _
    rw [viewB_all (l := []) (fun h hh => by cases hh) (by decide)]
    simp
theorem viewF_on {x : Option Txt} {l : List Hd} (e : x.getD [] = fileH l) : viewF (onF hfile x) = viewB (fileH l) := by
  unfold viewF fileD
  rw [onF_get, e]
theorem HI.view {d : Dk} {l c : List Hd} (h : HI d l c) : viewF d.now = l.getLastD (0, 0) := by
  obtain ⟨x, e1, e2⟩ := h.now
  rw [e1, viewF_on e2, viewB_all h.ok (by have := h.len; omega)]
theorem frame_rec {h : Hd} (oh : okH h) : (frameS (recH h)).length ≤ 19 := by
  have := recH_len oh
  rw [frameS_len (by omega)]
  omega
theorem read_hnew {d : Dk} {l c : List Hd} (h : HI d l c) : readD d hnew = none := by
  obtain ⟨x, e1, _⟩ := h.now
  rw [h.go.read, e1]
  cases x with
  | none => rfl
  | some b => rfl
theorem app_ok {d : Dk} {l c : List Hd} {h : Hd} (hi : HI d l c) (oh : okH h) {n : Txt} (hn : namedB n = true) : appE d n (frameS (recH h)) = 0 := by
  obtain ⟨x, e1, e2⟩ := hi.now
  have hl := frame_rec oh
  refine (if_neg hi.go.stop).trans ((if_neg (by rw [hn]; decide)).trans (if_neg ?_))
  rw [hi.room, e1, onF_sum, e2]
  have := onF_len hfile x
  have := hi.len
  rintro (h | ⟨_, h⟩) <;> omega
theorem HI.save {d : Dk} {l c : List Hd} {h : Hd} (hi : HI d l c) (oh : okH h) : ∃ l', (saveD d h.1 h.2).1 = 0 ∧ HI (saveD d h.1 h.2).2 l' (c ++ [h]) ∧ l'.getLastD (0, 0) = h ∧ (saveD d h.1 h.2).2.ps.length ≤ d.ps.length + 2 := by
  have hi' := hi.sub (c' := c ++ [h]) (fun x hx => List.mem_append_left _ hx)
  have hv := hi.view
  obtain ⟨x, e1, e2⟩ := hi.now
  have hl := frame_rec oh
  have hlen := hi.len
  have hrd : readD d hfile = x := by rw [hi.go.read, e1, onF_get]
  have hrg : ¬ rightH h.1 h.2 = false := by
    rw [okH_right oh]
    decide
  by_cases h256 : (fileH l).length < 256
  · have e : appE d hfile (frameS (recH h)) = 0 := app_ok hi oh rfl
    have hE : saveD d h.1 h.2 = (0, opD 0 d (.app hfile (frameS (recH h)))) := by
      unfold saveD
      rw [if_neg hrg, hrd, e2, if_pos h256]
      change (appE d hfile (frameS (recH h)), opD (appE d hfile (frameS (recH h))) d (.app hfile (frameS (recH h)))) = _
      rw [e]
    rw [hE]
    dsimp only
    have hnow : (opD 0 d (.app hfile (frameS (recH h)))).now = onF hfile (some (fileH l ++ frameS (recH h))) := by
      rw [hi.go.now, e1, onF_app, e2]
    have hview : ∀ t, viewF (doF d.now (.app hfile ((frameS (recH h)).take t))) = viewB (fileH l ++ (frameS (recH h)).take t) := by
      intro t
      rw [e1, onF_app, e2]
      unfold viewF fileD
      rw [onF_get]
      rfl
    refine ⟨l ++ [h], rfl, ⟨?_, hi.go.op', ⟨_, hnow, by rw [fileH_snoc]; rfl⟩, ok_snoc hi.ok oh, by rw [fileH_snoc, List.length_append]; omega, by simp, ?_⟩, by simp, ?_⟩
    · rw [hi.go.op]
      exact hi.room
    · refine hi'.crash.op hi.go ?_ ?_
      · have := hview (frameS (recH h)).length
        rw [List.take_length, ← fileH_snoc, viewB_all (ok_snoc hi.ok oh) (by rw [fileH_snoc, List.length_append]; omega)] at this
        rw [this]
        simp
      · rintro n b hb t ht
        cases hb
        rw [hview, viewB_torn hi.ok oh ht (by omega)]
        exact hi'.last
    · have := opD_ps d 0 (.app hfile (frameS (recH h)))
      omega
  · have hcl : clearD d = (0, d) := by
      unfold clearD
      rw [read_hnew hi]
      rfl
    have e : appE d hnew (frameS (recH h)) = 0 := app_ok hi oh rfl
    obtain ⟨b, rfl⟩ : ∃ b, x = some b := by
      cases x with
      | none =>
        rw [← e2] at h256
        exact absurd (show ([] : Txt).length < 256 by decide) h256
      | some b => exact ⟨b, rfl⟩
    change b = fileH l at e2
    have g2 := hi.go.op' (x := .app hnew (frameS (recH h)))
    have hn2 : ∀ f, doF d.now (.app hnew f) = [(hfile, b), (hnew, f)] := by
      intro f
      rw [e1]
      rfl
    have hnow2 : (opD 0 d (.app hnew (frameS (recH h)))).now = [(hfile, b), (hnew, frameS (recH h))] := by
      rw [hi.go.now, hn2]
    have hr : renE (opD 0 d (.app hnew (frameS (recH h)))) hnew hfile = 0 := by
      refine (if_neg g2.stop).trans ((if_neg (by decide)).trans (if_neg ?_))
      rw [hnow2]
      intro h
      cases h
    have hv2 : ∀ f, viewF [(hfile, b), (hnew, f)] = l.getLastD (0, 0) := by
      intro f
      have : fileD [(hfile, b), (hnew, f)] hfile = fileH l := e2
      unfold viewF
      rw [this, viewB_all hi.ok (by omega)]
    have hc2 : CrI (opD 0 d (.app hnew (frameS (recH h)))) (c ++ [h]) := by
      refine hi'.crash.op hi.go ?_ ?_
      · rw [hn2, hv2]
        exact hi'.last
      · rintro n b' hb t ht
        cases hb
        rw [hn2, hv2]
        exact hi'.last
    have hn3 : doF (opD 0 d (.app hnew (frameS (recH h)))).now (.ren hnew hfile) = onF hfile (some (frameS (recH h))) := by
      rw [hnow2]
      rfl
    have hf1 : fileH [h] = frameS (recH h) := by
      unfold fileH cat
      simp
    have hok1 : ∀ x ∈ [h], okH x := by
      intro x hx
      rw [List.mem_singleton] at hx
      rw [hx]
      exact oh
    have hE : saveD d h.1 h.2 = (0, opD 0 (opD 0 d (.app hnew (frameS (recH h)))) (.ren hnew hfile)) := by
      unfold saveD
      rw [if_neg hrg, hrd, if_neg (by rw [show (some b).getD [] = fileH l from e2]; exact h256), hcl, if_neg (fun h => h rfl)]
      change (if appE d hnew (frameS (recH h)) ≠ 0 then _ else (renE (opD 0 d (.app hnew (frameS (recH h)))) hnew hfile, opD (renE (opD 0 d (.app hnew (frameS (recH h)))) hnew hfile) (opD 0 d (.app hnew (frameS (recH h)))) (.ren hnew hfile))) = _
      rw [if_neg (fun h => h e), hr]
    rw [hE]
    refine ⟨[h], rfl, ⟨?_, g2.op', ⟨_, (g2.now).trans hn3, hf1.symm⟩, hok1, by rw [hf1]; omega, by simp, ?_⟩, rfl, ?_⟩
    · dsimp only
      rw [g2.op, hi.go.op]
      exact hi.room
    · refine hc2.op g2 ?_ ?_
      · rw [hn3, viewF_on (x := some (frameS (recH h))) (l := [h]) hf1.symm, viewB_all hok1 (by rw [hf1]; omega)]
        simp
      · rintro n b' hb
        cases hb
    · dsimp only
      have h1 := opD_ps d 0 (.app hnew (frameS (recH h)))
      have h2 := opD_ps (opD 0 d (.app hnew (frameS (recH h)))) 0 (.ren hnew hfile)
      omega
theorem HI.sync {d : Dk} {l c : List Hd} (hi : HI d l c) : synE d = 0 ∧ HI (synD d) l [l.getLastD (0, 0)] ∧ (synD d).ps = [] := by
  have hs : synD d = ⟨d.room, d.now, [], d.fuse, d.down⟩ := by
    unfold synD
    rw [if_neg hi.go.stop, hi.go.cnt]
  rw [hs]
  refine ⟨if_neg hi.go.stop, ⟨hi.room, hi.go, hi.now, hi.ok, hi.len, by simp, ?_⟩, rfl⟩
  intro k hk
  have : k = 0 := by
    change k ≤ 0 at hk
    omega
  subst this
  refine ⟨?_, fun n b hb => by cases hb⟩
  show viewF d.now ∈ _
  rw [hi.view]
  simp
theorem HI.open {d : Dk} {l c : List Hd} (hi : HI d l c) : openD d = (0, d, l.getLastD (0, 0)) := by
  have hcl : clearD d = (0, d) := by
    unfold clearD
    rw [read_hnew hi]
    rfl
  obtain ⟨x, e1, e2⟩ := hi.now
  have hrd : (readD d hfile).getD [] = fileH l := by rw [hi.go.read, e1, onF_get, e2]
  unfold openD
  rw [hcl, if_neg (fun h => h rfl)]
  dsimp only
  rw [hrd, open_all hi.ok (by have := hi.len; omega)]
  exact if_neg (Nat.lt_irrefl _)
end Go.Sx
end
section
namespace Go.Sx
open Go Go.Proofs Go.RowKit
attribute [local irreducible] C R Fin K Own OwnT Rd Pl Ok KOf RetOk OpsOf RP KP Res NoPanic KV KE MapS ItS EntS FsO FsR RowD PlD DkO
variable {M M' : Mem} {H H1 H2 : Hp}
theorem HI.saveE {d : Dk} {l c : List Hd} {h : Hd} (hi : HI d l c) (oh : okH h) (h256 : (fileH l).length < 256) : saveD d h.1 h.2 = (0, opD 0 d (.app hfile (frameS (recH h)))) := by
  obtain ⟨x, e1, e2⟩ := hi.now
  have hrd : readD d hfile = x := by rw [hi.go.read, e1, onF_get]
  have hrg : ¬ rightH h.1 h.2 = false := by
    rw [okH_right oh]
    decide
  have e : appE d hfile (frameS (recH h)) = 0 := app_ok hi oh rfl
  unfold saveD
  rw [if_neg hrg, hrd, e2, if_pos h256]
  change (appE d hfile (frameS (recH h)), opD (appE d hfile (frameS (recH h))) d (.app hfile (frameS (recH h)))) = _
  rw [e]
theorem crash_first {d : Dk} {l c : List Hd} {h : Hd} (hi : HI d l c) (oh : okH h) (hps : d.ps = []) : viewF (crashD (opD 0 d (.app hfile (frameS (recH h)))) 0 3).now = l.getLastD (0, 0) := by
  obtain ⟨x, e1, e2⟩ := hi.now
  have hS : d.S = onF hfile x := by
    rw [← e1]
    unfold Dk.now
    rw [hps]
    rfl
  have hfl := frameS_len (bs := recH h) (by have := recH_len oh; omega)
  have hk : keepD (opD 0 d (.app hfile (frameS (recH h)))) 0 = 0 := by
    unfold keepD
    rw [Int.zero_emod]
    rfl
  have ht : (3 % ((frameS (recH h)).length : Int)).toNat = 3 := by
    rw [Int.emod_eq_of_lt (by decide) (by omega)]
    rfl
  show viewF (crashF (opD 0 d (.app hfile (frameS (recH h)))) 0 3) = _
  unfold crashF
  rw [hk, hi.go.op]
  dsimp only
  rw [hps, List.nil_append, List.getElem?_cons_zero, List.take_zero]
  show viewF (tornF d.S (.app hfile (frameS (recH h))) 3) = _
  unfold tornF
  dsimp only
  rw [ht, if_pos (by omega), hS, onF_app, e2]
  unfold viewF fileD
  rw [onF_get]
  exact viewB_torn hi.ok oh (by omega) (by have := hi.len; omega)
theorem ok31 : okH (3, 1) := ⟨by decide, by decide, by decide⟩
theorem ok42 : okH (4, 2) := ⟨by decide, by decide, by decide⟩
theorem hknown_all : ∃ d1 d3 : Dk, saveD (newD 1048576) 3 1 = (0, d1) ∧ synE d1 = 0 ∧ saveD (synD d1) 4 2 = (0, d3) ∧ openD d3 = (0, d3, (4, 2)) ∧ (openD (crashD d3 0 3)).1 = 0 ∧ (openD (crashD d3 0 3)).2.2 = (3, 1) ∧ d1.ps.length ≤ 10 ∧ (synD d1).ps.length ≤ 10 ∧ d3.ps.length ≤ 10 := by
  have e1 := HI.new.saveE ok31 (by decide)
  obtain ⟨l1, _, h1, hl1, hp1⟩ := HI.new.save ok31
  rw [e1] at h1 hp1
  obtain ⟨s1, h2, s2⟩ := h1.sync
  have hlen1 : (fileH l1).length < 256 := by
    obtain ⟨x, n1, n2⟩ := h1.now
    have hn : (opD 0 (newD 1048576) (.app hfile (frameS (recH (3, 1))))).now = onF hfile (some (frameS (recH (3, 1)))) := by
      rw [HI.new.go.now]
      rfl
    have hx : x = some (frameS (recH (3, 1))) := by
      have := congrArg (fun F => getS F hfile) (n1.symm.trans hn)
      rw [onF_get, onF_get] at this
      exact this
    have := frame_rec ok31
    rw [hx] at n2
    rw [← n2]
    show (frameS (recH (3, 1))).length < 256
    omega
  rw [hl1] at h2
  have e2 := h2.saveE ok42 hlen1
  obtain ⟨l3, _, h3, hl3, hp3⟩ := h2.save ok42
  rw [e2] at h3 hp3
  have ho := h3.open
  rw [hl3] at ho
  obtain ⟨c1, c2⟩ := open_view (crash_goes (opD 0 (synD (opD 0 (newD 1048576) (.app hfile (frameS (recH (3, 1)))))) (.app hfile (frameS (recH (4, 2))))) 0 3)
  rw [crash_first h2 ok42 s2, hl1] at c2
  dsimp only at hp1 hp3
  rw [s2] at hp3
  exact ⟨_, _, e1, s1, e2, ho, c1, c2, Nat.le_trans hp1 (by decide), by rw [s2]; decide, Nat.le_trans hp3 (by decide)⟩
theorem hard_eq (a b a' b' : Int) (w : World) : (Op.equalIn 10000 44 (.agg #[.int .u64 a, .int .i64 b]) (.agg #[.int .u64 a', .int .i64 b'])).run Try.prog w = .ok (decide (a = a' ∧ b = b')) w := by
  have hf : Try.prog.fieldsOf 44 = #[{ name := "Term", type := 42, offset := 0, embedded := false, tag := "", pkgPath := "", byteOffset := 0 }, { name := "Vote", type := 3, offset := 1, embedded := false, tag := "", pkgPath := "", byteOffset := 8 }] := by kernel_rfl
  have hu : Try.prog.underlying 44 = some (.struct (Try.prog.fieldsOf 44)) := by kernel_rfl
  have hs : Try.prog.stoodInHeld 44 = false := by kernel_rfl
  rw [run_equalIn_struct w 9999 _ _ _ hu hs, hf]
  simp [Op.eqFields, part, run_isAgg (P := Try.prog) Try.underlying42, run_isAgg (P := Try.prog) Try.underlying3, aggD, run_equalIn_int w 9998 42 .u64 .u64 _ _ Try.underlying42, run_equalIn_int w 9998 3 .i64 .i64 _ _ Try.underlying3]
  by_cases h1 : a = a' <;> by_cases h2 : b = b' <;> simp [h1, h2]
theorem hard_guard : Try.prog.eqGuardType Try.prog.depth 44 = false := by kernel_rfl
theorem hard_same (a b : Int) (w : World) : (Op.equalIn 10000 44 (.agg #[.int .u64 a, .int .i64 b]) (.agg #[.int .u64 a, .int .i64 b])).run Try.prog w = .ok true w := by
  rw [hard_eq]
  simp
theorem hknown_K : K Try.prog 24 [] M H fun v' M' H' => v' = .bool true ∧ M.le M' ∧ H' = H := by
  refine K.enterK Try.func24 rfl rfl rfl ?_
  intro Q hNP hQ
  obtain ⟨d1, d3, e1, e2, e3, e4, e5, e6, p1, p2, p3⟩ := hknown_all
  (repeat' (first | refine a_go ?_ | (with_reducible apply Fin.thenK; assumption) | (with_reducible (first | apply C.seqK | apply C.regionK); intro _ _) | (apply R.buildSlice0; exact rfl; intro bz) | (apply R.box; exact rfl; (simp only [Value.cells]; rfl); exact rfl; intro bx) | (apply R.alloc; (simp only [Value.cells]; rfl); exact rfl; intro ba) | (apply R.buildSlice; (exact a_prt); exact rfl; exact rfl; (exact a_fills); exact rfl; intro bl) | (refine a_sp ?_ ?_; (intro h; skip; rotate_left; intro h; skip; rotate_left)) | fail))
  (apply R.call; (exact a_evs); exact rfl; exact new_K (room := 1048576) (by decide) (by decide); rintro _ M _ ⟨db, hp, rfl, rfl, ho, rfl⟩)
  (repeat' (first | refine a_go ?_ | (with_reducible apply Fin.thenK; assumption) | (with_reducible (first | apply C.seqK | apply C.regionK); intro _ _) | (apply R.buildSlice0; exact rfl; intro bz) | (apply R.box; exact rfl; (simp only [Value.cells]; rfl); exact rfl; intro bx) | (apply R.alloc; (simp only [Value.cells]; rfl); exact rfl; intro ba) | (apply R.buildSlice; (exact a_prt); exact rfl; exact rfl; (exact a_fills); exact rfl; intro bl) | (refine a_sp ?_ ?_; (intro h; skip; rotate_left; intro h; skip; rotate_left)) | fail))
  (apply R.call; (exact a_evs); exact rfl; exact save_K (t := 3) (v := 1) ho (by decide) (by decide); rintro _ M1 _ ⟨rfl, hM1, hp1, ho1, rfl⟩)
  rw [e1] at ho1 ⊢
  dsimp only at ho1 ⊢
  (repeat' (first | refine a_go ?_ | (with_reducible apply Fin.thenK; assumption) | (with_reducible (first | apply C.seqK | apply C.regionK); intro _ _) | (apply R.buildSlice0; exact rfl; intro bz) | (apply R.box; exact rfl; (simp only [Value.cells]; rfl); exact rfl; intro bx) | (apply R.alloc; (simp only [Value.cells]; rfl); exact rfl; intro ba) | (apply R.buildSlice; (exact a_prt); exact rfl; exact rfl; (exact a_fills); exact rfl; intro bl) | (refine a_sp ?_ ?_; (intro h; skip; rotate_left; intro h; skip; rotate_left)) | fail))
  (apply R.call; (exact a_evs); exact rfl; exact sync_K ho1; rintro _ M1 _ ⟨rfl, rfl, hp2, ho2, rfl⟩)
  rw [e2]
  (repeat' (first | refine a_go ?_ | (with_reducible apply Fin.thenK; assumption) | (with_reducible (first | apply C.seqK | apply C.regionK); intro _ _) | (apply R.buildSlice0; exact rfl; intro bz) | (apply R.box; exact rfl; (simp only [Value.cells]; rfl); exact rfl; intro bx) | (apply R.alloc; (simp only [Value.cells]; rfl); exact rfl; intro ba) | (apply R.buildSlice; (exact a_prt); exact rfl; exact rfl; (exact a_fills); exact rfl; intro bl) | (refine a_sp ?_ ?_; (intro h; skip; rotate_left; intro h; skip; rotate_left)) | fail))
  (apply R.call; (exact a_evs); exact rfl; exact save_K (t := 4) (v := 2) ho2 (by omega) (by decide); rintro _ M3 _ ⟨rfl, hM3, hp3, ho3, rfl⟩)
  rw [e3] at ho3 ⊢
  dsimp only at ho3 ⊢
  (repeat' (first | refine a_go ?_ | (with_reducible apply Fin.thenK; assumption) | (with_reducible (first | apply C.seqK | apply C.regionK); intro _ _) | (apply R.buildSlice0; exact rfl; intro bz) | (apply R.box; exact rfl; (simp only [Value.cells]; rfl); exact rfl; intro bx) | (apply R.alloc; (simp only [Value.cells]; rfl); exact rfl; intro ba) | (apply R.buildSlice; (exact a_prt); exact rfl; exact rfl; (exact a_fills); exact rfl; intro bl) | (refine a_sp ?_ ?_; (intro h; skip; rotate_left; intro h; skip; rotate_left)) | fail))
  (apply R.call; (exact a_evs); exact rfl; exact open_K ho3 (by omega); rintro _ M4 _ ⟨rfl, hM4, hp4, ho4, rfl⟩)
  rw [e4] at ho4 ⊢
  dsimp only at ho4 ⊢
  unfold hrdV hrdC
  (repeat' (first | refine a_go ?_ | (with_reducible apply Fin.thenK; assumption) | (with_reducible (first | apply C.seqK | apply C.regionK); intro _ _) | (apply R.buildSlice0; exact rfl; intro bz) | (apply R.box; exact rfl; (simp only [Value.cells]; rfl); exact rfl; intro bx) | (apply R.alloc; (simp only [Value.cells]; rfl); exact rfl; intro ba) | (apply R.buildSlice; (exact a_prt); exact rfl; exact rfl; (exact a_fills); exact rfl; intro bl) | (refine a_sp ?_ ?_; (intro h; skip; rotate_left; intro h; skip; rotate_left)) | fail))
  apply R.arr (H2 := hp4 ++ ((ba, .cells #[.int .u64 4, .int .i64 2] 44 (0, 0)) :: H)) (by ((try simp only [List.append_assoc, List.cons_append, List.nil_append, List.append_nil]); exact a_arr))
  (apply R.call; (exact a_evs); exact rfl; exact crash_K (keep := 0) (torn := 3) ho4 (by omega); rintro _ M5 _ ⟨rfl, hM5, hp5, ho5, rfl⟩)
  (repeat' (first | refine a_go ?_ | (with_reducible apply Fin.thenK; assumption) | (with_reducible (first | apply C.seqK | apply C.regionK); intro _ _) | (apply R.buildSlice0; exact rfl; intro bz) | (apply R.box; exact rfl; (simp only [Value.cells]; rfl); exact rfl; intro bx) | (apply R.alloc; (simp only [Value.cells]; rfl); exact rfl; intro ba) | (apply R.buildSlice; (exact a_prt); exact rfl; exact rfl; (exact a_fills); exact rfl; intro bl) | (refine a_sp ?_ ?_; (intro h; skip; rotate_left; intro h; skip; rotate_left)) | fail))
  (apply R.call; (exact a_evs); exact rfl; exact open_K ho5 (Nat.zero_le _); rintro _ M6 _ ⟨rfl, hM6, hp6, ho6, rfl⟩)
  rw [e5, e6]
  unfold hrdV hrdC
  (repeat' (first | (apply R.step; (apply Ok.move; exact rfl); exact rfl) | (apply R.step; (apply Ok.eqS; exact rfl; exact rfl; exact hard_guard; exact hard_same _ _); exact rfl) | refine a_go ?_ | (with_reducible apply Fin.thenK; assumption) | (with_reducible (first | apply C.seqK | apply C.regionK); intro _ _) | (apply R.buildSlice0; exact rfl; intro bz) | (apply R.box; exact rfl; (simp only [Value.cells]; rfl); exact rfl; intro bx) | (apply R.alloc; (simp only [Value.cells]; rfl); exact rfl; intro ba) | (apply R.buildSlice; (exact a_prt); exact rfl; exact rfl; (exact a_fills); exact rfl; intro bl) | (refine a_sp ?_ ?_; (intro h; skip; rotate_left; intro h; skip; rotate_left)) | fail))
  (apply Fin.returnA (H2 := H); assumption; (first | exact .inl rfl | exact .inr rfl); exact rfl; (exact a_res); (simp only [retv]; rfl); (exact a_arr))
  exact ⟨rfl, hM1.trans_ (hM3.trans_ (hM4.trans_ (hM5.trans_ hM6))), rfl⟩
end Go.Sx
end
section
namespace Go.Sx
open Go.RowKit
variable {P : Program} {r : Option Nat} {n : Nat} {D : List Deferred} {L L' : Sl} {M : Mem} {H : Hp} {Q : Post}
inductive PT where
  | nil
  | free (i : Nat) (t : PT)
  | one (i : Nat) (t : PT)
  | alt (i j : Nat) (t u : PT)
  | alt3 (i j k : Nat) (t u v : PT)
def PT.fuel : PT → Nat
  | .nil => 0
  | .free _ t => t.fuel + 1
  | .one _ t => t.fuel + 1
  | .alt _ _ t _ => t.fuel + 1
  | .alt3 _ _ _ t _ _ => t.fuel + 1
def planS (ops : Array Oper) (A : List Nat) (lA : Array Bool) : PT → Array Bool → Bool
  | .nil, listed => decide (listed = lA)
  | .free i t, listed => (Region.ready .any ops listed).contains i && Region.free .any ops listed i && A.contains i && Nat.ble ((A.filter fun j => !(listed.getD j true) && !(Nat.beq j i)).length) t.fuel && planS ops A lA t (listed.setIfInBounds i true)
  | .one i t, listed => decide (Region.ready .any ops listed = [i]) && planS ops A lA t (listed.setIfInBounds i true)
  | .alt i j t u, listed => decide (Region.ready .any ops listed = [i, j]) && Nat.beq t.fuel u.fuel && planS ops A lA t (listed.setIfInBounds i true) && planS ops A lA u (listed.setIfInBounds j true)
  | .alt3 i j k t u v, listed => decide (Region.ready .any ops listed = [i, j, k]) && Nat.beq t.fuel u.fuel && Nat.beq t.fuel v.fuel && planS ops A lA t (listed.setIfInBounds i true) && planS ops A lA u (listed.setIfInBounds j true) && planS ops A lA v (listed.setIfInBounds k true)
def planT (ops : Array Oper) : PT → Array Bool → Bool
  | .nil, listed => (Region.ready .any ops listed).isEmpty
  | .free i t, listed => (Region.ready .any ops listed).contains i && Region.free .any ops listed i && planT ops t (listed.setIfInBounds i true)
  | .one i t, listed => decide (Region.ready .any ops listed = [i]) && planT ops t (listed.setIfInBounds i true)
  | .alt i j t u, listed => decide (Region.ready .any ops listed = [i, j]) && Nat.beq t.fuel u.fuel && planT ops t (listed.setIfInBounds i true) && planT ops u (listed.setIfInBounds j true)
  | .alt3 i j k t u v, listed => decide (Region.ready .any ops listed = [i, j, k]) && Nat.beq t.fuel u.fuel && Nat.beq t.fuel v.fuel && planT ops t (listed.setIfInBounds i true) && planT ops u (listed.setIfInBounds j true) && planT ops v (listed.setIfInBounds k true)
def RT (P : Program) (r : Option Nat) (n : Nat) (l : List Oper) (t : PT) (Q : Post) (D : List Deferred) (L : Sl) (M0 M : Mem) (Hs Hx : Hp) : Prop :=
  ∀ (listed : Array Bool), Region.noSelect l.toArray = true → NoDefer l.toArray → NoPanic Q → planT l.toArray t listed = true → M0.le M → ∀ a, Fr n D L a → AnyH r P l.toArray M0 Hs Q t.fuel listed a M Hx
theorem C.regionT {id : Nat} {l : List Oper} (t : PT) (Hs Hx : Hp) (hm : P.follows .mixedOrders = true) (hH : Arr H (Hs ++ Hx)) (hQ : NoPanic Q) (hB : (Region.noSelect l.toArray && noDeferB l && planT l.toArray t (Array.replicate l.length false) && Nat.beq t.fuel l.length) = true)
    (h : RT P r n l t Q D L M M Hs Hx) : C P r n (.region id l.toArray true) Q D L M H := by
  intro a w hf hh
  simp only [Bool.and_eq_true] at hB
  obtain ⟨⟨⟨h1, h2⟩, h3⟩, h4⟩ := hB
  refine wpIn_region_any hm (AnyH.any (M0 := M) (Hs := Hs) _ _ _ M Hx _ ((hH.heap hh).drawn _) ?_)
  have := h (Array.replicate l.length false) h1 (NoDefer.of h2) hQ h3 (Mem.le_refl M) a hf
  rw [Nat.eq_of_beq_eq_true h4] at this
  simpa using this
section
variable {d : Option Tmp} {op : Op} {ty : TypeId} {pos : String} {af : Array Edge} {g : Option (Nat × Bool)} {v : Value} {l : List Oper} {t u : PT} {i j k : Nat} {M0 : Mem} {Hs Hx : Hp}
theorem RT.nil (h : Fin n .normal Q D L M (Hs ++ Hx)) : RT P r n l .nil Q D L M0 M Hs Hx :=
  fun _ _ _ _ hp hM a hf => ⟨hM, by simpa [planT] using hp, fun w hh => h a w hf hh⟩
theorem RT.weak (hs : sub L' L) (h : RT P r n l t Q D L' M0 M Hs Hx) : RT P r n l t Q D L M0 M Hs Hx :=
  fun listed h1 h2 h3 h4 h5 a hf => h listed h1 h2 h3 h4 h5 a (hf.weak hs)
theorem RT.step_ (hi : l[i]? = some ⟨d, op, ty, pos, af, g⟩) (hY : ∀ (a : Act), Fr n D L a → Yc P l.toArray M0 Hs ⟨d, op, ty, pos, af, g⟩ v a) (hd : dok n d = true)
    (k : RT P r n l t Q D (bnd d v L) M0 M Hs Hx) : RT P r n l (.free i t) Q D L M0 M Hs Hx := by
  intro listed hS hN hQ hp hM a hf
  have h0 : l.toArray[i]? = some ⟨d, op, ty, pos, af, g⟩ := by simpa using hi
  simp only [planT, Bool.and_eq_true] at hp
  obtain ⟨⟨p1, p2⟩, p3⟩ := hp
  exact AnyH.first h0 (Region.noSelect_spec hS) hN hQ t.fuel listed a M Hx (Region.free_spec h0 p2) (by simpa using p1) (hY a hf) (k _ hS hN hQ p3 hM _ (hf.put d hd v))
theorem RT.step (hi : l[i]? = some ⟨d, op, ty, pos, af, none⟩) (hok : ∀ M' Hx', M0.le M' → Ok P ⟨d, op, ty, pos, af, none⟩ L M' (Hs ++ Hx') v) (hd : dok n d = true)
    (k : RT P r n l t Q D (bnd d v L) M0 M Hs Hx) : RT P r n l (.free i t) Q D L M0 M Hs Hx :=
  RT.step_ hi (fun _ hf => .inl ⟨by simp [Region.wanted], fun M' Hx' w hM' hh' => (hok M' Hx' hM').qr hf hh'⟩) hd k
theorem RT.stepT {want : Bool} {dj : Tmp} (hi : l[i]? = some ⟨d, op, ty, pos, af, some (j, want)⟩) (hdj : (l.map (·.dst))[j]? = some (some dj)) (hb : lk L dj = some (.bool want)) (hlt : Nat.ble (dj + 1) n = true) (hok : ∀ M' Hx', M0.le M' → Ok P ⟨d, op, ty, pos, af, some (j, want)⟩ L M' (Hs ++ Hx') v) (hd : dok n d = true)
    (k : RT P r n l t Q D (bnd d v L) M0 M Hs Hx) : RT P r n l (.free i t) Q D L M0 M Hs Hx :=
  RT.step_ hi (fun _ hf => .inl ⟨by rw [wanted_guard hf (OpsOf.self l) hdj hb hlt]; simp, fun M' Hx' w hM' hh' => (hok M' Hx' hM').qr hf hh'⟩) hd k
theorem RT.stepF {want b : Bool} {dj : Tmp} (hi : l[i]? = some ⟨d, op, ty, pos, af, some (j, want)⟩) (hdj : (l.map (·.dst))[j]? = some (some dj)) (hb : lk L dj = some (.bool b)) (hlt : Nat.ble (dj + 1) n = true) (hne : (b == want) = false) (hd : dok n d = true)
    (k : RT P r n l t Q D (bnd d undef L) M0 M Hs Hx) : RT P r n l (.free i t) Q D L M0 M Hs Hx :=
  RT.step_ hi (fun _ hf => .inr ⟨by rw [wanted_guard hf (OpsOf.self l) hdj hb hlt]; exact hne, rfl⟩) hd k
theorem RT.stepU {want : Bool} {dj : Tmp} (hi : l[i]? = some ⟨d, op, ty, pos, af, some (j, want)⟩) (hdj : (l.map (·.dst))[j]? = some (some dj)) (hb : lk L dj = some undef) (hlt : Nat.ble (dj + 1) n = true) (hd : dok n d = true)
    (k : RT P r n l t Q D (bnd d undef L) M0 M Hs Hx) : RT P r n l (.free i t) Q D L M0 M Hs Hx :=
  RT.step_ hi (fun _ hf => .inr ⟨wanted_undef hf (OpsOf.self l) hdj hb hlt, rfl⟩) hd k
theorem RT.callQT {f : Nat} {xs : List Operand} {vs : List Value} {ts : Array TypeId} {want : Bool} {dj : Tmp} (hi : l[i]? = some ⟨d, .call ⟨.value (.func f), xs.toArray, ts⟩, ty, pos, af, some (j, want)⟩) (he : Ent P f) (hdj : (l.map (·.dst))[j]? = some (some dj)) (hb : lk L dj = some (.bool want)) (hlt : Nat.ble (dj + 1) n = true) (hx : Evs L xs vs) (hd : dok n d = true) (hK : ∀ M' Hx', M0.le M' → K P f vs M' (Hs ++ Hx') (fun u M2 H2 => u = v ∧ M2 = M' ∧ H2 = Hs ++ Hx'))
    (k : RT P r n l t Q D (bnd d v L) M0 M Hs Hx) : RT P r n l (.free i t) Q D L M0 M Hs Hx :=
  RT.step_ hi (fun a hf => .inl ⟨by rw [wanted_guard hf (OpsOf.self l) hdj hb hlt]; simp, fun M' Hx' w hM' hh' => by
    rw [callArgs_run hf hx]
    refine ⟨rfl, (hK M' Hx' hM' w hh').mono ?_⟩
    rintro e w' ⟨u, M2, H2, rfl, ⟨rfl, rfl, rfl⟩, hh2⟩
    exact ⟨rfl, hh2⟩⟩) hd k
def KT (P : Program) (r : Option Nat) (n : Nat) (l : List Oper) (t : PT) (Q : Post) (M0 : Mem) (Hs : Hp) (Kc : Act → World → Prop) : Prop :=
  ∀ D L' M1 M' E Hx', M0.le M1 → M1.le M' → RT P r n l t Q D L' M1 M' (Hs ++ E) Hx' → ∀ a w, Fr n D L' a → Heap w M' (Hs ++ (E ++ Hx')) → Kc a w
theorem Fin.kt {Kc : Act → World → Prop} (hk : KT P r n l t Q M0 Hs Kc) (hM : M0.le M) (ha : Arr H (Hs ++ Hx)) (h : RT P r n l t Q D L M0 M Hs Hx) : Fin n .normal (Exit.then Kc Q) D L M H :=
  fun a w hf hh => hk D L M0 M [] Hx (Mem.le_refl _) hM (by rw [List.append_nil]; exact h) a w hf (ha.heap hh)
def OneT (P : Program) (r : Option Nat) (n : Nat) (l : List Oper) (i : Nat) (t : PT) (Q : Post) (D : List Deferred) (L : Sl) (M0 M : Mem) (Hs Hx : Hp) : Prop :=
  ∀ (listed : Array Bool), Region.noSelect l.toArray = true → NoDefer l.toArray → NoPanic Q → planT l.toArray t (listed.setIfInBounds i true) = true → M0.le M → ∀ a, Fr n D L a → ∀ w, Heap w M (Hs ++ Hx) →
    wpOpIn (F0 r) 0 P l.toArray Q i (fun a' w' => ∃ M' Hx', Heap w' M' (Hs ++ Hx') ∧ AnyH r P l.toArray M0 Hs Q t.fuel (listed.setIfInBounds i true) a' M' Hx') a w
theorem OneT.eff_ (hi : l[i]? = some ⟨d, op, ty, pos, af, g⟩) (hw : ∀ (a : Act), Fr n D L a → Region.wanted ⟨d, op, ty, pos, af, g⟩ (yielded l.toArray a.tmps) = true)
    (h : ∀ Kc, KT P r n l t Q M0 Hs Kc → ∀ ops, R false P r n ops [⟨d, op, ty, pos, af, none⟩] (Exit.then Kc Q) D L M (Hs ++ Hx)) : OneT P r n l i t Q D L M0 M Hs Hx := by
  intro listed hS hN hQ hp hM a hf w hh
  have h0 : l.toArray[i]? = some ⟨d, op, ty, pos, af, g⟩ := by simpa using hi
  have hk : KT P r n l t Q M0 Hs (fun a' w' => ∃ M' Hx', Heap w' M' (Hs ++ Hx') ∧ AnyH r P l.toArray M0 Hs Q t.fuel (listed.setIfInBounds i true) a' M' Hx') := by
    intro D' L' M1 M' E Hx' h1 hM' hRT a' w' hf' hh'
    exact ⟨M', E ++ Hx', hh', AnyH.base h1 _ _ _ _ _ (hRT _ hS hN hQ hp hM' a' hf')⟩
  have h1 := h _ hk #[] a w hf hh
  unfold wpListIn at h1
  rw [if_pos (by simp [Region.wanted])] at h1
  unfold wpOpIn
  simp only [h0]
  rw [hw a hf, if_pos rfl]
  exact (wpIn_post (fun _ _ _ h => h) (fun _ _ h => h) h1 : (⟨d, op, ty, pos, af, none⟩ : Oper).wpIn (F0 r) 0 P a w _ Q)
theorem OneT.eff (hi : l[i]? = some ⟨d, op, ty, pos, af, none⟩) (h : ∀ Kc, KT P r n l t Q M0 Hs Kc → ∀ ops, R false P r n ops [⟨d, op, ty, pos, af, none⟩] (Exit.then Kc Q) D L M (Hs ++ Hx)) : OneT P r n l i t Q D L M0 M Hs Hx :=
  OneT.eff_ hi (fun _ _ => by simp [Region.wanted]) h
theorem OneT.effF {want b : Bool} {dj : Tmp} (hi : l[i]? = some ⟨d, op, ty, pos, af, some (j, want)⟩) (hdj : (l.map (·.dst))[j]? = some (some dj)) (hb : lk L dj = some (.bool b)) (hlt : Nat.ble (dj + 1) n = true) (hne : (b == want) = false) (hd : dok n d = true)
    (k : RT P r n l t Q D (bnd d undef L) M0 M Hs Hx) : OneT P r n l i t Q D L M0 M Hs Hx := by
  intro listed hS hN hQ hp hM a hf w hh
  have h0 : l.toArray[i]? = some ⟨d, op, ty, pos, af, some (j, want)⟩ := by simpa using hi
  unfold wpOpIn
  simp only [h0]
  rw [wanted_guard hf (OpsOf.self l) hdj hb hlt, hne]
  simp only [Bool.false_eq_true, if_false]
  exact ⟨fun f _ => F0_fn _ f, M, Hx, hh, k _ hS hN hQ hp hM _ (hf.put d hd undef)⟩
theorem OneT.effU {want : Bool} {dj : Tmp} (hi : l[i]? = some ⟨d, op, ty, pos, af, some (j, want)⟩) (hdj : (l.map (·.dst))[j]? = some (some dj)) (hb : lk L dj = some undef) (hlt : Nat.ble (dj + 1) n = true) (hd : dok n d = true)
    (k : RT P r n l t Q D (bnd d undef L) M0 M Hs Hx) : OneT P r n l i t Q D L M0 M Hs Hx := by
  intro listed hS hN hQ hp hM a hf w hh
  have h0 : l.toArray[i]? = some ⟨d, op, ty, pos, af, some (j, want)⟩ := by simpa using hi
  unfold wpOpIn
  simp only [h0]
  rw [wanted_undef hf (OpsOf.self l) hdj hb hlt]
  simp only [Bool.false_eq_true, if_false]
  exact ⟨fun f _ => F0_fn _ f, M, Hx, hh, k _ hS hN hQ hp hM _ (hf.put d hd undef)⟩
theorem RT.one (h : OneT P r n l i t Q D L M0 M Hs Hx) : RT P r n l (.one i t) Q D L M0 M Hs Hx := by
  intro listed hS hN hQ hp hM a hf
  simp only [planT, Bool.and_eq_true, decide_eq_true_eq] at hp
  obtain ⟨p2, p3⟩ := hp
  refine ⟨hM, fun e => (by rw [p2] at e; cases e), fun q hq w hh => ?_⟩
  rw [p2, List.mem_singleton] at hq
  subst hq
  exact h listed hS hN hQ p3 hM a hf w hh
theorem RT.alt (h1 : OneT P r n l i t Q D L M0 M Hs Hx) (h2 : OneT P r n l j u Q D L M0 M Hs Hx) : RT P r n l (.alt i j t u) Q D L M0 M Hs Hx := by
  intro listed hS hN hQ hp hM a hf
  simp only [planT, Bool.and_eq_true, decide_eq_true_eq] at hp
  obtain ⟨⟨⟨p1, p2⟩, p3⟩, p4⟩ := hp
  have p2 := Nat.eq_of_beq_eq_true p2
  refine ⟨hM, fun e => (by rw [p1] at e; cases e), fun q hq w hh => ?_⟩
  rw [p1, List.mem_cons, List.mem_singleton] at hq
  rcases hq with rfl | rfl
  · exact h1 listed hS hN hQ p3 hM a hf w hh
  · rw [p2]
    exact h2 listed hS hN hQ p4 hM a hf w hh
theorem RT.alt3 {v : PT} (h1 : OneT P r n l i t Q D L M0 M Hs Hx) (h2 : OneT P r n l j u Q D L M0 M Hs Hx) (h3 : OneT P r n l k v Q D L M0 M Hs Hx) : RT P r n l (.alt3 i j k t u v) Q D L M0 M Hs Hx := by
  intro listed hS hN hQ hp hM a hf
  simp only [planT, Bool.and_eq_true, decide_eq_true_eq] at hp
  obtain ⟨⟨⟨⟨⟨p1, p2⟩, p2'⟩, p3⟩, p4⟩, p5⟩ := hp
  have p2 := Nat.eq_of_beq_eq_true p2
  have p2' := Nat.eq_of_beq_eq_true p2'
  refine ⟨hM, fun e => (by rw [p1] at e; cases e), fun q hq w hh => ?_⟩
  rw [p1, List.mem_cons, List.mem_cons, List.mem_singleton] at hq
  rcases hq with rfl | rfl | rfl
  · exact h1 listed hS hN hQ p3 hM a hf w hh
  · rw [p2]
    exact h2 listed hS hN hQ p4 hM a hf w hh
  · rw [p2']
    exact h3 listed hS hN hQ p5 hM a hf w hh
end
theorem Ok.addQ {d : Option Tmp} {ty : TypeId} {pos : String} {af : Array Edge} {g : Option (Nat × Bool)} {t t' : TypeId} {x y : Operand} {k : IntKind} {p q : Int} (r : Int) (hx : ev L x = some (.int k p)) (hy : ev L y = some (.int k q)) (h : p + q = r) (hw : k.wrap r = r) : Ok P ⟨d, .binOp .add t x y t', ty, pos, af, g⟩ L M H (.int k r) := by
  subst h
  exact Ok.addB hx hy hw
theorem K.permQ {f : Nat} {args : List Value} {v : Value} {H1 H2 : Hp} (hp : H2.Perm H1) (h : K P f args M H1 (fun v' M' H' => v' = v ∧ M' = M ∧ H' = H1)) : K P f args M H2 (fun v' M' H' => v' = v ∧ M' = M ∧ H' = H2) :=
  fun w hh => (h w (hh.perm hp)).mono fun _ _ ⟨u, M', H', h1, ⟨h2, h3, h4⟩, h5⟩ => ⟨u, M', H2, h1, ⟨h2, h3, rfl⟩, by subst h4; exact h5.perm hp.symm⟩
theorem perm_mid (a b c : Hp) : ((a ++ b) ++ c).Perm (b ++ (a ++ c)) := by
  rw [← List.append_assoc b a c]
  exact List.perm_append_comm.append_right c
def EndS (n : Nat) (D : List Deferred) (k : Sl → Mem → Hp → Prop) (M0 : Mem) (lA : Array Bool) (l : Array Bool) (a : Act) (w : World) : Prop := l = lA ∧ ∃ L' M' H', k L' M' H' ∧ M0.le M' ∧ Fr n D L' a ∧ Heap w M' H'
def RS (P : Program) (r : Option Nat) (n : Nat) (l : List Oper) (t : PT) (Q : Post) (D : List Deferred) (k : Sl → Mem → Hp → Prop) (L : Sl) (M0 M : Mem) (Hs Hx : Hp) : Prop :=
  ∀ (listed : Array Bool) (A : List Nat) (lF lA : Array Bool), Region.noSelect l.toArray = true → NoDefer l.toArray → NoPanic Q → Barrier l.toArray A lF → (∀ j, listed.getD j true = false → lF.getD j true = false) → planS l.toArray A lA t listed = true → M0.le M →
    ∀ a, Fr n D L a → AnyZ r P l.toArray M0 Hs Q (EndS n D k M0 lA) t.fuel listed a M Hx
def Later (P : Program) (r : Option Nat) (n : Nat) (l : List Oper) (t : PT) (Q : Post) (D : List Deferred) (L : Sl) (M : Mem) (H : Hp) : Prop := ∃ Hs Hx, Arr H (Hs ++ Hx) ∧ RT P r n l t Q D L M M Hs Hx
theorem C.regionS {id : Nat} {l : List Oper} (A : List Nat) (t u : PT) (Hs Hx : Hp) (hm : P.follows .mixedOrders = true) (hH : Arr H (Hs ++ Hx)) (hQ : NoPanic Q)
    (hB : (Region.noSelect l.toArray && noDeferB l && barrierB l.toArray A (Array.replicate l.length false) && planS l.toArray A (afterA A (Array.replicate l.length false)) t (Array.replicate l.length false) && planT l.toArray u (afterA A (Array.replicate l.length false)) && Nat.beq (u.fuel + t.fuel) l.length) = true)
    (h : RS P r n l t Q D (fun L' M' H' => Later P r n l u Q D L' M' H') L M M Hs Hx) : C P r n (.region id l.toArray true) Q D L M H := by
  intro a w hf hh
  simp only [Bool.and_eq_true] at hB
  obtain ⟨⟨⟨⟨⟨h1, h2⟩, h3⟩, h4⟩, h5⟩, h6⟩ := hB
  refine wpIn_region_any hm ?_
  have h9 : u.fuel + t.fuel = l.toArray.size := by simpa using Nat.eq_of_beq_eq_true h6
  have hAny := h (Array.replicate l.length false) A (Array.replicate l.length false) (afterA A (Array.replicate l.length false)) h1 (NoDefer.of h2) hQ (Barrier.of h3) (fun _ hj => hj) h4 (Mem.le_refl M) a hf
  obtain ⟨M', Hx', h10, h11⟩ := AnyZ.toH (g := u.fuel) (Mem.le_refl M) (fun listed a w ⟨hl, L', M', H', ⟨Hs2, Hx2, ha, hk⟩, hM', hf', hh'⟩ => by
    subst hl
    exact ⟨M', Hs2 ++ Hx2, ha.heap hh', AnyH.base (Hs := []) (E := Hs2) hM' _ _ _ _ _ (hk _ h1 (NoDefer.of h2) hQ h5 (Mem.le_refl M') _ hf')⟩) t.fuel _ a M Hx { w with drawn := w.drawn + 1 } ((hH.heap hh).drawn _) hAny
  rw [h9] at h11
  have := AnyH.any (r := r) _ _ _ M' Hx' _ h10 h11
  simpa using this
section
variable {d : Option Tmp} {op : Op} {ty : TypeId} {pos : String} {af : Array Edge} {g : Option (Nat × Bool)} {v : Value} {l : List Oper} {t u : PT} {i j q : Nat} {M0 : Mem} {Hs Hx : Hp} {k : Sl → Mem → Hp → Prop}
theorem RS.nil (h : k L M (Hs ++ Hx)) : RS P r n l .nil Q D k L M0 M Hs Hx := by
  intro listed A lF lA _ _ _ _ _ hp hM a hf
  exact ⟨hM, fun w hh => ⟨by simpa [planS] using hp, _, _, _, h, hM, hf, hh⟩⟩
theorem RS.later {Hs2 Hx2 : Hp} (ha : Arr (Hs ++ Hx) (Hs2 ++ Hx2)) (h : RT P r n l u Q D L M M Hs2 Hx2) : RS P r n l .nil Q D (fun L' M' H' => Later P r n l u Q D L' M' H') L M0 M Hs Hx := RS.nil ⟨Hs2, Hx2, ha, h⟩
theorem RS.step_ (hi : l[i]? = some ⟨d, op, ty, pos, af, g⟩) (hY : ∀ (a : Act), Fr n D L a → Yc P l.toArray M0 Hs ⟨d, op, ty, pos, af, g⟩ v a) (hd : dok n d = true)
    (h : RS P r n l t Q D k (bnd d v L) M0 M Hs Hx) : RS P r n l (.free i t) Q D k L M0 M Hs Hx := by
  intro listed A lF lA hS hN hQ hb hsub hp hM a hf
  have h0 : l.toArray[i]? = some ⟨d, op, ty, pos, af, g⟩ := by simpa using hi
  simp only [planS, Bool.and_eq_true] at hp
  obtain ⟨⟨⟨⟨p1, p2⟩, p3⟩, p4⟩, p5⟩ := hp
  refine AnyZ.first h0 (Region.noSelect_spec hS) hN hQ hb (by simpa using p3) t.fuel (A.filter fun j => !(listed.getD j true) && !(Nat.beq j i)) listed a M Hx hsub ?_ (Nat.le_of_ble_eq_true p4) (Region.free_spec h0 p2) (by simpa using p1) (hY a hf) (h _ A lF lA hS hN hQ hb (sub_set hsub) p5 hM _ (hf.put d hd v))
  intro x hx hun
  by_cases hxi : x = i
  · exact .inl hxi
  · refine .inr (List.mem_filter.2 ⟨hx, ?_⟩)
    have : Nat.beq x i = false := by
      cases hbq : Nat.beq x i with
      | false => rfl
      | true => exact absurd (Nat.eq_of_beq_eq_true hbq) hxi
    rw [hun, this]
    rfl
theorem RS.step (hi : l[i]? = some ⟨d, op, ty, pos, af, none⟩) (hok : ∀ M' Hx', M0.le M' → Ok P ⟨d, op, ty, pos, af, none⟩ L M' (Hs ++ Hx') v) (hd : dok n d = true)
    (h : RS P r n l t Q D k (bnd d v L) M0 M Hs Hx) : RS P r n l (.free i t) Q D k L M0 M Hs Hx :=
  RS.step_ hi (fun _ hf => .inl ⟨by simp [Region.wanted], fun M' Hx' w hM' hh' => (hok M' Hx' hM').qr hf hh'⟩) hd h
theorem RS.stepT {want : Bool} {dj : Tmp} (hi : l[i]? = some ⟨d, op, ty, pos, af, some (j, want)⟩) (hdj : (l.map (·.dst))[j]? = some (some dj)) (hb : lk L dj = some (.bool want)) (hlt : Nat.ble (dj + 1) n = true) (hok : ∀ M' Hx', M0.le M' → Ok P ⟨d, op, ty, pos, af, some (j, want)⟩ L M' (Hs ++ Hx') v) (hd : dok n d = true)
    (h : RS P r n l t Q D k (bnd d v L) M0 M Hs Hx) : RS P r n l (.free i t) Q D k L M0 M Hs Hx :=
  RS.step_ hi (fun _ hf => .inl ⟨by rw [wanted_guard hf (OpsOf.self l) hdj hb hlt]; simp, fun M' Hx' w hM' hh' => (hok M' Hx' hM').qr hf hh'⟩) hd h
theorem RS.stepU {want : Bool} {dj : Tmp} (hi : l[i]? = some ⟨d, op, ty, pos, af, some (j, want)⟩) (hdj : (l.map (·.dst))[j]? = some (some dj)) (hb : lk L dj = some undef) (hlt : Nat.ble (dj + 1) n = true) (hd : dok n d = true)
    (h : RS P r n l t Q D k (bnd d undef L) M0 M Hs Hx) : RS P r n l (.free i t) Q D k L M0 M Hs Hx :=
  RS.step_ hi (fun _ hf => .inr ⟨wanted_undef hf (OpsOf.self l) hdj hb hlt, rfl⟩) hd h
theorem RS.stepF {want b : Bool} {dj : Tmp} (hi : l[i]? = some ⟨d, op, ty, pos, af, some (j, want)⟩) (hdj : (l.map (·.dst))[j]? = some (some dj)) (hb : lk L dj = some (.bool b)) (hlt : Nat.ble (dj + 1) n = true) (hne : (b == want) = false) (hd : dok n d = true)
    (h : RS P r n l t Q D k (bnd d undef L) M0 M Hs Hx) : RS P r n l (.free i t) Q D k L M0 M Hs Hx :=
  RS.step_ hi (fun _ hf => .inr ⟨by rw [wanted_guard hf (OpsOf.self l) hdj hb hlt]; exact hne, rfl⟩) hd h
def KS (P : Program) (r : Option Nat) (n : Nat) (l : List Oper) (t : PT) (Q : Post) (D : List Deferred) (k : Sl → Mem → Hp → Prop) (M0 : Mem) (Hs : Hp) (Kc : Act → World → Prop) : Prop :=
  ∀ L' M' Hx', M0.le M' → RS P r n l t Q D k L' M0 M' Hs Hx' → ∀ a w, Fr n D L' a → Heap w M' (Hs ++ Hx') → Kc a w
theorem Fin.ks {Kc : Act → World → Prop} (hk : KS P r n l t Q D k M0 Hs Kc) (hM : M0.le M) (ha : Arr H (Hs ++ Hx)) (h : RS P r n l t Q D k L M0 M Hs Hx) : Fin n .normal (Exit.then Kc Q) D L M H :=
  fun a w hf hh => hk L M Hx hM h a w hf (ha.heap hh)
def OneS (P : Program) (r : Option Nat) (n : Nat) (l : List Oper) (i : Nat) (t : PT) (Q : Post) (D : List Deferred) (k : Sl → Mem → Hp → Prop) (L : Sl) (M0 M : Mem) (Hs Hx : Hp) : Prop :=
  ∀ (listed : Array Bool) (A : List Nat) (lF lA : Array Bool), Region.noSelect l.toArray = true → NoDefer l.toArray → NoPanic Q → Barrier l.toArray A lF → (∀ j, listed.getD j true = false → lF.getD j true = false) → planS l.toArray A lA t (listed.setIfInBounds i true) = true → M0.le M → ∀ a, Fr n D L a → ∀ w, Heap w M (Hs ++ Hx) →
    wpOpIn (F0 r) 0 P l.toArray Q i (fun a' w' => ∃ M' Hx', Heap w' M' (Hs ++ Hx') ∧ AnyZ r P l.toArray M0 Hs Q (EndS n D k M0 lA) t.fuel (listed.setIfInBounds i true) a' M' Hx') a w
theorem OneS.eff_ (hi : l[i]? = some ⟨d, op, ty, pos, af, g⟩) (hw : ∀ (a : Act), Fr n D L a → Region.wanted ⟨d, op, ty, pos, af, g⟩ (yielded l.toArray a.tmps) = true)
    (h : ∀ Kc, KS P r n l t Q D k M0 Hs Kc → ∀ ops, R false P r n ops [⟨d, op, ty, pos, af, none⟩] (Exit.then Kc Q) D L M (Hs ++ Hx)) : OneS P r n l i t Q D k L M0 M Hs Hx := by
  intro listed A lF lA hS hN hQ hb hsub hp hM a hf w hh
  have h0 : l.toArray[i]? = some ⟨d, op, ty, pos, af, g⟩ := by simpa using hi
  have hk : KS P r n l t Q D k M0 Hs (fun a' w' => ∃ M' Hx', Heap w' M' (Hs ++ Hx') ∧ AnyZ r P l.toArray M0 Hs Q (EndS n D k M0 lA) t.fuel (listed.setIfInBounds i true) a' M' Hx') := by
    intro L' M' Hx' hM' hRS a' w' hf' hh'
    exact ⟨M', Hx', hh', hRS _ A lF lA hS hN hQ hb (sub_set hsub) hp hM' a' hf'⟩
  have h1 := h _ hk #[] a w hf hh
  unfold wpListIn at h1
  rw [if_pos (by simp [Region.wanted])] at h1
  unfold wpOpIn
  simp only [h0]
  rw [hw a hf, if_pos rfl]
  exact (wpIn_post (fun _ _ _ h => h) (fun _ _ h => h) h1 : (⟨d, op, ty, pos, af, none⟩ : Oper).wpIn (F0 r) 0 P a w _ Q)
theorem OneS.eff (hi : l[i]? = some ⟨d, op, ty, pos, af, none⟩) (h : ∀ Kc, KS P r n l t Q D k M0 Hs Kc → ∀ ops, R false P r n ops [⟨d, op, ty, pos, af, none⟩] (Exit.then Kc Q) D L M (Hs ++ Hx)) : OneS P r n l i t Q D k L M0 M Hs Hx :=
  OneS.eff_ hi (fun _ _ => by simp [Region.wanted]) h
theorem OneS.effF {want b : Bool} {dj : Tmp} (hi : l[i]? = some ⟨d, op, ty, pos, af, some (j, want)⟩) (hdj : (l.map (·.dst))[j]? = some (some dj)) (hb : lk L dj = some (.bool b)) (hlt : Nat.ble (dj + 1) n = true) (hne : (b == want) = false) (hd : dok n d = true)
    (h : RS P r n l t Q D k (bnd d undef L) M0 M Hs Hx) : OneS P r n l i t Q D k L M0 M Hs Hx := by
  intro listed A lF lA hS hN hQ hbb hsub hp hM a hf w hh
  have h0 : l.toArray[i]? = some ⟨d, op, ty, pos, af, some (j, want)⟩ := by simpa using hi
  unfold wpOpIn
  simp only [h0]
  rw [wanted_guard hf (OpsOf.self l) hdj hb hlt, hne]
  simp only [Bool.false_eq_true, if_false]
  exact ⟨fun f _ => F0_fn _ f, M, Hx, hh, h _ A lF lA hS hN hQ hbb (sub_set hsub) hp hM _ (hf.put d hd undef)⟩
theorem OneS.effU {want : Bool} {dj : Tmp} (hi : l[i]? = some ⟨d, op, ty, pos, af, some (j, want)⟩) (hdj : (l.map (·.dst))[j]? = some (some dj)) (hb : lk L dj = some undef) (hlt : Nat.ble (dj + 1) n = true) (hd : dok n d = true)
    (h : RS P r n l t Q D k (bnd d undef L) M0 M Hs Hx) : OneS P r n l i t Q D k L M0 M Hs Hx := by
  intro listed A lF lA hS hN hQ hbb hsub hp hM a hf w hh
  have h0 : l.toArray[i]? = some ⟨d, op, ty, pos, af, some (j, want)⟩ := by simpa using hi
  unfold wpOpIn
  simp only [h0]
  rw [wanted_undef hf (OpsOf.self l) hdj hb hlt]
  simp only [Bool.false_eq_true, if_false]
  exact ⟨fun f _ => F0_fn _ f, M, Hx, hh, h _ A lF lA hS hN hQ hbb (sub_set hsub) hp hM _ (hf.put d hd undef)⟩
theorem RS.one (h : OneS P r n l i t Q D k L M0 M Hs Hx) : RS P r n l (.one i t) Q D k L M0 M Hs Hx := by
  intro listed A lF lA hS hN hQ hb hsub hp hM a hf
  simp only [planS, Bool.and_eq_true, decide_eq_true_eq] at hp
  obtain ⟨p2, p3⟩ := hp
  refine ⟨hM, fun e => (by rw [p2] at e; cases e), fun q hq w hh => ?_⟩
  rw [p2, List.mem_singleton] at hq
  subst hq
  exact h listed A lF lA hS hN hQ hb hsub p3 hM a hf w hh
theorem RS.alt (h1 : OneS P r n l i t Q D k L M0 M Hs Hx) (h2 : OneS P r n l j u Q D k L M0 M Hs Hx) : RS P r n l (.alt i j t u) Q D k L M0 M Hs Hx := by
  intro listed A lF lA hS hN hQ hb hsub hp hM a hf
  simp only [planS, Bool.and_eq_true, decide_eq_true_eq] at hp
  obtain ⟨⟨⟨p1, p2⟩, p3⟩, p4⟩ := hp
  have p2 := Nat.eq_of_beq_eq_true p2
  refine ⟨hM, fun e => (by rw [p1] at e; cases e), fun q hq w hh => ?_⟩
  rw [p1, List.mem_cons, List.mem_singleton] at hq
  rcases hq with rfl | rfl
  · exact h1 listed A lF lA hS hN hQ hb hsub p3 hM a hf w hh
  · rw [p2]
    exact h2 listed A lF lA hS hN hQ hb hsub p4 hM a hf w hh
theorem RS.alt3 {v : PT} (h1 : OneS P r n l i t Q D k L M0 M Hs Hx) (h2 : OneS P r n l j u Q D k L M0 M Hs Hx) (h3 : OneS P r n l q v Q D k L M0 M Hs Hx) : RS P r n l (.alt3 i j q t u v) Q D k L M0 M Hs Hx := by
  intro listed A lF lA hS hN hQ hb hsub hp hM a hf
  simp only [planS, Bool.and_eq_true, decide_eq_true_eq] at hp
  obtain ⟨⟨⟨⟨⟨p1, p2⟩, p2'⟩, p3⟩, p4⟩, p5⟩ := hp
  have p2 := Nat.eq_of_beq_eq_true p2
  have p2' := Nat.eq_of_beq_eq_true p2'
  refine ⟨hM, fun e => (by rw [p1] at e; cases e), fun q hq w hh => ?_⟩
  rw [p1, List.mem_cons, List.mem_cons, List.mem_singleton] at hq
  rcases hq with rfl | rfl | rfl
  · exact h1 listed A lF lA hS hN hQ hb hsub p3 hM a hf w hh
  · rw [p2]
    exact h2 listed A lF lA hS hN hQ hb hsub p4 hM a hf w hh
  · rw [p2']
    exact h3 listed A lF lA hS hN hQ hb hsub p5 hM a hf w hh
end
end Go.Sx
end
section
namespace Go.Sx
open Go Go.Proofs Go.RowKit
attribute [local irreducible] C R Fin K Own OwnT Rd Pl Ok KOf RetOk OpsOf RP KP Res NoPanic KV KE MapS ItS EntS FsO FsR RowD PlD DkO
def hdC (h : Hd) : List Value := hrdC h.1 h.2
def rngH (h : Hd) : Prop := h.1 ≤ 18446744073709551615 ∧ -9223372036854775808 ≤ h.2 ∧ h.2 ≤ 9223372036854775807
section
variable {H : Type} {enc : TypeId × Value → H} {W : World} {m : Nat} {cs : List Value} {z : DataW H × List MemPlace}
theorem rd_hd (h : Trd enc Try.prog W m 44 cs z) (hw : Wgt Try.prog 44 z.1) : ∃ x : Hd, cs = hdC x ∧ rngH x := by
  obtain ⟨hl, k, hf⟩ := rd_fields Try.underlying44 h hw
  rw [show Try.prog.cellsOf 44 = 2 by kernel_rfl] at hl
  obtain ⟨y0, h0, _⟩ := hf 0 42 0 1 rfl (by kernel_rfl)
  obtain ⟨y1, h1, _⟩ := hf 1 3 1 1 rfl (by kernel_rfl)
  obtain ⟨a0, e0, w0⟩ := rd_int h0
  obtain ⟨a1, e1, w1⟩ := rd_int h1
  match cs, hl with
  | [x0, x1], _ =>
    cases e0; cases e1
    obtain ⟨b0, b1⟩ := u64_bd w0
    refine ⟨(a0.toNat, a1), ?_, by show a0.toNat ≤ _; omega, i64_bd w1⟩
    show [Value.int .u64 a0, .int .i64 a1] = [.int .u64 ((a0.toNat : Nat) : Int), .int .i64 a1]
    rw [Int.toNat_of_nonneg b0]
theorem rd_hds : ∀ (css : List (List Value)), (∀ c ∈ css, c.length = 2 ∧ ∃ m y, Trd enc Try.prog W m 44 c y ∧ Wgt Try.prog 44 y.1) → ∃ xs : List Hd, css = xs.map hdC ∧ ∀ x ∈ xs, rngH x
  | [], _ => ⟨[], rfl, fun _ h => absurd h List.not_mem_nil⟩
  | c :: css, h => by
    obtain ⟨xs, h1, h2⟩ := rd_hds css (fun c hc => h c (List.mem_cons_of_mem _ hc))
    obtain ⟨_, m, y, h5, h6⟩ := h c (List.mem_cons_self ..)
    obtain ⟨x, rfl, h7⟩ := rd_hd h5 h6
    refine ⟨x :: xs, by rw [h1]; rfl, fun a ha => ?_⟩
    rcases List.mem_cons.1 ha with rfl | ha
    · exact h7
    · exact h2 a ha
end
variable {M M' : Mem} {H H1 H2 : Hp}
theorem hd_at {A : Option Addr} {xs : List Hd} {k : Nat} (hp : Pl M A (xs.map hdC).flatten) (hk : k < xs.length) :
    ∃ b o c e fr, A = some ⟨b, o, none⟩ ∧ M.at_ b = some (.cells c e fr) ∧ c[o + k * 2 + 0]? = some (.int .u64 (xs[k].1 : Int)) ∧ c[o + k * 2 + 1]? = some (.int .i64 xs[k].2) := by
  have hc : ∀ c ∈ xs.map hdC, c.length = 2 := by intro c hc; obtain ⟨x, _, rfl⟩ := List.mem_map.1 hc; rfl
  have hkm : k < (xs.map hdC).length := by rw [List.length_map]; exact hk
  have hfl : ∀ (q : Nat) u, (hdC xs[k])[q]? = some u → (xs.map hdC).flatten[k * 2 + q]? = some u := fun q u hq => rows_get hc hkm (by rw [List.getElem_map]; exact hq)
  obtain ⟨b, o, c, e, fr, g1, g2, g3⟩ := hp.get (hfl 0 _ rfl)
  obtain ⟨b', o', c', e', fr', g1', g2', g3'⟩ := hp.get (hfl 1 _ rfl)
  rw [g1] at g1'
  cases g1'
  rw [g2] at g2'
  cases g2'
  exact ⟨b, o, c, e, fr, g1, g2, by rw [show o + k * 2 + 0 = o + (k * 2 + 0) by omega]; exact g3, by rw [show o + k * 2 + 1 = o + (k * 2 + 1) by omega]; exact g3'⟩
end Go.Sx
end
section
namespace Go.Sx
open Go Go.Proofs Go.RowKit
attribute [local irreducible] C R Fin K Own OwnT Rd Pl Ok KOf RetOk OpsOf RP KP Res NoPanic KV KE MapS ItS EntS FsO FsR RowD PlD DkO
variable {M M' : Mem} {H H1 H2 : Hp}
structure FE where
  n : Txt
  v : Value
  b : Txt
def feC (e : FE) : List Value := [str e.n, e.v]
def feP (e : FE) : Txt × Txt := (e.n, e.b)
def EsOk (M : Mem) (es : List FE) : Prop := ∀ e ∈ es, PlB M e.v e.b
theorem EsOk.mono {es : List FE} (hM : M.le M') (h : EsOk M es) : EsOk M' es := fun e he => (h e he).mono hM
def PlFs (M : Mem) (v : Value) (F : Fs) : Prop := ∃ A cap es, v = .slice A es.length cap ∧ es.length ≤ cap ∧ cap ≤ 9223372036854775807 ∧ Pl M A (es.map feC).flatten ∧ EsOk M es ∧ es.map feP = F
theorem PlFs.mono {v : Value} {F : Fs} (hM : M.le M') (h : PlFs M v F) : PlFs M' v F := by
  obtain ⟨A, cap, es, h1, h2, h3, h4, h5, h6⟩ := h
  exact ⟨A, cap, es, h1, h2, h3, h4.mono hM, h5.mono hM, h6⟩
theorem PlFs.nil : PlFs M (.slice none 0 0) [] := ⟨none, 0, [], rfl, Nat.le_refl _, by omega, Pl.nil, fun _ h => absurd h List.not_mem_nil, rfl⟩
theorem feC_all (es : List FE) : ∀ c ∈ es.map feC, c.length = 2 := by
  intro c hc
  obtain ⟨e, _, rfl⟩ := List.mem_map.1 hc
  rfl
theorem feC_len (es : List FE) : (es.map feC).flatten.length = es.length * 2 := by
  rw [rows_len (feC_all es), List.length_map]
theorem feC_take (es : List FE) (k : Nat) : (es.map feC).flatten.take (k * 2) = ((es.take k).map feC).flatten := by
  rw [rows_take (feC_all es), List.map_take]
theorem feC_drop (es : List FE) (k : Nat) : (es.map feC).flatten.drop (k * 2) = ((es.drop k).map feC).flatten := by
  rw [rows_drop (feC_all es), List.map_drop]
theorem feC_snoc (es : List FE) (e : FE) : ((es ++ [e]).map feC).flatten = (es.map feC).flatten ++ feC e := by
  rw [List.map_append, List.flatten_append]
  rfl
theorem feC_one {es : List FE} (h : EsOk M es) : ∀ u ∈ (es.map feC).flatten, u.oneCell' = true := by
  intro u hu
  obtain ⟨c, hc, huc⟩ := List.mem_flatten.1 hu
  obtain ⟨e, he, rfl⟩ := List.mem_map.1 hc
  obtain ⟨A, cap, h1, _⟩ := h e he
  unfold feC at huc
  rw [h1] at huc
  simp only [List.mem_cons, List.not_mem_nil, or_false] at huc
  rcases huc with rfl | rfl <;> rfl
theorem fe_at {A : Option Addr} {es : List FE} {k : Nat} (hp : Pl M A (es.map feC).flatten) (hk : k < es.length) :
    ∃ b o c e fr, A = some ⟨b, o, none⟩ ∧ M.at_ b = some (.cells c e fr) ∧ c[o + k * 2 + 0]? = some (str es[k].n) ∧ c[o + k * 2 + 1]? = some es[k].v := by
  have hkm : k < (es.map feC).length := by rw [List.length_map]; exact hk
  have hfl : ∀ (q : Nat) u, (feC es[k])[q]? = some u → (es.map feC).flatten[k * 2 + q]? = some u := fun q u hq => rows_get (feC_all es) hkm (by rw [List.getElem_map]; exact hq)
  obtain ⟨b, o, c, e, fr, g1, g2, g3⟩ := hp.get (hfl 0 _ rfl)
  obtain ⟨b', o', c', e', fr', g1', g2', g3'⟩ := hp.get (hfl 1 _ rfl)
  rw [g1] at g1'
  cases g1'
  rw [g2] at g2'
  cases g2'
  exact ⟨b, o, c, e, fr, g1, g2, by rw [show o + k * 2 + 0 = o + (k * 2 + 0) by omega]; exact g3, by rw [show o + k * 2 + 1 = o + (k * 2 + 1) by omega]; exact g3'⟩
def findI : Fs → Txt → Int → Int
  | [], _, _ => -1
  | p :: F, n, i => if p.1 = n then i else findI F n (i + 1)
theorem findI_spec : ∀ (F : Fs) (n : Txt) (i : Int), (findI F n i = -1 ∧ getS F n = none) ∨ ∃ j b, findI F n i = i + (j : Nat) ∧ F[j]? = some (n, b) ∧ getS F n = some b
  | [], _, _ => .inl ⟨rfl, rfl⟩
  | p :: F, n, i => by
    unfold findI getS
    by_cases h : p.1 = n
    · refine .inr ⟨0, p.2, ?_, ?_, ?_⟩
      · rw [if_pos h]; omega
      · rw [List.getElem?_cons_zero, ← h]
      · rw [List.find?_cons_of_pos (by simp [h])]; rfl
    · rw [if_neg h, List.find?_cons_of_neg (by simp [h])]
      rcases findI_spec F n (i + 1) with ⟨h1, h2⟩ | ⟨j, b, h1, h2, h3⟩
      · exact .inl ⟨h1, h2⟩
      · refine .inr ⟨j + 1, b, by rw [h1]; omega, by rw [List.getElem?_cons_succ]; exact h2, h3⟩
theorem findI_cons (p : Txt × Txt) (F : Fs) (n : Txt) (i : Int) : findI (p :: F) n i = if p.1 = n then i else findI F n (i + 1) := rfl
theorem take_snocE {α : Type} {l : List α} {i : Nat} (h : i < l.length) : l.take (i + 1) = l.take i ++ [l[i]] := List.take_succ_eq_append_getElem h
structure FiX where
  i : Nat
  ii : Int
theorem rfind_K {v : Value} {F : Fs} {n : Txt} (hf : PlFs M v F) (hl : F.length ≤ 1000000) : K Try.prog 86 [v, str n] M H fun v' M' H' => v' = .int .i64 (findI F n 0) ∧ M' = M ∧ H' = H := by
  obtain ⟨A, cap, es, rfl, h1, h2, h3, h4, rfl⟩ := hf
  rw [List.length_map] at hl
  refine K.enterK Try.func86 rfl rfl rfl ?_
  intro Q hNP hQ
  (repeat' (first | refine a_go ?_ | (with_reducible apply Fin.thenK; assumption) | (with_reducible (first | apply C.seqK | apply C.regionK); intro _ _) | (apply R.buildSlice0; exact rfl; intro bz) | (apply R.box; exact rfl; (simp only [Value.cells]; rfl); exact rfl; intro bx) | (apply R.alloc; (simp only [Value.cells]; rfl); exact rfl; intro ba) | (apply R.buildSlice; (exact a_prt); exact rfl; exact rfl; (exact a_fills); exact rfl; intro bl) | (refine a_sp ?_ ?_; (intro h; skip; rotate_left; intro h; skip; rotate_left)) | fail))
  apply C.loop (fun y : FiX => (y.i : Int) = y.ii ∧ y.i ≤ es.length ∧ findI (es.map feP) n 0 = findI ((es.drop y.i).map feP) n y.ii)
    (fun y => [(0, .slice A es.length cap), (1, str n), (5, .int .i64 y.ii)]) (fun _ => M) (fun _ => H) (fun y => es.length - y.i) ⟨0, 0⟩
  · exact ⟨rfl, Nat.zero_le _, rfl⟩
  · (exact a_subs)
  · exact rfl
  · exact rfl
  rintro ⟨i, ii⟩ ⟨hii, hi, hf⟩
  dsimp only at hii hi hf ⊢
  by_cases hix : i < es.length
  · obtain ⟨b, o, c, e, fr, rfl, hM, hc0, hc1⟩ := fe_at h3 hix
    rw [show o + i * 2 = o + ii.toNat * 2 by omega] at hc0 hc1
    rw [List.drop_eq_getElem_cons hix, List.map_cons, findI_cons] at hf
    (repeat' (first | (apply R.step; (apply Ok.move; exact rfl); exact rfl) | (apply R.step; (first | (apply Ok.loadP; exact rfl; exact rfl; exact hM; exact hc0) | (apply Ok.eqT; exact rfl; exact rfl)); exact rfl) | refine a_go ?_ | (with_reducible apply Fin.thenK; assumption) | (with_reducible (first | apply C.seqK | apply C.regionK); intro _ _) | (apply R.buildSlice0; exact rfl; intro bz) | (apply R.box; exact rfl; (simp only [Value.cells]; rfl); exact rfl; intro bx) | (apply R.alloc; (simp only [Value.cells]; rfl); exact rfl; intro ba) | (apply R.buildSlice; (exact a_prt); exact rfl; exact rfl; (exact a_fills); exact rfl; intro bl) | (refine a_sp ?_ ?_; (intro h; skip; rotate_left; intro h; skip; rotate_left)) | fail))
    · have he : es[i].n = n := by assumption
      have hf : findI (es.map feP) n 0 = ii := hf.trans (if_pos he)
      (refine Fin.rt ?_)
      exact ⟨by rw [hf], rfl, rfl⟩
    · have he : ¬ es[i].n = n := by assumption
      have hf : findI (es.map feP) n 0 = findI ((es.drop (i + 1)).map feP) n (ii + 1) := hf.trans (if_neg he)
      refine Fin.again (⟨i + 1, ii + 1⟩ : FiX) ⟨by dsimp only; omega, by dsimp only; omega, hf⟩ (by dsimp only; omega) ?_ rfl rfl
      (exact a_subs)
    all_goals (exfalso; omega)
  have hie : i = es.length := by omega
  subst hie
  rw [List.drop_length] at hf
  (repeat' (first | refine a_go ?_ | (with_reducible apply Fin.thenK; assumption) | (with_reducible (first | apply C.seqK | apply C.regionK); intro _ _) | (apply R.buildSlice0; exact rfl; intro bz) | (apply R.box; exact rfl; (simp only [Value.cells]; rfl); exact rfl; intro bx) | (apply R.alloc; (simp only [Value.cells]; rfl); exact rfl; intro ba) | (apply R.buildSlice; (exact a_prt); exact rfl; exact rfl; (exact a_fills); exact rfl; intro bl) | (refine a_sp ?_ ?_; (intro h; skip; rotate_left; intro h; skip; rotate_left)) | fail))
  any_goals (exfalso; omega)
  (refine Fin.rt ?_)
  exact ⟨by rw [hf]; rfl, rfl, rfl⟩
structure WoX where
  i : Nat
  ii : Int
  os : List FE
  ov : Value
  ho : Hp
theorem rwithout_K {v : Value} {F : Fs} {n : Txt} (hf : PlFs M v F) (hl : F.length ≤ 1000000) : K Try.prog 104 [v, str n] M H fun v' M' H' => PlFs M' v' (delS F n) ∧ M.le M' ∧ H' = H := by
  obtain ⟨A, cap, es, rfl, h1, h2, h3, h4, rfl⟩ := hf
  rw [List.length_map] at hl
  refine K.enterK Try.func104 rfl rfl rfl ?_
  intro Q hNP hQ
  (repeat' (first | refine a_go ?_ | (with_reducible apply Fin.thenK; assumption) | (with_reducible (first | apply C.seqK | apply C.regionK); intro _ _) | (apply R.buildSlice0; exact rfl; intro bz) | (apply R.box; exact rfl; (simp only [Value.cells]; rfl); exact rfl; intro bx) | (apply R.alloc; (simp only [Value.cells]; rfl); exact rfl; intro ba) | (apply R.buildSlice; (exact a_prt); exact rfl; exact rfl; (exact a_fills); exact rfl; intro bl) | (refine a_sp ?_ ?_; (intro h; skip; rotate_left; intro h; skip; rotate_left)) | fail))
  apply C.loop (fun y : WoX => (y.i : Int) = y.ii ∧ y.i ≤ es.length ∧ y.os.length ≤ y.i ∧ EsOk M y.os ∧ y.os.map feP = delS ((es.take y.i).map feP) n ∧ Own 61 2 y.ov y.os.length (y.os.map feC).flatten y.ho)
    (fun y => [(0, .slice A es.length cap), (1, str n), (5, y.ov), (6, .int .i64 y.ii)]) (fun _ => M) (fun y => y.ho ++ H) (fun y => es.length - y.i) ⟨0, 0, [], .slice none 0 0, []⟩
  · exact ⟨rfl, Nat.zero_le _, Nat.le_refl _, fun _ h => absurd h List.not_mem_nil, rfl, Own.nil _ _⟩
  · (exact a_subs)
  · exact rfl
  · exact rfl
  rintro ⟨i, ii, os, ov, ho⟩ ⟨hii, hi, hol, hok, hos, hown⟩
  dsimp only at hii hi hol hok hos hown ⊢
  obtain ⟨AO, co, rfl, k1, k2⟩ := hown.form
  by_cases hix : i < es.length
  · obtain ⟨b, o, c, e, fr, hA, hM, hc0, hc1⟩ := fe_at h3 hix
    subst hA
    rw [show o + i * 2 = o + ii.toNat * 2 by omega] at hc0 hc1
    have hei := h4 _ (List.getElem_mem hix)
    have htk : (es.take (i + 1)).map feP = (es.take i).map feP ++ [feP es[i]] := by rw [take_snocE hix, List.map_append]; rfl
    (repeat' (first | (apply R.step; (apply Ok.move; exact rfl); exact rfl) | (apply R.step; (first | (apply Ok.loadP; exact rfl; exact rfl; exact hM; exact hc0) | (apply Ok.neT; exact rfl; exact rfl)); exact rfl) | refine a_go ?_ | (with_reducible apply Fin.thenK; assumption) | (with_reducible (first | apply C.seqK | apply C.regionK); intro _ _) | (apply R.buildSlice0; exact rfl; intro bz) | (apply R.box; exact rfl; (simp only [Value.cells]; rfl); exact rfl; intro bx) | (apply R.alloc; (simp only [Value.cells]; rfl); exact rfl; intro ba) | (apply R.buildSlice; (exact a_prt); exact rfl; exact rfl; (exact a_fills); exact rfl; intro bl) | (refine a_sp ?_ ?_; (intro h; skip; rotate_left; intro h; skip; rotate_left)) | fail))
    · have he : ¬ es[i].n = n := by assumption
      obtain ⟨Ai, ci, hvi, _⟩ := hei
      rw [hvi] at hc1
      have hagg : ∀ j u, [str es[i].n, Value.slice Ai es[i].b.length ci][j]? = some u → c[o + ii.toNat * 2 + j]? = some u := by
        intro j u hj
        match j, hj with
        | 0, hj => cases hj; exact hc0
        | 1, hj => cases hj; exact hc1
      (repeat' (first | (apply R.step; (apply Ok.move; exact rfl); exact rfl) | (apply R.step; (apply Ok.loadAggP (vs := [str es[i].n, .slice Ai es[i].b.length ci]); exact rfl; exact rfl; exact hM; exact rfl; exact hagg); exact rfl) | refine a_go ?_ | (with_reducible apply Fin.thenK; assumption) | (with_reducible (first | apply C.seqK | apply C.regionK); intro _ _) | (apply R.buildSlice0; exact rfl; intro bz) | (apply R.box; exact rfl; (simp only [Value.cells]; rfl); exact rfl; intro bx) | (apply R.alloc; (simp only [Value.cells]; rfl); exact rfl; intro ba) | (apply R.buildSlice; (exact a_prt); exact rfl; exact rfl; (exact a_fills); exact rfl; intro bl) | (refine a_sp ?_ ?_; (intro h; skip; rotate_left; intro h; skip; rotate_left)) | fail))
      (apply R.append (news := [str es[i].n, .slice Ai es[i].b.length ci]) (k := 1); exact rfl; exact rfl; exact hown; (exact a_tk); exact Rd.at_ (l := [str es[i].n, .slice Ai es[i].b.length ci]) (by (exact a_at)) (fun j x h => by rw [Nat.zero_add]; exact h); exact rfl; (intro u hu; simp only [List.mem_cons, List.not_mem_nil, or_false] at hu; rcases hu with rfl | rfl <;> rfl); omega; exact rfl; decide; decide; exact rfl; rintro v3 hp3 ho3)
      (repeat' (first | refine a_go ?_ | (with_reducible apply Fin.thenK; assumption) | (with_reducible (first | apply C.seqK | apply C.regionK); intro _ _) | (apply R.buildSlice0; exact rfl; intro bz) | (apply R.box; exact rfl; (simp only [Value.cells]; rfl); exact rfl; intro bx) | (apply R.alloc; (simp only [Value.cells]; rfl); exact rfl; intro ba) | (apply R.buildSlice; (exact a_prt); exact rfl; exact rfl; (exact a_fills); exact rfl; intro bl) | (refine a_sp ?_ ?_; (intro h; skip; rotate_left; intro h; skip; rotate_left)) | fail))
      (apply Fin.arr (H2 := hp3 ++ H); ((try simp only [List.append_assoc, List.cons_append, List.nil_append, List.append_nil]); exact a_arr))
      refine Fin.again (⟨i + 1, ii + 1, os ++ [es[i]], v3, hp3⟩ : WoX) ⟨by dsimp only; omega, by dsimp only; omega, by dsimp only; rw [List.length_append]; show _ + 1 ≤ _; omega, ?_, ?_, ?_⟩ (by dsimp only; omega) ?_ rfl rfl
      · intro e he
        rcases List.mem_append.1 he with he | he
        · exact hok e he
        · rw [List.mem_singleton] at he
          rw [he]
          exact h4 _ (List.getElem_mem hix)
      · dsimp only
        rw [htk, List.map_append, hos]
        unfold delS
        rw [List.filter_append, List.filter_cons_of_pos (by simp [feP, he])]
        rfl
      · dsimp only
        rw [feC_snoc, List.length_append]
        unfold feC
        rw [hvi]
        exact ho3
      · (exact a_subs)
    · have he : es[i].n = n := by assumption
      refine Fin.again (⟨i + 1, ii + 1, os, _, ho⟩ : WoX) ⟨by dsimp only; omega, by dsimp only; omega, by dsimp only; omega, hok, ?_, hown⟩ (by dsimp only; omega) ?_ rfl rfl
      · dsimp only
        rw [htk, hos]
        unfold delS
        rw [List.filter_append, List.filter_cons_of_neg (by simp [feP, he])]
        simp
      · (exact a_subs)
    all_goals (exfalso; omega)
  have hie : i = es.length := by omega
  subst hie
  rw [List.take_length] at hos
  (repeat' (first | refine a_go ?_ | (with_reducible apply Fin.thenK; assumption) | (with_reducible (first | apply C.seqK | apply C.regionK); intro _ _) | (apply R.buildSlice0; exact rfl; intro bz) | (apply R.box; exact rfl; (simp only [Value.cells]; rfl); exact rfl; intro bx) | (apply R.alloc; (simp only [Value.cells]; rfl); exact rfl; intro ba) | (apply R.buildSlice; (exact a_prt); exact rfl; exact rfl; (exact a_fills); exact rfl; intro bl) | (refine a_sp ?_ ?_; (intro h; skip; rotate_left; intro h; skip; rotate_left)) | fail))
  any_goals (exfalso; omega)
  (apply Fin.ice (hp := ho) (H1 := H) (by (exact a_arr)); intro M2 hM2 hin2)
  (apply Fin.returnA (H2 := H); assumption; (first | exact .inl rfl | exact .inr rfl); exact rfl; (exact a_res); (simp only [retv]; rfl); (exact a_arr))
  exact ⟨⟨AO, co, os, rfl, k1, by unfold maxLen at k2; omega, hown.plIn hin2, hok.mono hM2, hos⟩, hM2, rfl⟩
def insF : Fs → Txt × Txt → Fs
  | [], p => [p]
  | q :: F, p => if Op.bytesLess q.1 p.1 then q :: insF F p else p :: q :: F
theorem insF_cons (q : Txt × Txt) (F : Fs) (p : Txt × Txt) : insF (q :: F) p = if Op.bytesLess q.1 p.1 then q :: insF F p else p :: q :: F := rfl
def insE : List FE → FE → List FE
  | [], p => [p]
  | q :: F, p => if Op.bytesLess q.n p.n then q :: insE F p else p :: q :: F
theorem insE_map : ∀ (es : List FE) (e : FE), (insE es e).map feP = insF (es.map feP) (feP e)
  | [], _ => rfl
  | q :: es, e => by
    unfold insE
    rw [List.map_cons, insF_cons]
    show (if Op.bytesLess q.n e.n then q :: insE es e else e :: q :: es).map feP = if Op.bytesLess q.n e.n then feP q :: insF (es.map feP) (feP e) else feP e :: feP q :: es.map feP
    split
    · rw [List.map_cons, insE_map es e]
    · rfl
structure WiX where
  v : Value
  b : Nat
  hp : Hp
theorem rwith_K {v fv : Value} {F : Fs} {n b : Txt} (hf : PlFs M v F) (hb : PlB M fv b) (hl : F.length ≤ 1000000) : K Try.prog 103 [v, .agg #[str n, fv]] M H fun v' M' H' => PlFs M' v' (insF (delS F n) (n, b)) ∧ M.le M' ∧ H' = H := by
  refine K.enterK Try.func103 rfl rfl rfl ?_
  intro Q hNP hQ
  have hb0 := hb
  obtain ⟨Ab, cb, rfl, hb1, hb2, hb3⟩ := hb0
  (repeat' (first | refine a_go ?_ | (with_reducible apply Fin.thenK; assumption) | (with_reducible (first | apply C.seqK | apply C.regionK); intro _ _) | (apply R.buildSlice0; exact rfl; intro bz) | (apply R.box; exact rfl; (simp only [Value.cells]; rfl); exact rfl; intro bx) | (apply R.alloc; (simp only [Value.cells]; rfl); exact rfl; intro ba) | (apply R.buildSlice; (exact a_prt); exact rfl; exact rfl; (exact a_fills); exact rfl; intro bl) | (refine a_sp ?_ ?_; (intro h; skip; rotate_left; intro h; skip; rotate_left)) | fail))
  (apply R.call; (exact a_evs); exact rfl; exact rwithout_K (n := n) hf hl; rintro v1 M1 _ ⟨hf1, hM1, rfl⟩)
  replace hb := hb.mono hM1
  have hl1 : (delS F n).length ≤ 1000000 := Nat.le_trans (List.length_filter_le _ _) hl
  generalize delS F n = G at hf1 hQ hl1
  obtain ⟨A, cap, es, rfl, h1, h2, h3, h4, rfl⟩ := hf1
  rw [List.length_map] at hl1
  (repeat' (first | (apply R.step; (exact a_ok); exact rfl) | (first | (with_reducible first | apply R.nil | apply C.ret | apply C.block | apply C.skip | apply C.exit | apply Fin.thenRet | apply Fin.thenExit | apply Fin.blockNormal | apply Fin.blockRet | apply Fin.blockExit) | (with_reducible apply Fin.thenK; assumption) | (with_reducible apply C.seqR; intro _ _) | (with_reducible apply C.regionK; intro _ _) | (with_reducible apply Fin.blockOther; exact rfl)) | (first | (apply R.store; exact rfl; exact rfl; exact rfl; (exact a_at); (exact a_blit); exact rfl; (focus (simp [Value.oneCell']; done))) | (apply R.buildSlice0; exact rfl; intro bz) | (apply R.box; exact rfl; (simp only [Value.cells]; rfl); exact rfl; intro bx) | (apply R.alloc; (simp only [Value.cells]; rfl); exact rfl; intro ba) | (apply R.buildSlice; (exact a_prt); exact rfl; exact rfl; (exact a_fills); exact rfl; intro bl)) | (first | (apply R.guardT; assumption; exact rfl; exact rfl; exact rfl) | (apply R.guardF; assumption; exact rfl; exact rfl; exact rfl; exact rfl; exact rfl) | (apply R.guardU; assumption; exact rfl; exact rfl; exact rfl; exact rfl) | (apply R.guardDec; assumption; exact rfl; exact rfl; (intro h; skip; rotate_left; intro h; skip; rotate_left)) | (apply R.guardBeq; assumption; exact rfl; exact rfl; (intro h; skip; rotate_left; intro h; skip; rotate_left)) | (apply R.guardBne; assumption; exact rfl; exact rfl; (intro h; skip; rotate_left; intro h; skip; rotate_left)) | (apply R.guardNDec; assumption; exact rfl; exact rfl; (intro h; skip; rotate_left; intro h; skip; rotate_left)) | (apply R.guardNot; assumption; exact rfl; exact rfl; (intro h; skip; rotate_left; intro h; skip; rotate_left)) | (apply R.guardC; assumption; exact rfl; exact rfl; (intro h; skip; rotate_left; intro h; skip; rotate_left)))))
  apply C.seqCut (fun y : FiX => (y.i : Int) = y.ii ∧ y.i ≤ es.length ∧ insE es ⟨n, .slice Ab b.length cb, b⟩ = es.take y.i ++ ⟨n, .slice Ab b.length cb, b⟩ :: es.drop y.i)
    (fun y => [(0, .slice A es.length cap), (3, .pointer (some ⟨bx, 0, none⟩)), (5, .int .i64 y.ii)]) (fun _ => M1) (fun _ => (bx, .cells #[str n, .slice Ab b.length cb] 61 (0, 0)) :: H)
  · (repeat' (first | refine a_go ?_ | (with_reducible apply Fin.thenK; assumption) | (with_reducible (first | apply C.seqK | apply C.regionK); intro _ _) | (apply R.buildSlice0; exact rfl; intro bz) | (apply R.box; exact rfl; (simp only [Value.cells]; rfl); exact rfl; intro bx) | (apply R.alloc; (simp only [Value.cells]; rfl); exact rfl; intro ba) | (apply R.buildSlice; (exact a_prt); exact rfl; exact rfl; (exact a_fills); exact rfl; intro bl) | (refine a_sp ?_ ?_; (intro h; skip; rotate_left; intro h; skip; rotate_left)) | fail))
    apply C.loop (fun y : FiX => (y.i : Int) = y.ii ∧ y.i ≤ es.length ∧ insE es ⟨n, .slice Ab b.length cb, b⟩ = es.take y.i ++ insE (es.drop y.i) ⟨n, .slice Ab b.length cb, b⟩)
      (fun y => [(0, .slice A es.length cap), (3, .pointer (some ⟨bx, 0, none⟩)), (5, .int .i64 y.ii)]) (fun _ => M1) (fun _ => (bx, .cells #[str n, .slice Ab b.length cb] 61 (0, 0)) :: H) (fun y => es.length - y.i) ⟨0, 0⟩
    · exact ⟨rfl, Nat.zero_le _, rfl⟩
    · (exact a_subs)
    · exact rfl
    · exact rfl
    rintro ⟨i, ii⟩ ⟨hii, hi, hins⟩
    dsimp only at hii hi hins ⊢
    by_cases hix : i < es.length
    · obtain ⟨bb, o, c, e, fr, hA, hM, hc0, hc1⟩ := fe_at h3 hix
      subst hA
      rw [show o + i * 2 = o + ii.toNat * 2 by omega] at hc0 hc1
      have hdr := List.drop_eq_getElem_cons hix
      rw [hdr] at hins
      change _ = _ ++ if Op.bytesLess es[i].n n then _ else _ at hins
      (repeat' (first | refine a_go ?_ | (with_reducible apply Fin.thenK; assumption) | (with_reducible (first | apply C.seqK | apply C.regionK); intro _ _) | (apply R.buildSlice0; exact rfl; intro bz) | (apply R.box; exact rfl; (simp only [Value.cells]; rfl); exact rfl; intro bx) | (apply R.alloc; (simp only [Value.cells]; rfl); exact rfl; intro ba) | (apply R.buildSlice; (exact a_prt); exact rfl; exact rfl; (exact a_fills); exact rfl; intro bl) | (refine a_sp ?_ ?_; (intro h; skip; rotate_left; intro h; skip; rotate_left)) | fail))
      (apply C.regionO (ks := [1, 1, 1, 1, 1, 1, 1, 1, 1, 1, 1, 1, 1, 1]) (is := [0, 1, 2, 3, 4, 5, 6, 7, 8, 9, 10, 11, 12, 13]) (Hs := [(bx, .cells #[str n, .slice Ab b.length cb] 61 (0, 0))]); exact Mix.h; (first | exact Arr.all _ | (exact a_arr)); (exact a_np); (exact a_picked); kernel_rfl; intro _ e; subst e)
      (repeat' (first | (apply RP.step; intro _ _ _; (apply Ok.move; exact rfl); exact rfl) | (apply RP.step; intro _ _ hMx; (apply Ok.ltTr; exact rfl; exact rfl; omega); exact rfl) | (apply RP.stepT; exact rfl; exact rfl; exact rfl; intro _ _ hMx; (first | (apply Ok.loadP; exact rfl; exact rfl; exact hMx.2.2 _ _ hM; exact hc0) | (apply Ok.ltT; exact rfl; exact rfl)); exact rfl) | (first | (apply RP.step; intro _ _ _; (exact a_ok); exact rfl) | (apply RP.stepT; exact rfl; exact rfl; exact rfl; intro _ _ _; (exact a_ok); exact rfl) | (apply RP.stepF; exact rfl; exact rfl; exact rfl; exact rfl; exact rfl) | (apply RP.effF; exact rfl; exact rfl; exact rfl; exact rfl; exact rfl)) | (apply RP.callQ; (exact a_evs); exact rfl)))
      (first | apply RP.nil0 | apply RP.nil)
      cases hlt : Op.bytesLess es[i].n n with
      | true =>
        rw [if_pos hlt] at hins
        (repeat' (first | refine a_go ?_ | (with_reducible apply Fin.thenK; assumption) | (with_reducible (first | apply C.seqK | apply C.regionK); intro _ _) | (apply R.buildSlice0; exact rfl; intro bz) | (apply R.box; exact rfl; (simp only [Value.cells]; rfl); exact rfl; intro bx) | (apply R.alloc; (simp only [Value.cells]; rfl); exact rfl; intro ba) | (apply R.buildSlice; (exact a_prt); exact rfl; exact rfl; (exact a_fills); exact rfl; intro bl) | (refine a_sp ?_ ?_; (intro h; skip; rotate_left; intro h; skip; rotate_left)) | fail))
        refine Fin.again (⟨i + 1, ii + 1⟩ : FiX) ⟨by dsimp only; omega, by dsimp only; omega, ?_⟩ (by dsimp only; omega) ?_ rfl rfl
        · dsimp only
          rw [take_snocE hix, List.append_assoc]
          exact hins
        · (exact a_subs)
      | false =>
        rw [if_neg (by rw [hlt]; decide)] at hins
        (repeat' (first | refine a_go ?_ | (with_reducible apply Fin.thenK; assumption) | (with_reducible (first | apply C.seqK | apply C.regionK); intro _ _) | (apply R.buildSlice0; exact rfl; intro bz) | (apply R.box; exact rfl; (simp only [Value.cells]; rfl); exact rfl; intro bx) | (apply R.alloc; (simp only [Value.cells]; rfl); exact rfl; intro ba) | (apply R.buildSlice; (exact a_prt); exact rfl; exact rfl; (exact a_fills); exact rfl; intro bl) | (refine a_sp ?_ ?_; (intro h; skip; rotate_left; intro h; skip; rotate_left)) | fail))
        refine Fin.join (⟨i, ii⟩ : FiX) ⟨hii, hi, ?_⟩ ?_ rfl rfl
        · dsimp only
          rw [hdr]
          exact hins
        · (exact a_subs)
    have hie : i = es.length := by omega
    subst hie
    (repeat' (first | refine a_go ?_ | (with_reducible apply Fin.thenK; assumption) | (with_reducible (first | apply C.seqK | apply C.regionK); intro _ _) | (apply R.buildSlice0; exact rfl; intro bz) | (apply R.box; exact rfl; (simp only [Value.cells]; rfl); exact rfl; intro bx) | (apply R.alloc; (simp only [Value.cells]; rfl); exact rfl; intro ba) | (apply R.buildSlice; (exact a_prt); exact rfl; exact rfl; (exact a_fills); exact rfl; intro bl) | (refine a_sp ?_ ?_; (intro h; skip; rotate_left; intro h; skip; rotate_left)) | fail))
    (apply C.regionO (ks := [1, 1, 1, 1, 1, 1, 1, 1, 1, 1, 1, 1, 1, 1]) (is := [0, 1, 2, 3, 4, 5, 6, 7, 8, 9, 10, 11, 12, 13]) (Hs := [(bx, .cells #[str n, .slice Ab b.length cb] 61 (0, 0))]); exact Mix.h; (first | exact Arr.all _ | (exact a_arr)); (exact a_np); (exact a_picked); kernel_rfl; intro _ e; subst e)
    (repeat' (first | (apply RP.step; intro _ _ _; (apply Ok.move; exact rfl); exact rfl) | (apply RP.step; intro _ _ hMx; (apply Ok.ltF; exact rfl; exact rfl; omega); exact rfl) | (first | (apply RP.step; intro _ _ _; (exact a_ok); exact rfl) | (apply RP.stepT; exact rfl; exact rfl; exact rfl; intro _ _ _; (exact a_ok); exact rfl) | (apply RP.stepF; exact rfl; exact rfl; exact rfl; exact rfl; exact rfl) | (apply RP.effF; exact rfl; exact rfl; exact rfl; exact rfl; exact rfl)) | (apply RP.callQ; (exact a_evs); exact rfl)))
    (first | apply RP.nil0 | apply RP.nil)
    (repeat' (first | refine a_go ?_ | (with_reducible apply Fin.thenK; assumption) | (with_reducible (first | apply C.seqK | apply C.regionK); intro _ _) | (apply R.buildSlice0; exact rfl; intro bz) | (apply R.box; exact rfl; (simp only [Value.cells]; rfl); exact rfl; intro bx) | (apply R.alloc; (simp only [Value.cells]; rfl); exact rfl; intro ba) | (apply R.buildSlice; (exact a_prt); exact rfl; exact rfl; (exact a_fills); exact rfl; intro bl) | (refine a_sp ?_ ?_; (intro h; skip; rotate_left; intro h; skip; rotate_left)) | fail))
    refine Fin.join (⟨es.length, ii⟩ : FiX) ⟨hii, hi, ?_⟩ ?_ rfl rfl
    · dsimp only
      rw [List.drop_length] at hins ⊢
      exact hins
    · (exact a_subs)
  rintro ⟨i, ii⟩ ⟨hii, hi, hins⟩
  dsimp only at hii hi hins ⊢
  have hpt : Pl M1 A ((es.take i).map feC).flatten := by rw [← feC_take]; exact h3.take _
  have hpd : Pl M1 (adv A i 2 cap) ((es.drop i).map feC).flatten := by rw [← feC_drop]; exact h3.cut (by rw [feC_len]; omega)
  have hone1 := feC_one (es := es.take i) (fun e he => h4 e (List.mem_of_mem_take he))
  have hone2 := feC_one (es := es.drop i) (fun e he => h4 e (List.mem_of_mem_drop he))
  have hlt : ((es.take i).map feC).flatten.length = i * 2 := by rw [feC_len, List.length_take]; omega
  have hld : ((es.drop i).map feC).flatten.length = (es.length - i) * 2 := by rw [feC_len, List.length_drop]
  subst hii
  (repeat' (first | refine a_go ?_ | (with_reducible apply Fin.thenK; assumption) | (with_reducible (first | apply C.seqK | apply C.regionK); intro _ _) | (apply R.buildSlice0; exact rfl; intro bz) | (apply R.box; exact rfl; (simp only [Value.cells]; rfl); exact rfl; intro bx) | (apply R.alloc; (simp only [Value.cells]; rfl); exact rfl; intro ba) | (apply R.buildSlice; (exact a_prt); exact rfl; exact rfl; (exact a_fills); exact rfl; intro bl) | (refine a_sp ?_ ?_; (intro h; skip; rotate_left; intro h; skip; rotate_left)) | fail))
  (apply C.regionO (ks := [1, 1, 1, 1, 1, 1, 1, 1, 2, 2, 0, 0, 1]) (is := [0, 1, 2, 3, 5, 8, 9, 10, 4, 6, 7, 11, 12]) (Hs := [(bx, .cells #[str n, .slice Ab b.length cb] 61 (0, 0))]); exact Mix.h; (first | exact Arr.all _ | (exact a_arr)); (exact a_np); (exact a_picked); kernel_rfl; intro _ e; subst e)
  (repeat' (first | (apply RP.step; intro _ _ _; (apply Ok.move; exact rfl); exact rfl) | (apply RP.step; intro _ _ hMx; (first | (apply Ok.sliceHi; exact rfl; exact rfl; omega; omega) | (apply Ok.sliceLo; exact rfl; exact rfl; omega; omega)); exact rfl) | (first | (apply RP.step; intro _ _ _; (exact a_ok); exact rfl) | (apply RP.stepT; exact rfl; exact rfl; exact rfl; intro _ _ _; (exact a_ok); exact rfl) | (apply RP.stepF; exact rfl; exact rfl; exact rfl; exact rfl; exact rfl) | (apply RP.effF; exact rfl; exact rfl; exact rfl; exact rfl; exact rfl)) | (apply RP.callQ; (exact a_evs); exact rfl)))
  apply RP.pair (I := fun y : WiX => Own 61 2 y.v i ((es.take i).map feC).flatten y.hp) (Lf := fun y => [(31, y.v), (33, .slice (some ⟨y.b, 0, none⟩) 1 1), (37, .slice (adv A i 2 cap) (es.length - i) (cap - i))]) (Mf := fun _ => M1) (Hf := fun y => y.hp ++ ((y.b, .cells [str n, .slice Ab b.length cb].toArray 61 (0, 0)) :: H))
  · intro Kc hKc ops0
    (apply R.append (news := ((es.take i).map feC).flatten) (k := i); exact rfl; exact rfl; exact Own.nil _ _; exact Tk.none _; exact hpt.rd; exact hlt; exact hone1; omega; exact rfl; decide; decide; exact rfl; rintro w1 hw1 ho1)
    rw [Nat.zero_add, List.nil_append] at ho1
    apply R.nil
    apply Fin.ke hKc (Hx := hw1 ++ H) (Mem.le_refl _) (by (exact a_arr))
    intro ops1
    (apply R.buildSlice; (exact a_prt); exact rfl; exact rfl; (exact a_fills); exact rfl; intro bl)
    apply R.nil
    apply Fin.meet (⟨w1, bl, hw1⟩ : WiX) ho1 (Mem.le_refl _) ?_ rfl (by (exact a_arr))
    dsimp only
    (exact a_subs)
  · intro Kc hKc ops0
    (apply R.buildSlice; (exact a_prt); exact rfl; exact rfl; (exact a_fills); exact rfl; intro bl)
    apply R.nil
    apply Fin.ke hKc (Hx := (bl, .cells [str n, .slice Ab b.length cb].toArray 61 (0, 0)) :: H) (Mem.le_refl _) (by (exact a_arr))
    intro ops1
    (apply R.append (news := ((es.take i).map feC).flatten) (k := i); exact rfl; exact rfl; exact Own.nil _ _; exact Tk.none _; exact hpt.rd; exact hlt; exact hone1; omega; exact rfl; decide; decide; exact rfl; rintro w1 hw1 ho1)
    rw [Nat.zero_add, List.nil_append] at ho1
    apply R.nil
    apply Fin.meet (⟨w1, bl, hw1⟩ : WiX) ho1 (Mem.le_refl _) ?_ rfl (by (exact a_arr))
    dsimp only
    (exact a_subs)
  rintro ⟨w1, bl, hw1⟩ ho1
  dsimp only at ho1 ⊢
  obtain ⟨A1, c1, rfl, _, _⟩ := ho1.form
  (apply RP.eff; intro Kc hKc ops0)
  (apply R.append (news := [str n, .slice Ab b.length cb]) (k := 1); exact rfl; exact rfl; exact ho1; (exact a_tk); exact Rd.at_ (l := [str n, .slice Ab b.length cb]) (by (exact a_at)) (fun j x h => by rw [Nat.zero_add]; exact h); exact rfl; (intro u hu; simp only [List.mem_cons, List.not_mem_nil, or_false] at hu; rcases hu with rfl | rfl <;> rfl); omega; exact rfl; decide; decide; exact rfl; rintro w2 hw2 ho2)
  obtain ⟨A2, c2, rfl, _, _⟩ := ho2.form
  (apply R.nil; apply Fin.kp (Hx := hw2 ++ H) hKc; exact Mem.le_refl _; ((try simp only [List.append_assoc, List.cons_append, List.nil_append, List.append_nil]); exact a_arr))
  (apply RP.eff; intro Kc hKc ops0)
  (apply R.append (news := ((es.drop i).map feC).flatten) (k := es.length - i); exact rfl; exact rfl; exact ho2; (exact a_tk); exact hpd.rd; exact hld; exact hone2; omega; exact rfl; decide; decide; exact rfl; rintro w3 hw3 ho3)
  obtain ⟨A3, c3, rfl, k1, k2⟩ := ho3.form
  (apply R.nil; apply Fin.kp (Hx := hw3 ++ H) hKc; exact Mem.le_refl _; ((try simp only [List.append_assoc, List.cons_append, List.nil_append, List.append_nil]); exact a_arr))
  (repeat' (first | (first | (apply RP.step; intro _ _ _; (exact a_ok); exact rfl) | (apply RP.stepT; exact rfl; exact rfl; exact rfl; intro _ _ _; (exact a_ok); exact rfl) | (apply RP.stepF; exact rfl; exact rfl; exact rfl; exact rfl; exact rfl) | (apply RP.effF; exact rfl; exact rfl; exact rfl; exact rfl; exact rfl)) | (apply RP.callQ; (exact a_evs); exact rfl)))
  (first | apply RP.nil0 | apply RP.nil)
  (repeat' (first | refine a_go ?_ | (with_reducible apply Fin.thenK; assumption) | (with_reducible (first | apply C.seqK | apply C.regionK); intro _ _) | (apply R.buildSlice0; exact rfl; intro bz) | (apply R.box; exact rfl; (simp only [Value.cells]; rfl); exact rfl; intro bx) | (apply R.alloc; (simp only [Value.cells]; rfl); exact rfl; intro ba) | (apply R.buildSlice; (exact a_prt); exact rfl; exact rfl; (exact a_fills); exact rfl; intro bl) | (refine a_sp ?_ ?_; (intro h; skip; rotate_left; intro h; skip; rotate_left)) | fail))
  have hE : ((es.take i).map feC).flatten ++ [str n, .slice Ab b.length cb] ++ ((es.drop i).map feC).flatten = ((insE es ⟨n, .slice Ab b.length cb, b⟩).map feC).flatten := by
    rw [hins, List.map_append, List.map_cons, List.flatten_append, List.flatten_cons, List.append_assoc]
    rfl
  have hL : (insE es ⟨n, .slice Ab b.length cb, b⟩).length = i + 1 + (es.length - i) := by
    rw [hins, List.length_append, List.length_cons, List.length_take, List.length_drop]
    omega
  rw [hE] at ho3
  (apply Fin.ice (hp := hw3) (H1 := H) (by (exact a_arr)); intro M2 hM2 hin2)
  (apply Fin.returnA (H2 := H); assumption; (first | exact .inl rfl | exact .inr rfl); exact rfl; (exact a_res); (simp only [retv]; rfl); (exact a_arr))
  refine ⟨⟨A3, c3, insE es ⟨n, .slice Ab b.length cb, b⟩, by rw [hL], by rw [hL]; exact k1, by unfold maxLen at k2; omega, ho3.plIn hin2, ?_, insE_map _ _⟩, hM1.trans_ hM2, rfl⟩
  intro e he
  rw [hins] at he
  rcases List.mem_append.1 he with he | he
  · exact (h4 e (List.mem_of_mem_take he)).mono hM2
  · rcases List.mem_cons.1 he with rfl | he
    · exact hb.mono hM2
    · exact (h4 e (List.mem_of_mem_drop he)).mono hM2
end Go.Sx
end
section
namespace Go.Sx
open Go Go.Proofs Go.RowKit
attribute [local irreducible] C R Fin K Own OwnT Rd Pl Ok KOf RetOk OpsOf RP KP Res NoPanic KV KE MapS ItS EntS FsO FsR RowD PlD DkO PlFs
variable {M M' : Mem} {H H1 H2 : Hp}
def doneF (F : Fs) : De → Fs
  | .app n b => insF (delS F n) (n, fileD F n ++ b)
  | .trc n k => insF (delS F n) (n, (fileD F n).take k)
  | .ren n t => insF (delS (delS F n) t) (t, fileD F n)
  | .rem n => delS F n
def smallX (F : Fs) : De → Prop
  | .app _ b => b.length ≤ 1048576
  | .trc n k => k ≤ (fileD F n).length
  | _ => True
theorem Fit.small {F : Fs} {x : De} (hn : (keyS F).Nodup) (h : Fit F x) : smallX F x := by
  cases x with
  | app n b =>
    have h1 := h.1
    have h2 := sumF_put (b := fileD F n ++ b) (n := n) hn
    change sumF (putS F n (fileD F n ++ b)) ≤ _ at h1
    have h3 := fileD_len (F := F) (n := n)
    rw [List.length_append] at h2
    show b.length ≤ _
    omega
  | trc n k => exact h.2
  | ren n t => trivial
  | rem n => trivial
def nameX : De → Txt
  | .app n _ => n
  | .trc n _ => n
  | .ren n _ => n
  | .rem n => n
structure DnX where
  v : Value
  hp : Hp
theorem PlFs.get {v : Value} {F : Fs} {j : Nat} {n b : Txt} (h : PlFs M v F) (hj : F[j]? = some (n, b)) : ∃ A cap bb o c e fr Af cf, v = .slice A F.length cap ∧ A = some ⟨bb, o, none⟩ ∧ M.at_ bb = some (.cells c e fr) ∧ c[o + j * 2 + 0]? = some (str n) ∧ c[o + j * 2 + 1]? = some (.slice Af b.length cf) ∧ b.length ≤ cf ∧ cf ≤ 9223372036854775807 ∧ Pl M Af (b.map bv) := by
  unfold PlFs at h
  obtain ⟨A, cap, es, rfl, h1, h2, h3, h4, rfl⟩ := h
  obtain ⟨hjl, hje⟩ := List.getElem?_eq_some_iff.1 hj
  rw [List.length_map] at hjl
  rw [List.getElem_map] at hje
  obtain ⟨bb, o, c, e, fr, g1, g2, g3, g4⟩ := fe_at h3 hjl
  obtain ⟨Af, cf, k1, k2, k3, k4⟩ := h4 _ (List.getElem_mem hjl)
  rw [k1] at g4
  have e1 : es[j].n = n := congrArg Prod.fst hje
  have e2 : es[j].b = b := congrArg Prod.snd hje
  rw [e1] at g3
  rw [e2] at g4 k2 k4
  exact ⟨A, cap, bb, o, c, e, fr, Af, cf, by rw [List.length_map], g1, g2, g3, g4, k2, k3, k4⟩
theorem fileD_some {F : Fs} {n b : Txt} (h : getS F n = some b) : fileD F n = b := by
  unfold fileD
  rw [h]
  rfl
theorem fileD_none {F : Fs} {n : Txt} (h : getS F n = none) : fileD F n = [] := by
  unfold fileD
  rw [h]
  rfl
theorem rdone_K {v : Value} {F : Fs} {x : De} {c : List Value} (hf : PlFs M v F) (hl : F.length ≤ 1000000) (hs : sumF F ≤ 1048576) (hx : DeC M x c) (hsm : smallX F x) : K Try.prog 90 [v, .agg c.toArray] M H fun v' M' H' => PlFs M' v' (doneF F x) ∧ M.le M' ∧ H' = H := by
  refine K.enterK Try.func90 rfl rfl rfl ?_
  intro Q hNP hQ
  obtain ⟨c0, c1, c2, c3, c4, hc, hc1⟩ : ∃ c0 c1 c2 c3 c4, c = [c0, c1, c2, c3, c4] ∧ c1 = str (nameX x) := by
    cases x with
    | app n b => obtain ⟨bv, rfl, _⟩ := hx; exact ⟨_, _, _, _, _, rfl, rfl⟩
    | trc n k => cases hx; exact ⟨_, _, _, _, _, rfl, rfl⟩
    | ren n k => cases hx; exact ⟨_, _, _, _, _, rfl, rfl⟩
    | rem n => cases hx; exact ⟨_, _, _, _, _, rfl, rfl⟩
  have hfl := fileD_len (F := F) (n := nameX x)
  have hll : ∃ A cap, v = .slice A F.length cap := by
    unfold PlFs at hf
    obtain ⟨A, cap, es, rfl, h1, h2, h3, h4, rfl⟩ := hf
    exact ⟨A, cap, by rw [List.length_map]⟩
  obtain ⟨A, cap, rfl⟩ := hll
  subst hc hc1
  (repeat' (first | (apply R.step; (exact a_ok); exact rfl) | (first | (with_reducible first | apply R.nil | apply C.ret | apply C.block | apply C.skip | apply C.exit | apply Fin.thenRet | apply Fin.thenExit | apply Fin.blockNormal | apply Fin.blockRet | apply Fin.blockExit) | (with_reducible apply Fin.thenK; assumption) | (with_reducible apply C.seqR; intro _ _) | (with_reducible apply C.regionK; intro _ _) | (with_reducible apply Fin.blockOther; exact rfl)) | (first | (apply R.store; exact rfl; exact rfl; exact rfl; (exact a_at); (exact a_blit); exact rfl; (focus (simp [Value.oneCell']; done))) | (apply R.buildSlice0; exact rfl; intro bz) | (apply R.box; exact rfl; (simp only [Value.cells]; rfl); exact rfl; intro bx) | (apply R.alloc; (simp only [Value.cells]; rfl); exact rfl; intro ba) | (apply R.buildSlice; (exact a_prt); exact rfl; exact rfl; (exact a_fills); exact rfl; intro bl)) | (first | (apply R.guardT; assumption; exact rfl; exact rfl; exact rfl) | (apply R.guardF; assumption; exact rfl; exact rfl; exact rfl; exact rfl; exact rfl) | (apply R.guardU; assumption; exact rfl; exact rfl; exact rfl; exact rfl) | (apply R.guardDec; assumption; exact rfl; exact rfl; (intro h; skip; rotate_left; intro h; skip; rotate_left)) | (apply R.guardBeq; assumption; exact rfl; exact rfl; (intro h; skip; rotate_left; intro h; skip; rotate_left)) | (apply R.guardBne; assumption; exact rfl; exact rfl; (intro h; skip; rotate_left; intro h; skip; rotate_left)) | (apply R.guardNDec; assumption; exact rfl; exact rfl; (intro h; skip; rotate_left; intro h; skip; rotate_left)) | (apply R.guardNot; assumption; exact rfl; exact rfl; (intro h; skip; rotate_left; intro h; skip; rotate_left)) | (apply R.guardC; assumption; exact rfl; exact rfl; (intro h; skip; rotate_left; intro h; skip; rotate_left)))))
  apply C.seqCut (fun y : DnX => Own 5 1 y.v (fileD F (nameX x)).length ((fileD F (nameX x)).map bv) y.hp)
    (fun y => [(0, .slice A F.length cap), (3, .pointer (some ⟨bx, 0, none⟩)), (5, y.v)]) (fun _ => M) (fun y => (bx, .cells #[c0, str (nameX x), c2, c3, c4] 127 (0, 0)) :: (y.hp ++ H))
  · (repeat' (first | refine a_go ?_ | (with_reducible apply Fin.thenK; assumption) | (with_reducible (first | apply C.seqK | apply C.regionK); intro _ _) | (apply R.buildSlice0; exact rfl; intro bz) | (apply R.box; exact rfl; (simp only [Value.cells]; rfl); exact rfl; intro bx) | (apply R.alloc; (simp only [Value.cells]; rfl); exact rfl; intro ba) | (apply R.buildSlice; (exact a_prt); exact rfl; exact rfl; (exact a_fills); exact rfl; intro bl) | (refine a_sp ?_ ?_; (intro h; skip; rotate_left; intro h; skip; rotate_left)) | fail))
    (apply R.call; (exact a_evs); exact rfl; (apply K.arr (h := rfind_K (n := nameX x) (H := (bx, .cells #[c0, str (nameX x), c2, c3, c4] 127 (0, 0)) :: H) hf hl)); ((try simp only [List.append_assoc, List.cons_append, List.nil_append, List.append_nil]); exact a_arr); rintro _ M _ ⟨rfl, rfl, rfl⟩)
    rcases findI_spec F (nameX x) 0 with ⟨h1, h2⟩ | ⟨j, b, h1, h2, h3⟩
    · rw [h1]
      (repeat' (first | refine a_go ?_ | (with_reducible apply Fin.thenK; assumption) | (with_reducible (first | apply C.seqK | apply C.regionK); intro _ _) | (apply R.buildSlice0; exact rfl; intro bz) | (apply R.box; exact rfl; (simp only [Value.cells]; rfl); exact rfl; intro bx) | (apply R.alloc; (simp only [Value.cells]; rfl); exact rfl; intro ba) | (apply R.buildSlice; (exact a_prt); exact rfl; exact rfl; (exact a_fills); exact rfl; intro bl) | (refine a_sp ?_ ?_; (intro h; skip; rotate_left; intro h; skip; rotate_left)) | fail))
      refine Fin.join (⟨.slice none 0 0, []⟩ : DnX) (by dsimp only; rw [fileD_none h2]; exact Own.nil _ _) ?_ rfl rfl
      (exact a_subs)
    · rw [h1]
      rw [fileD_some h3] at hfl
      obtain ⟨A', cap', bb, o, cc, e, fr, Af, cf, hv, rfl, hM, g1, g2, g3, g4, g5⟩ := hf.get h2
      cases hv
      rw [show o + j * 2 = o + (0 + (j : Int)).toNat * 2 by omega] at g2
      have hjl : j < F.length := (List.getElem?_eq_some_iff.1 h2).1
      have hge : (0 : Int) ≤ 0 + (j : Int) := by omega
      (repeat' (first | (apply R.step; (apply Ok.move; exact rfl); exact rfl) | (apply R.step; (first | (apply Ok.geTr; exact rfl; exact rfl; exact hge) | (apply Ok.loadP; exact rfl; exact rfl; exact hM; exact g2)); exact rfl) | refine a_go ?_ | (with_reducible apply Fin.thenK; assumption) | (with_reducible (first | apply C.seqK | apply C.regionK); intro _ _) | (apply R.buildSlice0; exact rfl; intro bz) | (apply R.box; exact rfl; (simp only [Value.cells]; rfl); exact rfl; intro bx) | (apply R.alloc; (simp only [Value.cells]; rfl); exact rfl; intro ba) | (apply R.buildSlice; (exact a_prt); exact rfl; exact rfl; (exact a_fills); exact rfl; intro bl) | (refine a_sp ?_ ?_; (intro h; skip; rotate_left; intro h; skip; rotate_left)) | fail))
      (apply R.append (news := b.map bv) (k := b.length); exact rfl; exact rfl; exact Own.empty; (exact a_tk); exact g5.rd; (rw [List.length_map, Nat.mul_one]); exact bv_one _; omega; exact rfl; decide; decide; exact rfl; rintro v4 hp4 hown4)
      rw [List.nil_append, Nat.zero_add] at hown4
      (repeat' (first | refine a_go ?_ | (with_reducible apply Fin.thenK; assumption) | (with_reducible (first | apply C.seqK | apply C.regionK); intro _ _) | (apply R.buildSlice0; exact rfl; intro bz) | (apply R.box; exact rfl; (simp only [Value.cells]; rfl); exact rfl; intro bx) | (apply R.alloc; (simp only [Value.cells]; rfl); exact rfl; intro ba) | (apply R.buildSlice; (exact a_prt); exact rfl; exact rfl; (exact a_fills); exact rfl; intro bl) | (refine a_sp ?_ ?_; (intro h; skip; rotate_left; intro h; skip; rotate_left)) | fail))
      (apply Fin.arr (H2 := (bx, .cells #[c0, str (nameX x), c2, c3, c4] 127 (0, 0)) :: (hp4 ++ H)); ((try simp only [List.append_assoc, List.cons_append, List.nil_append, List.append_nil]); exact a_arr))
      refine Fin.join (⟨v4, hp4⟩ : DnX) (by dsimp only; rw [fileD_some h3]; exact hown4) ?_ rfl rfl
      (exact a_subs)
  rintro ⟨v1, hp1⟩ hown
  dsimp only at hown ⊢
  obtain ⟨A1, k1, rfl, _, _⟩ := hown.form
  cases x with
  | app n b =>
    obtain ⟨fv, hc, hb⟩ := hx
    cases hc
    obtain ⟨Ab, cb, rfl, q1, q2, q3⟩ := hb
    change b.length ≤ 1048576 at hsm
    change (fileD F n).length ≤ _ at hfl
    change Own _ _ _ (fileD F n).length _ _ at hown
    (repeat' (first | refine a_go ?_ | (with_reducible apply Fin.thenK; assumption) | (with_reducible (first | apply C.seqK | apply C.regionK); intro _ _) | (apply R.buildSlice0; exact rfl; intro bz) | (apply R.box; exact rfl; (simp only [Value.cells]; rfl); exact rfl; intro bx) | (apply R.alloc; (simp only [Value.cells]; rfl); exact rfl; intro ba) | (apply R.buildSlice; (exact a_prt); exact rfl; exact rfl; (exact a_fills); exact rfl; intro bl) | (refine a_sp ?_ ?_; (intro h; skip; rotate_left; intro h; skip; rotate_left)) | fail))
    (apply C.regionO (ks := [1, 1, 1, 1, 1, 1, 0, 1, 0, 1]) (is := [0, 1, 2, 3, 4, 5, 6, 7, 8, 9]) (Hs := [(bx, .cells #[.int .i64 0, str n, str [], .slice Ab b.length cb, .int .i64 0] 127 (0, 0))]); exact Mix.h; (first | exact Arr.all _ | (exact a_arr)); (exact a_np); (exact a_picked); kernel_rfl; intro _ e; subst e)
    (repeat' (first | (first | (apply RP.step; intro _ _ _; (exact a_ok); exact rfl) | (apply RP.stepT; exact rfl; exact rfl; exact rfl; intro _ _ _; (exact a_ok); exact rfl) | (apply RP.stepF; exact rfl; exact rfl; exact rfl; exact rfl; exact rfl) | (apply RP.effF; exact rfl; exact rfl; exact rfl; exact rfl; exact rfl)) | (apply RP.callQ; (exact a_evs); exact rfl)))
    (apply RP.eff; intro Kc hKc ops0)
    (apply R.append (news := b.map bv) (k := b.length); exact rfl; exact rfl; exact hown; (exact a_tk); exact q3.rd; (rw [List.length_map, Nat.mul_one]); exact bv_one _; omega; exact rfl; decide; decide; exact rfl; rintro v4 hp4 hown4)
    rw [← List.map_append, ← List.length_append] at hown4
    (apply R.ice (hp := hp4) (H1 := (bx, .cells #[.int .i64 0, str n, str [], .slice Ab b.length cb, .int .i64 0] 127 (0, 0)) :: H) (by (exact a_arr)); intro M2 hM2 hin2)
    have hb4 := hown4.plB hin2
    obtain ⟨A4, k4, rfl, _, _⟩ := hown4.form
    (apply R.nil; apply Fin.kpB (E := []) hKc; exact hM2; (exact a_arr))
    (repeat' (first | (first | (apply RP.step; intro _ _ _; (exact a_ok); exact rfl) | (apply RP.stepT; exact rfl; exact rfl; exact rfl; intro _ _ _; (exact a_ok); exact rfl) | (apply RP.stepF; exact rfl; exact rfl; exact rfl; exact rfl; exact rfl) | (apply RP.effF; exact rfl; exact rfl; exact rfl; exact rfl; exact rfl)) | (apply RP.callQ; (exact a_evs); exact rfl)))
    (apply RP.eff; intro Kc hKc ops0)
    (apply R.call; (exact a_evs); exact rfl; exact rwith_K (hf.mono hM2) hb4 hl; rintro v5 M5 _ ⟨hf5, hM5, rfl⟩)
    (apply R.nil; apply Fin.kpB (E := []) hKc; exact hM5; (exact a_arr))
    (repeat' (first | (first | (apply RP.step; intro _ _ _; (exact a_ok); exact rfl) | (apply RP.stepT; exact rfl; exact rfl; exact rfl; intro _ _ _; (exact a_ok); exact rfl) | (apply RP.stepF; exact rfl; exact rfl; exact rfl; exact rfl; exact rfl) | (apply RP.effF; exact rfl; exact rfl; exact rfl; exact rfl; exact rfl)) | (apply RP.callQ; (exact a_evs); exact rfl)))
    (first | apply RP.nil0 | apply RP.nil)
    (repeat' (first | refine a_go ?_ | (with_reducible apply Fin.thenK; assumption) | (with_reducible (first | apply C.seqK | apply C.regionK); intro _ _) | (apply R.buildSlice0; exact rfl; intro bz) | (apply R.box; exact rfl; (simp only [Value.cells]; rfl); exact rfl; intro bx) | (apply R.alloc; (simp only [Value.cells]; rfl); exact rfl; intro ba) | (apply R.buildSlice; (exact a_prt); exact rfl; exact rfl; (exact a_fills); exact rfl; intro bl) | (refine a_sp ?_ ?_; (intro h; skip; rotate_left; intro h; skip; rotate_left)) | fail))
    (apply Fin.returnA (H2 := H); assumption; (first | exact .inl rfl | exact .inr rfl); exact rfl; (exact a_res); (simp only [retv]; rfl); (exact a_arr))
    exact ⟨hf5, hM2.trans_ hM5, rfl⟩
  | trc n k =>
    cases hx
    change k ≤ (fileD F n).length at hsm
    change (fileD F n).length ≤ _ at hfl
    change Own _ _ _ (fileD F n).length _ _ at hown
    (repeat' (first | refine a_go ?_ | (with_reducible apply Fin.thenK; assumption) | (with_reducible (first | apply C.seqK | apply C.regionK); intro _ _) | (apply R.buildSlice0; exact rfl; intro bz) | (apply R.box; exact rfl; (simp only [Value.cells]; rfl); exact rfl; intro bx) | (apply R.alloc; (simp only [Value.cells]; rfl); exact rfl; intro ba) | (apply R.buildSlice; (exact a_prt); exact rfl; exact rfl; (exact a_fills); exact rfl; intro bl) | (refine a_sp ?_ ?_; (intro h; skip; rotate_left; intro h; skip; rotate_left)) | fail))
    (apply C.ice (hp := hp1) (H1 := (bx, .cells #[.int .i64 1, str n, str [], .slice none 0 0, .int .i64 (k : Int)] 127 (0, 0)) :: H) (by (exact a_arr)); intro M2 hM2 hin2)
    have hb2 := hown.plB hin2
    (apply C.regionO (ks := [1, 1, 1, 1, 1, 1, 1, 1, 0, 1]) (is := [0, 1, 2, 3, 4, 5, 6, 7, 8, 9]) (Hs := [(bx, .cells #[.int .i64 1, str n, str [], .slice none 0 0, .int .i64 ↑k] 127 (0, 0))]); exact Mix.h; (first | exact Arr.all _ | (exact a_arr)); (exact a_np); (exact a_picked); kernel_rfl; intro _ e; subst e)
    (repeat' (first | (apply RP.step; intro _ _ _; (apply Ok.move; exact rfl); exact rfl) | (apply RP.step; intro _ _ hMx; (apply Ok.sliceHi; exact rfl; exact rfl; omega; (have hle := hsm; have hk1 : (fileD F n).length ≤ k1 := ‹_›; omega)); exact rfl) | (first | (apply RP.step; intro _ _ _; (exact a_ok); exact rfl) | (apply RP.stepT; exact rfl; exact rfl; exact rfl; intro _ _ _; (exact a_ok); exact rfl) | (apply RP.stepF; exact rfl; exact rfl; exact rfl; exact rfl; exact rfl) | (apply RP.effF; exact rfl; exact rfl; exact rfl; exact rfl; exact rfl)) | (apply RP.callQ; (exact a_evs); exact rfl)))
    have hk1 : (fileD F n).length ≤ k1 := ‹_›
    have hb3 : PlB M2 (.slice A1 (k : Int).toNat k1) ((fileD F n).take k) := by
      obtain ⟨A', c', e', g1, g2, g3⟩ := hb2
      cases e'
      have e1 : ((fileD F n).take k).length = k := by rw [List.length_take]; omega
      refine ⟨A1, k1, by rw [e1]; rfl, by omega, g2, ?_⟩
      have := g3.take k
      rwa [← List.map_take] at this
    (apply RP.eff; intro Kc hKc ops0)
    (apply R.call; (exact a_evs); exact rfl; exact rwith_K (hf.mono hM2) hb3 hl; rintro v5 M5 _ ⟨hf5, hM5, rfl⟩)
    (apply R.nil; apply Fin.kpB (E := []) hKc; exact hM5; (exact a_arr))
    (repeat' (first | (first | (apply RP.step; intro _ _ _; (exact a_ok); exact rfl) | (apply RP.stepT; exact rfl; exact rfl; exact rfl; intro _ _ _; (exact a_ok); exact rfl) | (apply RP.stepF; exact rfl; exact rfl; exact rfl; exact rfl; exact rfl) | (apply RP.effF; exact rfl; exact rfl; exact rfl; exact rfl; exact rfl)) | (apply RP.callQ; (exact a_evs); exact rfl)))
    (first | apply RP.nil0 | apply RP.nil)
    (repeat' (first | refine a_go ?_ | (with_reducible apply Fin.thenK; assumption) | (with_reducible (first | apply C.seqK | apply C.regionK); intro _ _) | (apply R.buildSlice0; exact rfl; intro bz) | (apply R.box; exact rfl; (simp only [Value.cells]; rfl); exact rfl; intro bx) | (apply R.alloc; (simp only [Value.cells]; rfl); exact rfl; intro ba) | (apply R.buildSlice; (exact a_prt); exact rfl; exact rfl; (exact a_fills); exact rfl; intro bl) | (refine a_sp ?_ ?_; (intro h; skip; rotate_left; intro h; skip; rotate_left)) | fail))
    (apply Fin.returnA (H2 := H); assumption; (first | exact .inl rfl | exact .inr rfl); exact rfl; (exact a_res); (simp only [retv]; rfl); (exact a_arr))
    exact ⟨hf5, hM2.trans_ hM5, rfl⟩
  | ren n t =>
    cases hx
    change (fileD F n).length ≤ _ at hfl
    change Own _ _ _ (fileD F n).length _ _ at hown
    (repeat' (first | refine a_go ?_ | (with_reducible apply Fin.thenK; assumption) | (with_reducible (first | apply C.seqK | apply C.regionK); intro _ _) | (apply R.buildSlice0; exact rfl; intro bz) | (apply R.box; exact rfl; (simp only [Value.cells]; rfl); exact rfl; intro bx) | (apply R.alloc; (simp only [Value.cells]; rfl); exact rfl; intro ba) | (apply R.buildSlice; (exact a_prt); exact rfl; exact rfl; (exact a_fills); exact rfl; intro bl) | (refine a_sp ?_ ?_; (intro h; skip; rotate_left; intro h; skip; rotate_left)) | fail))
    (apply C.ice (hp := hp1) (H1 := (bx, .cells #[.int .i64 2, str n, str t, .slice none 0 0, .int .i64 0] 127 (0, 0)) :: H) (by (exact a_arr)); intro M2 hM2 hin2)
    have hb2 := hown.plB hin2
    (apply C.regionO (ks := [1, 1, 1, 1, 1, 1, 1, 0, 0, 1]) (is := [0, 1, 2, 4, 5, 6, 7, 3, 8, 9]) (Hs := [(bx, .cells #[.int .i64 2, str n, str t, .slice none 0 0, .int .i64 0] 127 (0, 0))]); exact Mix.h; (first | exact Arr.all _ | (exact a_arr)); (exact a_np); (exact a_picked); kernel_rfl; intro _ e; subst e)
    (repeat' (first | (first | (apply RP.step; intro _ _ _; (exact a_ok); exact rfl) | (apply RP.stepT; exact rfl; exact rfl; exact rfl; intro _ _ _; (exact a_ok); exact rfl) | (apply RP.stepF; exact rfl; exact rfl; exact rfl; exact rfl; exact rfl) | (apply RP.effF; exact rfl; exact rfl; exact rfl; exact rfl; exact rfl)) | (apply RP.callQ; (exact a_evs); exact rfl)))
    (apply RP.eff; intro Kc hKc ops0)
    (apply R.call; (exact a_evs); exact rfl; exact rwithout_K (hf.mono hM2) hl; rintro v4 M4 _ ⟨hf4, hM4, rfl⟩)
    (apply R.nil; apply Fin.kpB (E := []) hKc; exact hM4; (exact a_arr))
    (repeat' (first | (first | (apply RP.step; intro _ _ _; (exact a_ok); exact rfl) | (apply RP.stepT; exact rfl; exact rfl; exact rfl; intro _ _ _; (exact a_ok); exact rfl) | (apply RP.stepF; exact rfl; exact rfl; exact rfl; exact rfl; exact rfl) | (apply RP.effF; exact rfl; exact rfl; exact rfl; exact rfl; exact rfl)) | (apply RP.callQ; (exact a_evs); exact rfl)))
    (apply RP.eff; intro Kc hKc ops0)
    (apply R.call; (exact a_evs); exact rfl; exact rwith_K hf4 (hb2.mono hM4) (Nat.le_trans (List.length_filter_le _ _) hl); rintro v5 M5 _ ⟨hf5, hM5, rfl⟩)
    (apply R.nil; apply Fin.kpB (E := []) hKc; exact hM5; (exact a_arr))
    (repeat' (first | (first | (apply RP.step; intro _ _ _; (exact a_ok); exact rfl) | (apply RP.stepT; exact rfl; exact rfl; exact rfl; intro _ _ _; (exact a_ok); exact rfl) | (apply RP.stepF; exact rfl; exact rfl; exact rfl; exact rfl; exact rfl) | (apply RP.effF; exact rfl; exact rfl; exact rfl; exact rfl; exact rfl)) | (apply RP.callQ; (exact a_evs); exact rfl)))
    (first | apply RP.nil0 | apply RP.nil)
    (repeat' (first | refine a_go ?_ | (with_reducible apply Fin.thenK; assumption) | (with_reducible (first | apply C.seqK | apply C.regionK); intro _ _) | (apply R.buildSlice0; exact rfl; intro bz) | (apply R.box; exact rfl; (simp only [Value.cells]; rfl); exact rfl; intro bx) | (apply R.alloc; (simp only [Value.cells]; rfl); exact rfl; intro ba) | (apply R.buildSlice; (exact a_prt); exact rfl; exact rfl; (exact a_fills); exact rfl; intro bl) | (refine a_sp ?_ ?_; (intro h; skip; rotate_left; intro h; skip; rotate_left)) | fail))
    (apply Fin.returnA (H2 := H); assumption; (first | exact .inl rfl | exact .inr rfl); exact rfl; (exact a_res); (simp only [retv]; rfl); (exact a_arr))
    exact ⟨hf5, hM2.trans_ (hM4.trans_ hM5), rfl⟩
  | rem n =>
    cases hx
    (repeat' (first | refine a_go ?_ | (with_reducible apply Fin.thenK; assumption) | (with_reducible (first | apply C.seqK | apply C.regionK); intro _ _) | (apply R.buildSlice0; exact rfl; intro bz) | (apply R.box; exact rfl; (simp only [Value.cells]; rfl); exact rfl; intro bx) | (apply R.alloc; (simp only [Value.cells]; rfl); exact rfl; intro ba) | (apply R.buildSlice; (exact a_prt); exact rfl; exact rfl; (exact a_fills); exact rfl; intro bl) | (refine a_sp ?_ ?_; (intro h; skip; rotate_left; intro h; skip; rotate_left)) | fail))
    (apply R.call; (exact a_evs); exact rfl; exact rwithout_K hf hl; rintro v4 M4 _ ⟨hf4, hM4, rfl⟩)
    (repeat' (first | refine a_go ?_ | (with_reducible apply Fin.thenK; assumption) | (with_reducible (first | apply C.seqK | apply C.regionK); intro _ _) | (apply R.buildSlice0; exact rfl; intro bz) | (apply R.box; exact rfl; (simp only [Value.cells]; rfl); exact rfl; intro bx) | (apply R.alloc; (simp only [Value.cells]; rfl); exact rfl; intro ba) | (apply R.buildSlice; (exact a_prt); exact rfl; exact rfl; (exact a_fills); exact rfl; intro bl) | (refine a_sp ?_ ?_; (intro h; skip; rotate_left; intro h; skip; rotate_left)) | fail))
    (apply Fin.returnA (H2 := H); assumption; (first | exact .inl rfl | exact .inr rfl); exact rfl; (exact a_res); (simp only [retv]; rfl); (exact a_arr))
    exact ⟨hf4, hM4, rfl⟩
end Go.Sx
end
section
namespace Go.Sx
open Go.RowKit Go.Sort Go.Proofs
def sortT (ss : List Txt) : List Txt := ss.mergeSort (fun x y => decide (x ≤ y))
theorem sortT_nil : sortT [] = [] := by
  unfold sortT
  simp
theorem sortT_perm (ss : List Txt) : (sortT ss).Perm ss := List.mergeSort_perm ..
theorem sortT_of_perm {l l' : List Txt} (h : l.Perm l') : sortT l = sortT l' := mergeSort_of_perm h
theorem sortT_len (ss : List Txt) : (sortT ss).length = ss.length := (sortT_perm ss).length_eq
def SortC (P : Program) (f : Nat) : Prop := (∀ (blk off cap : Nat) (ss : List (List UInt8)) (w : World), Holds encStr w blk off ss.toArray → blk < w.heap.size → ss.length < 4611686018427387904 →
    Calls P f #[.slice (some ⟨blk, off, none⟩) ss.length cap] w fun e w' => e = .returned (.tuple #[]) ∧ ∃ n os, w' = grow (putRow encStr (Sort.ahead w n) blk off (ss.mergeSort fun x y => decide (x ≤ y)).toArray) os) ∧
  ∀ (p : Option Addr) (cap : Nat) (w : World), Calls P f #[.slice p 0 cap] w fun e w' => e = .returned (.tuple #[]) ∧ w' = w
section
variable {P : Program} {f : Nat} {M : Mem} {H hp : Hp} {w : World}
theorem putCells_take (c : Array Value) (ss : List Txt) (h : ss.length ≤ c.size) : (putCells encStr 0 ss.toArray c).size = c.size ∧ (putCells encStr 0 ss.toArray c).toList.take ss.length = ss.map str := by
  refine ⟨by simp [putCells], ?_⟩
  apply List.ext_getElem?
  intro j
  rw [List.getElem?_take, List.getElem?_map, Array.getElem?_toList]
  by_cases hj : j < ss.length
  · rw [if_pos hj]
    unfold putCells
    rw [Array.getElem?_mapIdx, Array.getElem?_eq_getElem (by omega)]
    simp [hj, str, encStr]
  · rw [if_neg hj, List.getElem?_eq_none (by omega)]
    rfl
theorem Heap.grown_ {os : Array Obj} (h : Heap w M H) : Heap (grow w os) M H := by
  have hp : ∀ (b : Nat) (o : Obj), w.heap[b]? = some o → (grow w os).heap[b]? = some o := fun b o hb => by
    unfold grow
    show (w.heap ++ os)[b]? = _
    rw [Array.getElem?_append_left (heap_lt hb)]
    exact hb
  exact ⟨h.os, h.out, fun b o hb => hp b o (h.pool b o hb), fun p hm => hp _ _ (h.own p hm), h.apart, h.nodup⟩
theorem K.sortT {e : Nat} {v : Value} {ss : List Txt} (hc : SortC P f) (ho : Own e 1 v ss.length (ss.map str) hp) (hl : ss.length < 4611686018427387904) :
    K P f [v] M (hp ++ H) fun v' M' H' => v' = .tuple #[] ∧ M' = M ∧ ∃ hp', Own e 1 v ss.length ((sortT ss).map str) hp' ∧ H' = hp' ++ H := by
  intro w hh
  obtain ⟨_, ⟨rfl, hz, rfl⟩ | ⟨b, cap, c, rfl, rfl, c1, c2, c3, c4⟩⟩ := id ho
  · have he : ss = [] := List.eq_nil_of_length_eq_zero hz
    refine (hc.2 none 0 w).mono ?_
    rintro _ _ ⟨rfl, rfl⟩
    refine ⟨_, M, H, rfl, ⟨rfl, rfl, [], ?_, rfl⟩, hh⟩
    subst he
    rw [sortT_nil]
    exact Own.nil _ _
  · have hb : w.heap[b]? = some (.cells c e (0, 0)) := hh.own _ (List.mem_cons_self ..)
    rw [Nat.mul_one] at c3 c4
    refine (hc.1 b 0 cap ss w ?_ (heap_lt hb) hl).mono ?_
    · intro j hj
      have hj' : j < ss.length := by simpa using hj
      have h1 : c[j]? = some (str ss[j]) := by
        have := congrArg (·[j]?) c4
        simp only [List.getElem?_take, hj', if_true, List.getElem?_map, List.getElem?_eq_getElem hj', Option.map_some, Array.getElem?_toList] at this
        exact this
      constructor
      · simp [World.cell?, hb, h1, str, encStr, hj']
      · simp [World.frozen?, hb]
    · rintro _ _ ⟨rfl, n, os, rfl⟩
      have hl2 : (Go.Sx.sortT ss).length = ss.length := sortT_len ss
      obtain ⟨p1, p2⟩ := putCells_take c (Go.Sx.sortT ss) (by omega)
      refine ⟨_, M, [(b, .cells (putCells encStr 0 (Go.Sx.sortT ss).toArray c) e (0, 0))] ++ H, rfl, ⟨rfl, rfl, _, ⟨by rw [List.length_map, hl2, Nat.mul_one], .inr ⟨b, cap, _, rfl, rfl, c1, c2, by rw [p1, c3, Nat.mul_one], by rw [Nat.mul_one, ← hl2]; exact p2⟩⟩, rfl⟩, ?_⟩
      refine Heap.grown_ ?_
      have ha : At ((b, Obj.cells c e (0, 0)) :: H) b (.cells c e (0, 0)) (fun o' => (b, o') :: H) := At.head _ _ _
      refine hh.put ha ?_ ?_ rfl rfl
      · show ((Sort.ahead w n).heap.modify b _)[b]? = _
        rw [Array.getElem?_modify, if_pos rfl]
        show (w.heap[b]?).map _ = _
        rw [hb]
        rfl
      · intro k hk
        show ((Sort.ahead w n).heap.modify b _)[k]? = _
        rw [Array.getElem?_modify, if_neg (Ne.symm hk)]
        rfl
end
end Go.Sx
end
section
namespace Go.Proofs
open Go.Shelf
def Try.lays190_ren : Go.Shelf.Ren := ⟨fun | 190 => 58 | 125 => 84 | 258 => 83 | 128 => 101 | 129 => 102 | 302 => 92 | 303 => 93 | 304 => 94 | 305 => 95 | 306 => 96 | 307 => 97 | 308 => 98 | 309 => 99 | 310 => 100 | 333 => 105 | 329 => 106 | 330 => 107 | 334 => 108 | 335 => 109 | 336 => 110 | 344 => 111 | n => n, fun | 31 => 57 | 9 => 9 | 3 => 3 | 46 => 100 | 0 => 0 | 51 => 98 | 53 => 42 | 4 => 4 | 183 => 132 | 182 => 131 | 131 => 137 | 5 => 5 | 218 => 143 | 222 => 147 | 228 => 149 | 229 => 150 | n => n, fun | n => n⟩
theorem Try.lays190 : Go.Proofs.Lays.n190 Try.prog Try.lays190_ren := {
  mixed := by kernel_rfl
  f125 := Try.func84.trans (congrArg some (by kernel_rfl))
  f128 := Try.func101.trans (congrArg some (by kernel_rfl))
  f129 := Try.func102.trans (congrArg some (by kernel_rfl))
  f190 := Try.func58.trans (congrArg some (by kernel_rfl))
  f258 := Try.func83.trans (congrArg some (by kernel_rfl))
  f302 := Try.func92.trans (congrArg some (by kernel_rfl))
  f303 := Try.func93.trans (congrArg some (by kernel_rfl))
  f304 := Try.func94.trans (congrArg some (by kernel_rfl))
  f305 := Try.func95.trans (congrArg some (by kernel_rfl))
  f306 := Try.func96.trans (congrArg some (by kernel_rfl))
  f307 := Try.func97.trans (congrArg some (by kernel_rfl))
  f308 := Try.func98.trans (congrArg some (by kernel_rfl))
  f309 := Try.func99.trans (congrArg some (by kernel_rfl))
  f310 := Try.func100.trans (congrArg some (by kernel_rfl))
  f329 := Try.func106.trans (congrArg some (by kernel_rfl))
  f330 := Try.func107.trans (congrArg some (by kernel_rfl))
  f333 := Try.func105.trans (congrArg some (by kernel_rfl))
  f334 := Try.func108.trans (congrArg some (by kernel_rfl))
  f335 := Try.func109.trans (congrArg some (by kernel_rfl))
  f336 := Try.func110.trans (congrArg some (by kernel_rfl))
  f344 := Try.func111.trans (congrArg some (by kernel_rfl))
  t0 := Try.underlying0
  a0 := Try.isAgg0
  z0 := Try.sizeOf0
  v0 := Try.zeroValue0
  t3 := Try.underlying3
  a3 := Try.isAgg3
  z3 := Try.sizeOf3
  v3 := Try.zeroValue3
  t4 := Try.underlying4
  a4 := Try.isAgg4
  z4 := Try.sizeOf4
  v4 := Try.zeroValue4
  t5 := Try.underlying5
  a5 := Try.isAgg5
  z5 := Try.sizeOf5
  v5 := Try.zeroValue5
  t9 := Try.underlying9
  a9 := Try.isAgg9
  z9 := Try.sizeOf9
  v9 := Try.zeroValue9
  t31 := Try.underlying57
  a31 := Try.isAgg57
  z31 := Try.sizeOf57
  v31 := Try.zeroValue57
  t46 := Try.underlying100
  a46 := Try.isAgg100
  z46 := Try.sizeOf100
  v46 := Try.zeroValue100
  t51 := Try.underlying98
  a51 := Try.isAgg98
  z51 := Try.sizeOf98
  v51 := Try.zeroValue98
  t53 := Try.underlying42
  a53 := Try.isAgg42
  z53 := Try.sizeOf42
  v53 := Try.zeroValue42
  t131 := Try.underlying137
  a131 := Try.isAgg137
  z131 := Try.sizeOf137
  v131 := Try.zeroValue137
  t182 := Try.underlying131
  a182 := Try.isAgg131
  z182 := Try.sizeOf131
  v182 := Try.zeroValue131
  t183 := Try.underlying132
  a183 := Try.isAgg132
  z183 := Try.sizeOf132
  v183 := Try.zeroValue132
  t218 := Try.underlying143
  a218 := Try.isAgg143
  z218 := Try.sizeOf143
  v218 := Try.zeroValue143
  t222 := Try.underlying147
  a222 := Try.isAgg147
  z222 := Try.sizeOf147
  v222 := Try.zeroValue147
  t228 := Try.underlying149
  a228 := Try.isAgg149
  z228 := Try.sizeOf149
  v228 := Try.zeroValue149
  t229 := Try.underlying150
  a229 := Try.isAgg150
  z229 := Try.sizeOf150
  v229 := Try.zeroValue150 }
open Go.Sort Go.RowKit in
theorem Try.slices_Sort_string (blk off cap : Nat) (ss : List (List UInt8)) (w : World) (hH : Holds encStr w blk off ss.toArray) (hblk : blk < w.heap.size) (hsz : ss.length < 4611686018427387904) :
    Calls Try.prog 58 #[.slice (some ⟨blk, off, none⟩) ss.length cap] w fun e w' =>
      e = .returned (.tuple #[]) ∧ ∃ n os, w' = grow (putRow encStr (Sort.ahead w n) blk off (ss.mergeSort fun x y => decide (x ≤ y)).toArray) os := Any.slices_Sort_string Try.lays190 blk off cap ss w hH hblk hsz
open Go.RowKit Go.Sort in
theorem Try.slices_Sort_string_none (p : Option Addr) (cap : Nat) (w : World) :
    Calls Try.prog 58 #[.slice p 0 cap] w fun e w' => e = .returned (.tuple #[]) ∧ w' = w := Any.slices_Sort_string_none Try.lays190 p cap w
end Go.Proofs
end
section
namespace Go.Sx
open Go Go.Proofs Go.RowKit
attribute [local irreducible] C R Fin K Own OwnT Rd Pl Ok KOf RetOk OpsOf RP KP Res NoPanic KV KE MapS ItS EntS FsO FsR RowD PlD
variable {M M' : Mem} {H H1 H2 : Hp}
def namesD (down : Bool) (F : Fs) : List Txt := if down then [] else sortT (keyS F)
theorem sort_K {v : Value} {ss : List Txt} {hp : Hp} (ho : Own 9 1 v ss.length (ss.map str) hp) (hl : ss.length ≤ 1000000) : K Try.prog 58 [v] M (hp ++ H) fun v' M' H' => v' = .tuple #[] ∧ M' = M ∧ ∃ hp', Own 9 1 v ss.length ((sortT ss).map str) hp' ∧ H' = hp' ++ H :=
  K.sortT (P := Try.prog) ⟨Try.slices_Sort_string, Try.slices_Sort_string_none⟩ ho (by omega)
structure NmX where
  ns : List Txt
  v : Value
  hv : Hp
  oi : Obj
  rest : ML
  G : Fs
theorem names_K {db sb nb : Nat} {room fuse : Int} {pv : Value} {down : Bool} {no : Obj} {F : Fs} (hf : FsO M no F) (hl : F.length ≤ 1000000) : K Try.prog 29 [.pointer (some ⟨db, 0, none⟩)] M ((db, dkB room sb nb pv fuse down) :: (nb, no) :: H) fun v' M' H' => M' = M ∧ ∃ hn, Own 9 1 v' (namesD down F).length ((namesD down F).map str) hn ∧ H' = hn ++ ((db, dkB room sb nb pv fuse down) :: (nb, no) :: H) := by
  obtain ⟨l, hm, hr, hn⟩ := hf.use
  clear hf
  refine K.enterK Try.func29 rfl rfl rfl ?_
  intro Q hNP hQ
  unfold dkB at hQ ⊢
  (repeat' (first | refine a_go ?_ | (with_reducible apply Fin.thenK; assumption) | (with_reducible (first | apply C.seqK | apply C.regionK); intro _ _) | (apply R.buildSlice0; exact rfl; intro bz) | (apply R.box; exact rfl; (simp only [Value.cells]; rfl); exact rfl; intro bx) | (apply R.alloc; (simp only [Value.cells]; rfl); exact rfl; intro ba) | (apply R.buildSlice; (exact a_prt); exact rfl; exact rfl; (exact a_fills); exact rfl; intro bl) | (refine a_sp ?_ ?_; (intro h; skip; rotate_left; intro h; skip; rotate_left)) | fail))
  (apply R.rangeS (b := nb) (o := no); exact rfl; exact a_mm; exact hm; exact rfl; intro it oi hit)
  (repeat' (first | refine a_go ?_ | (with_reducible apply Fin.thenK; assumption) | (with_reducible (first | apply C.seqK | apply C.regionK); intro _ _) | (apply R.buildSlice0; exact rfl; intro bz) | (apply R.box; exact rfl; (simp only [Value.cells]; rfl); exact rfl; intro bx) | (apply R.alloc; (simp only [Value.cells]; rfl); exact rfl; intro ba) | (apply R.buildSlice; (exact a_prt); exact rfl; exact rfl; (exact a_fills); exact rfl; intro bl) | (refine a_sp ?_ ?_; (intro h; skip; rotate_left; intro h; skip; rotate_left)) | fail))
  apply C.loop (fun y : NmX => ItS y.oi no nb y.rest ∧ FsR M y.rest y.G ∧ Own 9 1 y.v y.ns.length (y.ns.map str) y.hv ∧ (down = true → y.ns = []) ∧ (down = false → (y.ns ++ keyS y.G).Perm (keyS F)))
    (fun y => [(0, .pointer (some ⟨db, 0, none⟩)), (3, y.v), (9, .pointer (some ⟨it, 0, none⟩))]) (fun _ => M) (fun y => (it, y.oi) :: (y.hv ++ ((db, .cells [.int .i64 room, .map (some sb), .map (some nb), pv, .int .i64 fuse, .bool down].toArray 76 (0, 0)) :: (nb, no) :: H))) (fun y => y.rest.length) ⟨[], .slice none 0 0, [], oi, l, F⟩
  · exact ⟨hit, hr, Own.nil _ _, fun _ => rfl, fun _ => List.Perm.refl _⟩
  · (exact a_subs)
  · exact rfl
  · exact rfl
  rintro ⟨ns, v, hv, oi, rest, G⟩ ⟨h1, h2, h3, h4, h5⟩
  dsimp only at h1 h2 h3 h4 h5 ⊢
  obtain ⟨A, c, rfl, k1, k2⟩ := h3.form
  (repeat' (first | refine a_go ?_ | (with_reducible apply Fin.thenK; assumption) | (with_reducible (first | apply C.seqK | apply C.regionK); intro _ _) | (apply R.buildSlice0; exact rfl; intro bz) | (apply R.box; exact rfl; (simp only [Value.cells]; rfl); exact rfl; intro bx) | (apply R.alloc; (simp only [Value.cells]; rfl); exact rfl; intro ba) | (apply R.buildSlice; (exact a_prt); exact rfl; exact rfl; (exact a_fills); exact rfl; intro bl) | (refine a_sp ?_ ?_; (intro h; skip; rotate_left; intro h; skip; rotate_left)) | fail))
  apply R.nextS (it := it) (oi := oi) (b := nb) (o := no)
  · exact rfl
  · (exact a_at)
  · exact a_mm
  · exact h1
  · exact rfl
  · intro hz
    subst hz
    have hG : G = [] := List.eq_nil_of_length_eq_zero h2.len.symm
    subst hG
    have hN : namesD down F = sortT ns := by
      unfold namesD
      cases down with
      | true =>
        rw [h4 rfl, sortT_nil]
        rfl
      | false =>
        have h6 := h5 rfl
        rw [show keyS ([] : Fs) = [] from rfl, List.append_nil] at h6
        exact (sortT_of_perm h6).symm
    have hns : ns.length ≤ 1000000 := by
      cases down with
      | true => rw [h4 rfl]; exact Nat.zero_le _
      | false =>
        have h6 := (h5 rfl).length_eq
        rw [List.length_append] at h6
        unfold keyS at h6
        rw [List.length_map, List.length_map] at h6
        omega
    (repeat' (first | refine a_go ?_ | (with_reducible apply Fin.thenK; assumption) | (with_reducible (first | apply C.seqK | apply C.regionK); intro _ _) | (apply R.buildSlice0; exact rfl; intro bz) | (apply R.box; exact rfl; (simp only [Value.cells]; rfl); exact rfl; intro bx) | (apply R.alloc; (simp only [Value.cells]; rfl); exact rfl; intro ba) | (apply R.buildSlice; (exact a_prt); exact rfl; exact rfl; (exact a_fills); exact rfl; intro bl) | (refine a_sp ?_ ?_; (intro h; skip; rotate_left; intro h; skip; rotate_left)) | fail))
    (apply R.call; (exact a_evs); exact rfl; (apply K.arr (h := sort_K (H := (it, oi) :: (db, .cells [.int .i64 room, .map (some sb), .map (some nb), pv, .int .i64 fuse, .bool down].toArray 76 (0, 0)) :: (nb, no) :: H) h3 hns)); ((try simp only [List.append_assoc, List.cons_append, List.nil_append, List.append_nil]); exact a_arr); rintro _ M2 _ ⟨rfl, rfl, hp2, ho2, rfl⟩)
    (repeat' (first | refine a_go ?_ | (with_reducible apply Fin.thenK; assumption) | (with_reducible (first | apply C.seqK | apply C.regionK); intro _ _) | (apply R.buildSlice0; exact rfl; intro bz) | (apply R.box; exact rfl; (simp only [Value.cells]; rfl); exact rfl; intro bx) | (apply R.alloc; (simp only [Value.cells]; rfl); exact rfl; intro ba) | (apply R.buildSlice; (exact a_prt); exact rfl; exact rfl; (exact a_fills); exact rfl; intro bl) | (refine a_sp ?_ ?_; (intro h; skip; rotate_left; intro h; skip; rotate_left)) | fail))
    (apply Fin.returnA (H2 := hp2 ++ ((db, .cells [.int .i64 room, .map (some sb), .map (some nb), pv, .int .i64 fuse, .bool down].toArray 76 (0, 0)) :: (nb, no) :: H)); assumption; (first | exact .inl rfl | exact .inr rfl); exact rfl; (exact a_res); (simp only [retv]; rfl); (exact a_arr))
    refine ⟨rfl, hp2, ?_, rfl⟩
    rw [hN, sortT_len]
    exact ho2
  · intro r1 k v r2 oi2 hrest h6 h7
    subst hrest
    obtain ⟨b, G2, q1, q2, q3⟩ := h2.mid
    obtain ⟨A1, c1, rfl, _, _, _⟩ := q1
    have hl : (r1 ++ r2).length < (r1 ++ (k, Value.slice A1 b.length c1) :: r2).length := by
      rw [List.length_append, List.length_append, List.length_cons]
      omega
    cases down with
    | true =>
      (repeat' (first | (apply R.step; (apply Ok.move; exact rfl); exact rfl) | (apply R.step; (apply Ok.entryS (h := h7); exact rfl; exact a_mm; exact a_mm); exact rfl) | refine a_go ?_ | (with_reducible apply Fin.thenK; assumption) | (with_reducible (first | apply C.seqK | apply C.regionK); intro _ _) | (apply R.buildSlice0; exact rfl; intro bz) | (apply R.box; exact rfl; (simp only [Value.cells]; rfl); exact rfl; intro bx) | (apply R.alloc; (simp only [Value.cells]; rfl); exact rfl; intro ba) | (apply R.buildSlice; (exact a_prt); exact rfl; exact rfl; (exact a_fills); exact rfl; intro bl) | (refine a_sp ?_ ?_; (intro h; skip; rotate_left; intro h; skip; rotate_left)) | fail))
      refine Fin.again (⟨ns, .slice A ns.length c, hv, oi2, r1 ++ r2, G2⟩ : NmX) ⟨h6, q3, h3, h4, fun e => by cases e⟩ hl ?_ rfl rfl
      (exact a_subs)
    | false =>
      have hp := h5 rfl
      have hp2 : (ns ++ [k] ++ keyS G2).Perm (keyS F) := by
        refine List.Perm.trans ?_ hp
        rw [List.append_assoc]
        exact List.Perm.append_left ns (q2.map Prod.fst).symm
      have hns : ns.length ≤ 1000000 := by
        have h8 := hp.length_eq
        rw [List.length_append] at h8
        unfold keyS at h8
        rw [List.length_map, List.length_map] at h8
        omega
      (repeat' (first | (apply R.step; (apply Ok.move; exact rfl); exact rfl) | (apply R.step; (apply Ok.entryS (h := h7); exact rfl; exact a_mm; exact a_mm); exact rfl) | refine a_go ?_ | (with_reducible apply Fin.thenK; assumption) | (with_reducible (first | apply C.seqK | apply C.regionK); intro _ _) | (apply R.buildSlice0; exact rfl; intro bz) | (apply R.box; exact rfl; (simp only [Value.cells]; rfl); exact rfl; intro bx) | (apply R.alloc; (simp only [Value.cells]; rfl); exact rfl; intro ba) | (apply R.buildSlice; (exact a_prt); exact rfl; exact rfl; (exact a_fills); exact rfl; intro bl) | (refine a_sp ?_ ?_; (intro h; skip; rotate_left; intro h; skip; rotate_left)) | fail))
      (apply R.append (news := [str k]) (k := 1); exact rfl; exact rfl; exact h3; (exact a_tk); exact Rd.at_ (l := [str k]) (by (exact a_at)) (fun j u h => by rw [Nat.zero_add]; exact h); exact rfl; (intro u hu; rw [List.mem_singleton] at hu; rw [hu]; rfl); omega; exact rfl; decide; decide; exact rfl; rintro v4 hp4 hown4)
      obtain ⟨A4, c4, rfl, _, _⟩ := hown4.form
      (repeat' (first | refine a_go ?_ | (with_reducible apply Fin.thenK; assumption) | (with_reducible (first | apply C.seqK | apply C.regionK); intro _ _) | (apply R.buildSlice0; exact rfl; intro bz) | (apply R.box; exact rfl; (simp only [Value.cells]; rfl); exact rfl; intro bx) | (apply R.alloc; (simp only [Value.cells]; rfl); exact rfl; intro ba) | (apply R.buildSlice; (exact a_prt); exact rfl; exact rfl; (exact a_fills); exact rfl; intro bl) | (refine a_sp ?_ ?_; (intro h; skip; rotate_left; intro h; skip; rotate_left)) | fail))
      apply Fin.arr (H2 := (it, oi2) :: (hp4 ++ ((db, .cells [.int .i64 room, .map (some sb), .map (some nb), pv, .int .i64 fuse, .bool false].toArray 76 (0, 0)) :: (nb, no) :: H))) (by ((try simp only [List.append_assoc, List.cons_append, List.nil_append, List.append_nil]); exact a_arr))
      refine Fin.again (⟨ns ++ [k], .slice A4 (ns.length + 1) c4, hp4, oi2, r1 ++ r2, G2⟩ : NmX) ⟨h6, q3, ?_, fun e => (by cases e), fun _ => hp2⟩ hl ?_ rfl rfl
      · dsimp only
        rw [List.length_append, List.map_append]
        exact hown4
      · (exact a_subs)
theorem names_KD {db : Nat} {d : Dk} {hp : Hp} (ho : DkO M db d hp) (hl : d.now.length ≤ 1000000) : K Try.prog 29 [.pointer (some ⟨db, 0, none⟩)] M (hp ++ H) fun v' M' H' => M' = M ∧ ∃ hn, Own 9 1 v' (namesD d.down d.now).length ((namesD d.down d.now).map str) hn ∧ H' = hn ++ (hp ++ H) := by
  obtain ⟨h0, sb, nb, so, no, pv, hr, h1, h2, h3, rfl⟩ := ho
  exact names_K h2 hl
end Go.Sx
end
