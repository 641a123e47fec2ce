import Derived.Lib.ConvBytes
import Derived.Test.YtgkiomcoinnklaaZPhotoAny2
section
namespace Go.Sx
open Go Go.Proofs Go.RowKit
attribute [local irreducible] C R Fin K Own OwnT Rd Pl Ok KOf RetOk OpsOf RP KP Res NoPanic KV KE MapS ItS EntS FsO FsR RowD
variable {M M' : Mem} {H H1 H2 : Hp}
def synE (d : Dk) : Int := if stopD d then 3 else 0
def synD (d : Dk) : Dk := if stopD d then cntD d else { cntD d with S := d.now, ps := [] }
theorem sync_K {db : Nat} {d : Dk} {hp : Hp} (ho : DkO M db d hp) : K Try.prog 13 [.pointer (some ⟨db, 0, none⟩)] M (hp ++ H) fun v' M' H' => v' = .int .i64 (synE d) ∧ M' = M ∧ ∃ hp', DkO M db (synD d) hp' ∧ H' = hp' ++ H := by
  refine K.enterK Try.func13 rfl rfl rfl ?_
  intro Q hNP hQ
  (repeat' (first | refine a_go ?_ | (with_reducible apply Fin.thenK; assumption) | (with_reducible (first | apply C.seqK | apply C.regionK); intro _ _) | (apply R.buildSlice0; exact rfl; intro bz) | (apply R.box; exact rfl; (simp only [Value.cells]; rfl); exact rfl; intro bx) | (apply R.alloc; (simp only [Value.cells]; rfl); exact rfl; intro ba) | (apply R.buildSlice; (exact a_prt); exact rfl; exact rfl; (exact a_fills); exact rfl; intro bl) | (refine a_sp ?_ ?_; (intro h; skip; rotate_left; intro h; skip; rotate_left)) | fail))
  (apply R.call; (exact a_evs); exact rfl); exact counts_KD ho; rintro _ M _ ⟨rfl, rfl, hp1, ho1, rfl, hdn⟩
  have hok := ho.1
  clear ho
  by_cases hs : stopD d
  · rw [decide_eq_true hs]
    have hE : synE d = 3 := if_pos hs
    have hD : synD d = cntD d := if_pos hs
    rw [hE, hD] at hQ
    (repeat' (first | refine a_go ?_ | (with_reducible apply Fin.thenK; assumption) | (with_reducible (first | apply C.seqK | apply C.regionK); intro _ _) | (apply R.buildSlice0; exact rfl; intro bz) | (apply R.box; exact rfl; (simp only [Value.cells]; rfl); exact rfl; intro bx) | (apply R.alloc; (simp only [Value.cells]; rfl); exact rfl; intro ba) | (apply R.buildSlice; (exact a_prt); exact rfl; exact rfl; (exact a_fills); exact rfl; intro bl) | (refine a_sp ?_ ?_; (intro h; skip; rotate_left; intro h; skip; rotate_left)) | fail))
    (apply Fin.returnA (H2 := hp1 ++ H); assumption; (first | exact .inl rfl | exact .inr rfl); exact rfl; (exact a_res); (simp only [retv]; rfl); (exact a_arr))
    exact ⟨rfl, rfl, hp1, ho1, rfl⟩
  rw [decide_eq_false hs]
  obtain ⟨hok1, sb, nb, so, no, pv, hr, h1, h2, h3, rfl⟩ := ho1
  rw [cntD_now] at h2
  have hE : synE d = 0 := if_neg hs
  have hD : synD d = { cntD d with S := d.now, ps := [] } := if_neg hs
  rw [hE, hD] at hQ
  (repeat' (first | refine a_go ?_ | (with_reducible apply Fin.thenK; assumption) | (with_reducible (first | apply C.seqK | apply C.regionK); intro _ _) | (apply R.buildSlice0; exact rfl; intro bz) | (apply R.box; exact rfl; (simp only [Value.cells]; rfl); exact rfl; intro bx) | (apply R.alloc; (simp only [Value.cells]; rfl); exact rfl; intro ba) | (apply R.buildSlice; (exact a_prt); exact rfl; exact rfl; (exact a_fills); exact rfl; intro bl) | (refine a_sp ?_ ?_; (intro h; skip; rotate_left; intro h; skip; rotate_left)) | fail))
  (apply R.call; (exact a_evs); exact rfl; (apply K.arr (h := settle_K (db := db) (sb := sb) (nb := nb) (room := (cntD d).room) (fuse := (cntD d).fuse) (down := (cntD d).down) (pv := pv) (H := H) h2)); ((try simp only [List.append_assoc, List.cons_append, List.nil_append, List.append_nil]); exact a_arr); rintro _ M _ ⟨rfl, rfl, sb', so', f1, rfl⟩)
  (repeat' (first | refine a_go ?_ | (with_reducible apply Fin.thenK; assumption) | (with_reducible (first | apply C.seqK | apply C.regionK); intro _ _) | (apply R.buildSlice0; exact rfl; intro bz) | (apply R.box; exact rfl; (simp only [Value.cells]; rfl); exact rfl; intro bx) | (apply R.alloc; (simp only [Value.cells]; rfl); exact rfl; intro ba) | (apply R.buildSlice; (exact a_prt); exact rfl; exact rfl; (exact a_fills); exact rfl; intro bl) | (refine a_sp ?_ ?_; (intro h; skip; rotate_left; intro h; skip; rotate_left)) | fail))
  (apply Fin.returnA (H2 := (db, dkB (cntD d).room sb' nb (.slice none 0 0) (cntD d).fuse (cntD d).down) :: (nb, no) :: (sb', so') :: H); assumption; (first | exact .inl rfl | exact .inr rfl); exact rfl; (exact a_res); (simp only [retv]; rfl); (exact a_arr))
  refine ⟨rfl, rfl, (db, dkB (cntD d).room sb' nb (.slice none 0 0) (cntD d).fuse (cntD d).down) :: (nb, no) :: (sb', so') :: [], ⟨⟨hok1.1, hok1.2.1, hok.sum, trivial⟩, sb', nb, so', no, .slice none 0 0, [], f1, h2, RowD.nil, rfl⟩, rfl⟩
def readD (d : Dk) (n : Txt) : Option Txt := if d.down then none else getS d.now n
theorem dread_K {db : Nat} {d : Dk} {hp : Hp} {n : Txt} (ho : DkO M db d hp) : K Try.prog 22 [.pointer (some ⟨db, 0, none⟩), str n] M (hp ++ H) fun v' M' H' => ∃ v hv, v' = .tuple #[v, .bool (readD d n).isSome] ∧ Own 5 1 v ((readD d n).getD []).length (((readD d n).getD []).map bv) hv ∧ M' = M ∧ H' = hv ++ (hp ++ H) := by
  have hsum := ho.1.sum
  obtain ⟨hok, sb, nb, so, no, pv, hr, h1, h2, h3, rfl⟩ := ho
  obtain ⟨l, hm, hfr, hn⟩ := h2.use
  obtain ⟨⟨A1, c1, e1, hl1, hl2, hpl⟩, hg⟩ := hfr.get hn n
  have hfl : (fileD d.now n).length ≤ 1048576 := Nat.le_trans fileD_len hsum
  refine K.enterK Try.func22 rfl rfl rfl ?_
  intro Q hNP hQ
  have hnone : readD d n = none → ∀ H', H' = (db, dkB d.room sb nb pv d.fuse d.down) :: (nb, no) :: (sb, so) :: (hr ++ H) → ∃ v hv, Value.tuple #[.slice none 0 0, .bool false] = .tuple #[v, .bool (readD d n).isSome] ∧ Own 5 1 v ((readD d n).getD []).length (((readD d n).getD []).map bv) hv ∧ M = M ∧ H' = hv ++ ((db, dkB d.room sb nb pv d.fuse d.down) :: (nb, no) :: (sb, so) :: hr ++ H) := fun h H' hH => by
    rw [h]
    exact ⟨_, [], rfl, Own.nil _ _, rfl, hH⟩
  unfold dkB
  (repeat' (first | (apply R.step; (apply Ok.move; exact rfl); exact rfl) | (apply R.step; (apply Ok.lookupS (ho := hm); exact rfl; exact rfl; exact a_mm); exact rfl) | refine a_go ?_ | (with_reducible apply Fin.thenK; assumption) | (with_reducible (first | apply C.seqK | apply C.regionK); intro _ _) | (apply R.buildSlice0; exact rfl; intro bz) | (apply R.box; exact rfl; (simp only [Value.cells]; rfl); exact rfl; intro bx) | (apply R.alloc; (simp only [Value.cells]; rfl); exact rfl; intro ba) | (apply R.buildSlice; (exact a_prt); exact rfl; exact rfl; (exact a_fills); exact rfl; intro bl) | (refine a_sp ?_ ?_; (intro h; skip; rotate_left; intro h; skip; rotate_left)) | fail))
  · have h : (getS l n).isSome = false := by assumption
    have hE : readD d n = none := by
      unfold readD
      rw [is_none (hg.symm.trans h)]
      split <;> rfl
    (apply Fin.returnA (H2 := (db, dkB d.room sb nb pv d.fuse d.down) :: (nb, no) :: (sb, so) :: (hr ++ H)); assumption; (first | exact .inl rfl | exact .inr rfl); exact rfl; (exact a_res); (simp only [retv]; rfl); (exact a_arr))
    exact hnone hE _ rfl
  · have h : d.down = true := by assumption
    have hE : readD d n = none := if_pos h
    (apply Fin.returnA (H2 := (db, dkB d.room sb nb pv d.fuse d.down) :: (nb, no) :: (sb, so) :: (hr ++ H)); assumption; (first | exact .inl rfl | exact .inr rfl); exact rfl; (exact a_res); (simp only [retv]; rfl); (exact a_arr))
    exact hnone hE _ rfl
  have h : (getS l n).isSome = true := by assumption
  have h5 : d.down = false := by assumption
  have hE : readD d n = some (fileD d.now n) := by
    unfold readD fileD
    rw [h5]
    obtain ⟨b, hb⟩ := Option.isSome_iff_exists.1 (hg.symm.trans h)
    rw [hb]
    rfl
  rw [e1]
  (repeat' (first | refine a_go ?_ | (with_reducible apply Fin.thenK; assumption) | (with_reducible (first | apply C.seqK | apply C.regionK); intro _ _) | (apply R.buildSlice0; exact rfl; intro bz) | (apply R.box; exact rfl; (simp only [Value.cells]; rfl); exact rfl; intro bx) | (apply R.alloc; (simp only [Value.cells]; rfl); exact rfl; intro ba) | (apply R.buildSlice; (exact a_prt); exact rfl; exact rfl; (exact a_fills); exact rfl; intro bl) | (refine a_sp ?_ ?_; (intro h; skip; rotate_left; intro h; skip; rotate_left)) | fail))
  (apply R.append (news := (fileD d.now n).map bv); exact rfl; exact rfl; exact Own.empty; (exact a_tk); exact Pl.rd hpl; (rw [List.length_map, Nat.mul_one]); exact bv_one _; omega; exact rfl; decide; decide; exact rfl; rintro v4 hp4 hown4)
  rw [List.nil_append, Nat.zero_add] at hown4
  (repeat' (first | refine a_go ?_ | (with_reducible apply Fin.thenK; assumption) | (with_reducible (first | apply C.seqK | apply C.regionK); intro _ _) | (apply R.buildSlice0; exact rfl; intro bz) | (apply R.box; exact rfl; (simp only [Value.cells]; rfl); exact rfl; intro bx) | (apply R.alloc; (simp only [Value.cells]; rfl); exact rfl; intro ba) | (apply R.buildSlice; (exact a_prt); exact rfl; exact rfl; (exact a_fills); exact rfl; intro bl) | (refine a_sp ?_ ?_; (intro h; skip; rotate_left; intro h; skip; rotate_left)) | fail))
  (apply Fin.returnA (H2 := hp4 ++ ((db, dkB d.room sb nb pv d.fuse d.down) :: (nb, no) :: (sb, so) :: (hr ++ H))); assumption; (first | exact .inl rfl | exact .inr rfl); exact rfl; (exact a_res); (simp only [retv]; rfl); (exact a_arr))
  exact ⟨v4, hp4, by rw [hE]; rfl, by rw [hE]; exact hown4, rfl, rfl⟩
def PlD (M : Mem) (A : Option Addr) (ps : List De) : Prop := ∃ cs : List (List Value), Pl M A cs.flatten ∧ cs.length = ps.length ∧ ∀ (i : Nat) (x : De) (c : List Value), ps[i]? = some x → cs[i]? = some c → DeC M x c
theorem RowD.form {v : Value} {ps : List De} {hp : Hp} (h : RowD M v ps hp) : ∃ A cap, v = .slice A ps.length cap ∧ ps.length ≤ cap ∧ cap ≤ maxLen := by
  unfold RowD at h
  obtain ⟨cs, h1, _⟩ := h
  exact h1.form
theorem RowD.pl {A : Option Addr} {cap : Nat} {ps : List De} {hp : Hp} (h : RowD M (.slice A ps.length cap) ps hp) (hM : M.le M') (hi : In M' hp) : PlD M' A ps := by
  unfold RowD at h
  obtain ⟨cs, h1, h2, h3⟩ := h
  exact ⟨cs, h1.plIn hi, h2, fun i x c hx hc => (h3 i x c hx hc).mono hM⟩
theorem PlD.mono {A : Option Addr} {ps : List De} (hM : M.le M') (h : PlD M A ps) : PlD M' A ps := by
  obtain ⟨cs, h1, h2, h3⟩ := h
  exact ⟨cs, h1.mono hM, h2, fun i x c hx hc => (h3 i x c hx hc).mono hM⟩
theorem PlD.at {A : Option Addr} {ps : List De} (h : PlD M A ps) {i : Nat} (hi : i < ps.length) : ∃ b o c e fr d, A = some ⟨b, o, none⟩ ∧ M.at_ b = some (.cells c e fr) ∧ DeC M ps[i] d ∧ ∀ (q : Nat) u, d[q]? = some u → c[o + i * 5 + q]? = some u := by
  obtain ⟨cs, h1, h2, h3⟩ := h
  have hic : i < cs.length := by omega
  have hd := h3 i _ _ (List.getElem?_eq_getElem hi) (List.getElem?_eq_getElem hic)
  have hall : ∀ c ∈ cs, c.length = 5 := fun c hc => by
    obtain ⟨j, hj, rfl⟩ := List.mem_iff_getElem.1 hc
    exact (h3 j _ _ (List.getElem?_eq_getElem (by omega)) (List.getElem?_eq_getElem hj)).cells.1
  have hfl : ∀ (q : Nat) (u : Value), (cs[i])[q]? = some u → cs.flatten[i * 5 + q]? = some u := fun q u hq => rows_get hall hic hq
  have h0 : (cs[i])[0]? = some ((cs[i])[0]'(by rw [hall _ (List.getElem_mem hic)]; decide)) := List.getElem?_eq_getElem _
  obtain ⟨b, o, c, e, fr, g1, g2, _⟩ := h1.get (hfl 0 _ h0)
  refine ⟨b, o, c, e, fr, cs[i], g1, g2, hd, fun q u hq => ?_⟩
  obtain ⟨b', o', c', e', fr', g1', g2', g3'⟩ := h1.get (hfl q u hq)
  rw [g1] at g1'
  cases g1'
  rw [g2] at g2'
  cases g2'
  rw [Nat.add_assoc]
  exact g3'
end Go.Sx
end
section
namespace Go.Sx
open Go Go.Proofs Go.RowKit
attribute [local irreducible] C R Fin K Own OwnT Rd Pl Ok KOf RetOk OpsOf RP KP Res NoPanic KV KE MapS ItS EntS FsO FsR RowD PlD
variable {M M' : Mem} {H H1 H2 : Hp}
theorem DkO.isok {db : Nat} {d : Dk} {hp : Hp} (h : DkO M db d hp) : d.ok := h.1
end Go.Sx
end
section
namespace Go.Sx
open Go Go.Proofs Go.RowKit
attribute [local irreducible] C R Fin K Own OwnT Rd Pl Ok KOf RetOk OpsOf RP KP Res NoPanic KV KE MapS ItS EntS FsO FsR RowD PlD DkO
variable {M M' : Mem} {H H1 H2 : Hp}
theorem frame_KF {A : Option Addr} {cap m : Nat} {bs : List UInt8} (hpl : Pl M A (bs.map bv)) (hm : bs.length = m) (hb : m ≤ 140737488351232) : K Try.prog 34 [.slice A m cap] M H fun v M' H' =>
    PlB M' v (frameS bs) ∧ M.le M' ∧ H' = H := by
  subst hm
  refine (frame_K hpl hb).freezeT ?_
  rintro v M' H' ⟨hp, h1, rfl, rfl⟩
  exact ⟨hp, _, Arr.all _, fun M2 hM2 hin => ⟨h1.plB hin, hM2, rfl⟩⟩
theorem opD_ps (d : Dk) (e : Int) (x : De) : (opD e d x).ps.length ≤ d.ps.length + 1 := by
  unfold opD
  split
  · show (d.ps ++ [x]).length ≤ _
    rw [List.length_append]
    exact Nat.le_refl _
  · rw [cntD_ps]
    omega
end Go.Sx
end
section
namespace Go.Sx
open Go.RowKit
variable {P : Program} {r : Option Nat} {n : Nat} {D : List Deferred} {L L' : Sl} {M : Mem} {H : Hp} {Q : Post}
inductive PT where
  | nil
  | free (i : Nat) (t : PT)
  | one (i : Nat) (t : PT)
  | alt (i j : Nat) (t u : PT)
  | alt3 (i j k : Nat) (t u v : PT)
def PT.fuel : PT → Nat
  | .nil => 0
  | .free _ t => t.fuel + 1
  | .one _ t => t.fuel + 1
  | .alt _ _ t _ => t.fuel + 1
  | .alt3 _ _ _ t _ _ => t.fuel + 1
def planS (ops : Array Oper) (A : List Nat) (lA : Array Bool) : PT → Array Bool → Bool
  | .nil, listed => decide (listed = lA)
  | .free i t, listed => (Region.ready .any ops listed).contains i && Region.free .any ops listed i && A.contains i && Nat.ble ((A.filter fun j => !(listed.getD j true) && !(Nat.beq j i)).length) t.fuel && planS ops A lA t (listed.setIfInBounds i true)
  | .one i t, listed => decide (Region.ready .any ops listed = [i]) && planS ops A lA t (listed.setIfInBounds i true)
  | .alt i j t u, listed => decide (Region.ready .any ops listed = [i, j]) && Nat.beq t.fuel u.fuel && planS ops A lA t (listed.setIfInBounds i true) && planS ops A lA u (listed.setIfInBounds j true)
  | .alt3 i j k t u v, listed => decide (Region.ready .any ops listed = [i, j, k]) && Nat.beq t.fuel u.fuel && Nat.beq t.fuel v.fuel && planS ops A lA t (listed.setIfInBounds i true) && planS ops A lA u (listed.setIfInBounds j true) && planS ops A lA v (listed.setIfInBounds k true)
def planT (ops : Array Oper) : PT → Array Bool → Bool
  | .nil, listed => (Region.ready .any ops listed).isEmpty
  | .free i t, listed => (Region.ready .any ops listed).contains i && Region.free .any ops listed i && planT ops t (listed.setIfInBounds i true)
  | .one i t, listed => decide (Region.ready .any ops listed = [i]) && planT ops t (listed.setIfInBounds i true)
  | .alt i j t u, listed => decide (Region.ready .any ops listed = [i, j]) && Nat.beq t.fuel u.fuel && planT ops t (listed.setIfInBounds i true) && planT ops u (listed.setIfInBounds j true)
  | .alt3 i j k t u v, listed => decide (Region.ready .any ops listed = [i, j, k]) && Nat.beq t.fuel u.fuel && Nat.beq t.fuel v.fuel && planT ops t (listed.setIfInBounds i true) && planT ops u (listed.setIfInBounds j true) && planT ops v (listed.setIfInBounds k true)
def RT (P : Program) (r : Option Nat) (n : Nat) (l : List Oper) (t : PT) (Q : Post) (D : List Deferred) (L : Sl) (M0 M : Mem) (Hs Hx : Hp) : Prop :=
  ∀ (listed : Array Bool), Region.noSelect l.toArray = true → NoDefer l.toArray → NoPanic Q → planT l.toArray t listed = true → M0.le M → ∀ a, Fr n D L a → AnyH r P l.toArray M0 Hs Q t.fuel listed a M Hx
theorem C.regionT {id : Nat} {l : List Oper} (t : PT) (Hs Hx : Hp) (hm : P.follows .mixedOrders = true) (hH : Arr H (Hs ++ Hx)) (hQ : NoPanic Q) (hB : (Region.noSelect l.toArray && noDeferB l && planT l.toArray t (Array.replicate l.length false) && Nat.beq t.fuel l.length) = true)
    (h : RT P r n l t Q D L M M Hs Hx) : C P r n (.region id l.toArray true) Q D L M H := by
  intro a w hf hh
  simp only [Bool.and_eq_true] at hB
  obtain ⟨⟨⟨h1, h2⟩, h3⟩, h4⟩ := hB
  refine wpIn_region_any hm (AnyH.any (M0 := M) (Hs := Hs) _ _ _ M Hx _ ((hH.heap hh).drawn _) ?_)
  have := h (Array.replicate l.length false) h1 (NoDefer.of h2) hQ h3 (Mem.le_refl M) a hf
  rw [Nat.eq_of_beq_eq_true h4] at this
  simpa using this
section
variable {d : Option Tmp} {op : Op} {ty : TypeId} {pos : String} {af : Array Edge} {g : Option (Nat × Bool)} {v : Value} {l : List Oper} {t u : PT} {i j k : Nat} {M0 : Mem} {Hs Hx : Hp}
theorem RT.nil (h : Fin n .normal Q D L M (Hs ++ Hx)) : RT P r n l .nil Q D L M0 M Hs Hx :=
  fun _ _ _ _ hp hM a hf => ⟨hM, by simpa [planT] using hp, fun w hh => h a w hf hh⟩
theorem RT.weak (hs : sub L' L) (h : RT P r n l t Q D L' M0 M Hs Hx) : RT P r n l t Q D L M0 M Hs Hx :=
  fun listed h1 h2 h3 h4 h5 a hf => h listed h1 h2 h3 h4 h5 a (hf.weak hs)
theorem RT.step_ (hi : l[i]? = some ⟨d, op, ty, pos, af, g⟩) (hY : ∀ (a : Act), Fr n D L a → Yc P l.toArray M0 Hs ⟨d, op, ty, pos, af, g⟩ v a) (hd : dok n d = true)
    (k : RT P r n l t Q D (bnd d v L) M0 M Hs Hx) : RT P r n l (.free i t) Q D L M0 M Hs Hx := by
  intro listed hS hN hQ hp hM a hf
  have h0 : l.toArray[i]? = some ⟨d, op, ty, pos, af, g⟩ := by simpa using hi
  simp only [planT, Bool.and_eq_true] at hp
  obtain ⟨⟨p1, p2⟩, p3⟩ := hp
  exact AnyH.first h0 (Region.noSelect_spec hS) hN hQ t.fuel listed a M Hx (Region.free_spec h0 p2) (by simpa using p1) (hY a hf) (k _ hS hN hQ p3 hM _ (hf.put d hd v))
theorem RT.step (hi : l[i]? = some ⟨d, op, ty, pos, af, none⟩) (hok : ∀ M' Hx', M0.le M' → Ok P ⟨d, op, ty, pos, af, none⟩ L M' (Hs ++ Hx') v) (hd : dok n d = true)
    (k : RT P r n l t Q D (bnd d v L) M0 M Hs Hx) : RT P r n l (.free i t) Q D L M0 M Hs Hx :=
  RT.step_ hi (fun _ hf => .inl ⟨by simp [Region.wanted], fun M' Hx' w hM' hh' => (hok M' Hx' hM').qr hf hh'⟩) hd k
theorem RT.stepT {want : Bool} {dj : Tmp} (hi : l[i]? = some ⟨d, op, ty, pos, af, some (j, want)⟩) (hdj : (l.map (·.dst))[j]? = some (some dj)) (hb : lk L dj = some (.bool want)) (hlt : Nat.ble (dj + 1) n = true) (hok : ∀ M' Hx', M0.le M' → Ok P ⟨d, op, ty, pos, af, some (j, want)⟩ L M' (Hs ++ Hx') v) (hd : dok n d = true)
    (k : RT P r n l t Q D (bnd d v L) M0 M Hs Hx) : RT P r n l (.free i t) Q D L M0 M Hs Hx :=
  RT.step_ hi (fun _ hf => .inl ⟨by rw [wanted_guard hf (OpsOf.self l) hdj hb hlt]; simp, fun M' Hx' w hM' hh' => (hok M' Hx' hM').qr hf hh'⟩) hd k
theorem RT.stepF {want b : Bool} {dj : Tmp} (hi : l[i]? = some ⟨d, op, ty, pos, af, some (j, want)⟩) (hdj : (l.map (·.dst))[j]? = some (some dj)) (hb : lk L dj = some (.bool b)) (hlt : Nat.ble (dj + 1) n = true) (hne : (b == want) = false) (hd : dok n d = true)
    (k : RT P r n l t Q D (bnd d undef L) M0 M Hs Hx) : RT P r n l (.free i t) Q D L M0 M Hs Hx :=
  RT.step_ hi (fun _ hf => .inr ⟨by rw [wanted_guard hf (OpsOf.self l) hdj hb hlt]; exact hne, rfl⟩) hd k
theorem RT.stepU {want : Bool} {dj : Tmp} (hi : l[i]? = some ⟨d, op, ty, pos, af, some (j, want)⟩) (hdj : (l.map (·.dst))[j]? = some (some dj)) (hb : lk L dj = some undef) (hlt : Nat.ble (dj + 1) n = true) (hd : dok n d = true)
    (k : RT P r n l t Q D (bnd d undef L) M0 M Hs Hx) : RT P r n l (.free i t) Q D L M0 M Hs Hx :=
  RT.step_ hi (fun _ hf => .inr ⟨wanted_undef hf (OpsOf.self l) hdj hb hlt, rfl⟩) hd k
theorem RT.callQT {f : Nat} {xs : List Operand} {vs : List Value} {ts : Array TypeId} {want : Bool} {dj : Tmp} (hi : l[i]? = some ⟨d, .call ⟨.value (.func f), xs.toArray, ts⟩, ty, pos, af, some (j, want)⟩) (he : Ent P f) (hdj : (l.map (·.dst))[j]? = some (some dj)) (hb : lk L dj = some (.bool want)) (hlt : Nat.ble (dj + 1) n = true) (hx : Evs L xs vs) (hd : dok n d = true) (hK : ∀ M' Hx', M0.le M' → K P f vs M' (Hs ++ Hx') (fun u M2 H2 => u = v ∧ M2 = M' ∧ H2 = Hs ++ Hx'))
    (k : RT P r n l t Q D (bnd d v L) M0 M Hs Hx) : RT P r n l (.free i t) Q D L M0 M Hs Hx :=
  RT.step_ hi (fun a hf => .inl ⟨by rw [wanted_guard hf (OpsOf.self l) hdj hb hlt]; simp, fun M' Hx' w hM' hh' => by
    rw [callArgs_run hf hx]
    refine ⟨rfl, (hK M' Hx' hM' w hh').mono ?_⟩
    rintro e w' ⟨u, M2, H2, rfl, ⟨rfl, rfl, rfl⟩, hh2⟩
    exact ⟨rfl, hh2⟩⟩) hd k
def KT (P : Program) (r : Option Nat) (n : Nat) (l : List Oper) (t : PT) (Q : Post) (M0 : Mem) (Hs : Hp) (Kc : Act → World → Prop) : Prop :=
  ∀ D L' M1 M' E Hx', M0.le M1 → M1.le M' → RT P r n l t Q D L' M1 M' (Hs ++ E) Hx' → ∀ a w, Fr n D L' a → Heap w M' (Hs ++ (E ++ Hx')) → Kc a w
theorem Fin.kt {Kc : Act → World → Prop} (hk : KT P r n l t Q M0 Hs Kc) (hM : M0.le M) (ha : Arr H (Hs ++ Hx)) (h : RT P r n l t Q D L M0 M Hs Hx) : Fin n .normal (Exit.then Kc Q) D L M H :=
  fun a w hf hh => hk D L M0 M [] Hx (Mem.le_refl _) hM (by rw [List.append_nil]; exact h) a w hf (ha.heap hh)
theorem Fin.ktB {Kc : Act → World → Prop} {E : Hp} (hk : KT P r n l t Q M0 Hs Kc) (hM : M0.le M) (ha : Arr H (Hs ++ (E ++ Hx))) (h : RT P r n l t Q D L M M (Hs ++ E) Hx) : Fin n .normal (Exit.then Kc Q) D L M H :=
  fun a w hf hh => hk D L M M E Hx hM (Mem.le_refl _) h a w hf (ha.heap hh)
def OneT (P : Program) (r : Option Nat) (n : Nat) (l : List Oper) (i : Nat) (t : PT) (Q : Post) (D : List Deferred) (L : Sl) (M0 M : Mem) (Hs Hx : Hp) : Prop :=
  ∀ (listed : Array Bool), Region.noSelect l.toArray = true → NoDefer l.toArray → NoPanic Q → planT l.toArray t (listed.setIfInBounds i true) = true → M0.le M → ∀ a, Fr n D L a → ∀ w, Heap w M (Hs ++ Hx) →
    wpOpIn (F0 r) 0 P l.toArray Q i (fun a' w' => ∃ M' Hx', Heap w' M' (Hs ++ Hx') ∧ AnyH r P l.toArray M0 Hs Q t.fuel (listed.setIfInBounds i true) a' M' Hx') a w
theorem OneT.eff_ (hi : l[i]? = some ⟨d, op, ty, pos, af, g⟩) (hw : ∀ (a : Act), Fr n D L a → Region.wanted ⟨d, op, ty, pos, af, g⟩ (yielded l.toArray a.tmps) = true)
    (h : ∀ Kc, KT P r n l t Q M0 Hs Kc → ∀ ops, R false P r n ops [⟨d, op, ty, pos, af, none⟩] (Exit.then Kc Q) D L M (Hs ++ Hx)) : OneT P r n l i t Q D L M0 M Hs Hx := by
  intro listed hS hN hQ hp hM a hf w hh
  have h0 : l.toArray[i]? = some ⟨d, op, ty, pos, af, g⟩ := by simpa using hi
  have hk : KT P r n l t Q M0 Hs (fun a' w' => ∃ M' Hx', Heap w' M' (Hs ++ Hx') ∧ AnyH r P l.toArray M0 Hs Q t.fuel (listed.setIfInBounds i true) a' M' Hx') := by
    intro D' L' M1 M' E Hx' h1 hM' hRT a' w' hf' hh'
    exact ⟨M', E ++ Hx', hh', AnyH.base h1 _ _ _ _ _ (hRT _ hS hN hQ hp hM' a' hf')⟩
  have h1 := h _ hk #[] a w hf hh
  unfold wpListIn at h1
  rw [if_pos (by simp [Region.wanted])] at h1
  unfold wpOpIn
  simp only [h0]
  rw [hw a hf, if_pos rfl]
  exact (wpIn_post (fun _ _ _ h => h) (fun _ _ h => h) h1 : (⟨d, op, ty, pos, af, none⟩ : Oper).wpIn (F0 r) 0 P a w _ Q)
theorem OneT.eff (hi : l[i]? = some ⟨d, op, ty, pos, af, none⟩) (h : ∀ Kc, KT P r n l t Q M0 Hs Kc → ∀ ops, R false P r n ops [⟨d, op, ty, pos, af, none⟩] (Exit.then Kc Q) D L M (Hs ++ Hx)) : OneT P r n l i t Q D L M0 M Hs Hx :=
  OneT.eff_ hi (fun _ _ => by simp [Region.wanted]) h
theorem OneT.effT {want : Bool} {dj : Tmp} (hi : l[i]? = some ⟨d, op, ty, pos, af, some (j, want)⟩) (hdj : (l.map (·.dst))[j]? = some (some dj)) (hb : lk L dj = some (.bool want)) (hlt : Nat.ble (dj + 1) n = true)
    (h : ∀ Kc, KT P r n l t Q M0 Hs Kc → ∀ ops, R false P r n ops [⟨d, op, ty, pos, af, none⟩] (Exit.then Kc Q) D L M (Hs ++ Hx)) : OneT P r n l i t Q D L M0 M Hs Hx :=
  OneT.eff_ hi (fun _ hf => by rw [wanted_guard hf (OpsOf.self l) hdj hb hlt]; simp) h
theorem OneT.effF {want b : Bool} {dj : Tmp} (hi : l[i]? = some ⟨d, op, ty, pos, af, some (j, want)⟩) (hdj : (l.map (·.dst))[j]? = some (some dj)) (hb : lk L dj = some (.bool b)) (hlt : Nat.ble (dj + 1) n = true) (hne : (b == want) = false) (hd : dok n d = true)
    (k : RT P r n l t Q D (bnd d undef L) M0 M Hs Hx) : OneT P r n l i t Q D L M0 M Hs Hx := by
  intro listed hS hN hQ hp hM a hf w hh
  have h0 : l.toArray[i]? = some ⟨d, op, ty, pos, af, some (j, want)⟩ := by simpa using hi
  unfold wpOpIn
  simp only [h0]
  rw [wanted_guard hf (OpsOf.self l) hdj hb hlt, hne]
  simp only [Bool.false_eq_true, if_false]
  exact ⟨fun f _ => F0_fn _ f, M, Hx, hh, k _ hS hN hQ hp hM _ (hf.put d hd undef)⟩
theorem OneT.effU {want : Bool} {dj : Tmp} (hi : l[i]? = some ⟨d, op, ty, pos, af, some (j, want)⟩) (hdj : (l.map (·.dst))[j]? = some (some dj)) (hb : lk L dj = some undef) (hlt : Nat.ble (dj + 1) n = true) (hd : dok n d = true)
    (k : RT P r n l t Q D (bnd d undef L) M0 M Hs Hx) : OneT P r n l i t Q D L M0 M Hs Hx := by
  intro listed hS hN hQ hp hM a hf w hh
  have h0 : l.toArray[i]? = some ⟨d, op, ty, pos, af, some (j, want)⟩ := by simpa using hi
  unfold wpOpIn
  simp only [h0]
  rw [wanted_undef hf (OpsOf.self l) hdj hb hlt]
  simp only [Bool.false_eq_true, if_false]
  exact ⟨fun f _ => F0_fn _ f, M, Hx, hh, k _ hS hN hQ hp hM _ (hf.put d hd undef)⟩
theorem RT.one (h : OneT P r n l i t Q D L M0 M Hs Hx) : RT P r n l (.one i t) Q D L M0 M Hs Hx := by
  intro listed hS hN hQ hp hM a hf
  simp only [planT, Bool.and_eq_true, decide_eq_true_eq] at hp
  obtain ⟨p2, p3⟩ := hp
  refine ⟨hM, fun e => (by rw [p2] at e; cases e), fun q hq w hh => ?_⟩
  rw [p2, List.mem_singleton] at hq
  subst hq
  exact h listed hS hN hQ p3 hM a hf w hh
theorem RT.alt (h1 : OneT P r n l i t Q D L M0 M Hs Hx) (h2 : OneT P r n l j u Q D L M0 M Hs Hx) : RT P r n l (.alt i j t u) Q D L M0 M Hs Hx := by
  intro listed hS hN hQ hp hM a hf
  simp only [planT, Bool.and_eq_true, decide_eq_true_eq] at hp
  obtain ⟨⟨⟨p1, p2⟩, p3⟩, p4⟩ := hp
  have p2 := Nat.eq_of_beq_eq_true p2
  refine ⟨hM, fun e => (by rw [p1] at e; cases e), fun q hq w hh => ?_⟩
  rw [p1, List.mem_cons, List.mem_singleton] at hq
  rcases hq with rfl | rfl
  · exact h1 listed hS hN hQ p3 hM a hf w hh
  · rw [p2]
    exact h2 listed hS hN hQ p4 hM a hf w hh
theorem RT.alt3 {v : PT} (h1 : OneT P r n l i t Q D L M0 M Hs Hx) (h2 : OneT P r n l j u Q D L M0 M Hs Hx) (h3 : OneT P r n l k v Q D L M0 M Hs Hx) : RT P r n l (.alt3 i j k t u v) Q D L M0 M Hs Hx := by
  intro listed hS hN hQ hp hM a hf
  simp only [planT, Bool.and_eq_true, decide_eq_true_eq] at hp
  obtain ⟨⟨⟨⟨⟨p1, p2⟩, p2'⟩, p3⟩, p4⟩, p5⟩ := hp
  have p2 := Nat.eq_of_beq_eq_true p2
  have p2' := Nat.eq_of_beq_eq_true p2'
  refine ⟨hM, fun e => (by rw [p1] at e; cases e), fun q hq w hh => ?_⟩
  rw [p1, List.mem_cons, List.mem_cons, List.mem_singleton] at hq
  rcases hq with rfl | rfl | rfl
  · exact h1 listed hS hN hQ p3 hM a hf w hh
  · rw [p2]
    exact h2 listed hS hN hQ p4 hM a hf w hh
  · rw [p2']
    exact h3 listed hS hN hQ p5 hM a hf w hh
end
theorem Ok.addQ {d : Option Tmp} {ty : TypeId} {pos : String} {af : Array Edge} {g : Option (Nat × Bool)} {t t' : TypeId} {x y : Operand} {k : IntKind} {p q : Int} (r : Int) (hx : ev L x = some (.int k p)) (hy : ev L y = some (.int k q)) (h : p + q = r) (hw : k.wrap r = r) : Ok P ⟨d, .binOp .add t x y t', ty, pos, af, g⟩ L M H (.int k r) := by
  subst h
  exact Ok.addB hx hy hw
theorem Ok.subQ {d : Option Tmp} {ty : TypeId} {pos : String} {af : Array Edge} {g : Option (Nat × Bool)} {t t' : TypeId} {x y : Operand} {k : IntKind} {p q : Int} (r : Int) (hx : ev L x = some (.int k p)) (hy : ev L y = some (.int k q)) (h : p - q = r) (hw : k.wrap r = r) : Ok P ⟨d, .binOp .sub t x y t', ty, pos, af, g⟩ L M H (.int k r) := by
  subst h
  exact Ok.subB hx hy hw
theorem K.permQ {f : Nat} {args : List Value} {v : Value} {H1 H2 : Hp} (hp : H2.Perm H1) (h : K P f args M H1 (fun v' M' H' => v' = v ∧ M' = M ∧ H' = H1)) : K P f args M H2 (fun v' M' H' => v' = v ∧ M' = M ∧ H' = H2) :=
  fun w hh => (h w (hh.perm hp)).mono fun _ _ ⟨u, M', H', h1, ⟨h2, h3, h4⟩, h5⟩ => ⟨u, M', H2, h1, ⟨h2, h3, rfl⟩, by subst h4; exact h5.perm hp.symm⟩
theorem perm_mid (a b c : Hp) : ((a ++ b) ++ c).Perm (b ++ (a ++ c)) := by
  rw [← List.append_assoc b a c]
  exact List.perm_append_comm.append_right c
def EndS (n : Nat) (D : List Deferred) (k : Sl → Mem → Hp → Prop) (M0 : Mem) (lA : Array Bool) (l : Array Bool) (a : Act) (w : World) : Prop := l = lA ∧ ∃ L' M' H', k L' M' H' ∧ M0.le M' ∧ Fr n D L' a ∧ Heap w M' H'
def RS (P : Program) (r : Option Nat) (n : Nat) (l : List Oper) (t : PT) (Q : Post) (D : List Deferred) (k : Sl → Mem → Hp → Prop) (L : Sl) (M0 M : Mem) (Hs Hx : Hp) : Prop :=
  ∀ (listed : Array Bool) (A : List Nat) (lF lA : Array Bool), Region.noSelect l.toArray = true → NoDefer l.toArray → NoPanic Q → Barrier l.toArray A lF → (∀ j, listed.getD j true = false → lF.getD j true = false) → planS l.toArray A lA t listed = true → M0.le M →
    ∀ a, Fr n D L a → AnyZ r P l.toArray M0 Hs Q (EndS n D k M0 lA) t.fuel listed a M Hx
def Later (P : Program) (r : Option Nat) (n : Nat) (l : List Oper) (t : PT) (Q : Post) (D : List Deferred) (L : Sl) (M : Mem) (H : Hp) : Prop := ∃ Hs Hx, Arr H (Hs ++ Hx) ∧ RT P r n l t Q D L M M Hs Hx
theorem C.regionS {id : Nat} {l : List Oper} (A : List Nat) (t u : PT) (Hs Hx : Hp) (hm : P.follows .mixedOrders = true) (hH : Arr H (Hs ++ Hx)) (hQ : NoPanic Q)
    (hB : (Region.noSelect l.toArray && noDeferB l && barrierB l.toArray A (Array.replicate l.length false) && planS l.toArray A (afterA A (Array.replicate l.length false)) t (Array.replicate l.length false) && planT l.toArray u (afterA A (Array.replicate l.length false)) && Nat.beq (u.fuel + t.fuel) l.length) = true)
    (h : RS P r n l t Q D (fun L' M' H' => Later P r n l u Q D L' M' H') L M M Hs Hx) : C P r n (.region id l.toArray true) Q D L M H := by
  intro a w hf hh
  simp only [Bool.and_eq_true] at hB
  obtain ⟨⟨⟨⟨⟨h1, h2⟩, h3⟩, h4⟩, h5⟩, h6⟩ := hB
  refine wpIn_region_any hm ?_
  have h9 : u.fuel + t.fuel = l.toArray.size := by simpa using Nat.eq_of_beq_eq_true h6
  have hAny := h (Array.replicate l.length false) A (Array.replicate l.length false) (afterA A (Array.replicate l.length false)) h1 (NoDefer.of h2) hQ (Barrier.of h3) (fun _ hj => hj) h4 (Mem.le_refl M) a hf
  obtain ⟨M', Hx', h10, h11⟩ := AnyZ.toH (g := u.fuel) (Mem.le_refl M) (fun listed a w ⟨hl, L', M', H', ⟨Hs2, Hx2, ha, hk⟩, hM', hf', hh'⟩ => by
    subst hl
    exact ⟨M', Hs2 ++ Hx2, ha.heap hh', AnyH.base (Hs := []) (E := Hs2) hM' _ _ _ _ _ (hk _ h1 (NoDefer.of h2) hQ h5 (Mem.le_refl M') _ hf')⟩) t.fuel _ a M Hx { w with drawn := w.drawn + 1 } ((hH.heap hh).drawn _) hAny
  rw [h9] at h11
  have := AnyH.any (r := r) _ _ _ M' Hx' _ h10 h11
  simpa using this
section
variable {d : Option Tmp} {op : Op} {ty : TypeId} {pos : String} {af : Array Edge} {g : Option (Nat × Bool)} {v : Value} {l : List Oper} {t u : PT} {i j q : Nat} {M0 : Mem} {Hs Hx : Hp} {k : Sl → Mem → Hp → Prop}
theorem RS.nil (h : k L M (Hs ++ Hx)) : RS P r n l .nil Q D k L M0 M Hs Hx := by
  intro listed A lF lA _ _ _ _ _ hp hM a hf
  exact ⟨hM, fun w hh => ⟨by simpa [planS] using hp, _, _, _, h, hM, hf, hh⟩⟩
theorem RS.later {Hs2 Hx2 : Hp} (ha : Arr (Hs ++ Hx) (Hs2 ++ Hx2)) (h : RT P r n l u Q D L M M Hs2 Hx2) : RS P r n l .nil Q D (fun L' M' H' => Later P r n l u Q D L' M' H') L M0 M Hs Hx := RS.nil ⟨Hs2, Hx2, ha, h⟩
theorem RS.step_ (hi : l[i]? = some ⟨d, op, ty, pos, af, g⟩) (hY : ∀ (a : Act), Fr n D L a → Yc P l.toArray M0 Hs ⟨d, op, ty, pos, af, g⟩ v a) (hd : dok n d = true)
    (h : RS P r n l t Q D k (bnd d v L) M0 M Hs Hx) : RS P r n l (.free i t) Q D k L M0 M Hs Hx := by
  intro listed A lF lA hS hN hQ hb hsub hp hM a hf
  have h0 : l.toArray[i]? = some ⟨d, op, ty, pos, af, g⟩ := by simpa using hi
  simp only [planS, Bool.and_eq_true] at hp
  obtain ⟨⟨⟨⟨p1, p2⟩, p3⟩, p4⟩, p5⟩ := hp
  refine AnyZ.first h0 (Region.noSelect_spec hS) hN hQ hb (by simpa using p3) t.fuel (A.filter fun j => !(listed.getD j true) && !(Nat.beq j i)) listed a M Hx hsub ?_ (Nat.le_of_ble_eq_true p4) (Region.free_spec h0 p2) (by simpa using p1) (hY a hf) (h _ A lF lA hS hN hQ hb (sub_set hsub) p5 hM _ (hf.put d hd v))
  intro x hx hun
  by_cases hxi : x = i
  · exact .inl hxi
  · refine .inr (List.mem_filter.2 ⟨hx, ?_⟩)
    have : Nat.beq x i = false := by
      cases hbq : Nat.beq x i with
      | false => rfl
      | true => exact absurd (Nat.eq_of_beq_eq_true hbq) hxi
    rw [hun, this]
    rfl
theorem RS.step (hi : l[i]? = some ⟨d, op, ty, pos, af, none⟩) (hok : ∀ M' Hx', M0.le M' → Ok P ⟨d, op, ty, pos, af, none⟩ L M' (Hs ++ Hx') v) (hd : dok n d = true)
    (h : RS P r n l t Q D k (bnd d v L) M0 M Hs Hx) : RS P r n l (.free i t) Q D k L M0 M Hs Hx :=
  RS.step_ hi (fun _ hf => .inl ⟨by simp [Region.wanted], fun M' Hx' w hM' hh' => (hok M' Hx' hM').qr hf hh'⟩) hd h
theorem RS.stepT {want : Bool} {dj : Tmp} (hi : l[i]? = some ⟨d, op, ty, pos, af, some (j, want)⟩) (hdj : (l.map (·.dst))[j]? = some (some dj)) (hb : lk L dj = some (.bool want)) (hlt : Nat.ble (dj + 1) n = true) (hok : ∀ M' Hx', M0.le M' → Ok P ⟨d, op, ty, pos, af, some (j, want)⟩ L M' (Hs ++ Hx') v) (hd : dok n d = true)
    (h : RS P r n l t Q D k (bnd d v L) M0 M Hs Hx) : RS P r n l (.free i t) Q D k L M0 M Hs Hx :=
  RS.step_ hi (fun _ hf => .inl ⟨by rw [wanted_guard hf (OpsOf.self l) hdj hb hlt]; simp, fun M' Hx' w hM' hh' => (hok M' Hx' hM').qr hf hh'⟩) hd h
theorem RS.stepU {want : Bool} {dj : Tmp} (hi : l[i]? = some ⟨d, op, ty, pos, af, some (j, want)⟩) (hdj : (l.map (·.dst))[j]? = some (some dj)) (hb : lk L dj = some undef) (hlt : Nat.ble (dj + 1) n = true) (hd : dok n d = true)
    (h : RS P r n l t Q D k (bnd d undef L) M0 M Hs Hx) : RS P r n l (.free i t) Q D k L M0 M Hs Hx :=
  RS.step_ hi (fun _ hf => .inr ⟨wanted_undef hf (OpsOf.self l) hdj hb hlt, rfl⟩) hd h
theorem RS.stepF {want b : Bool} {dj : Tmp} (hi : l[i]? = some ⟨d, op, ty, pos, af, some (j, want)⟩) (hdj : (l.map (·.dst))[j]? = some (some dj)) (hb : lk L dj = some (.bool b)) (hlt : Nat.ble (dj + 1) n = true) (hne : (b == want) = false) (hd : dok n d = true)
    (h : RS P r n l t Q D k (bnd d undef L) M0 M Hs Hx) : RS P r n l (.free i t) Q D k L M0 M Hs Hx :=
  RS.step_ hi (fun _ hf => .inr ⟨by rw [wanted_guard hf (OpsOf.self l) hdj hb hlt]; exact hne, rfl⟩) hd h
def KS (P : Program) (r : Option Nat) (n : Nat) (l : List Oper) (t : PT) (Q : Post) (D : List Deferred) (k : Sl → Mem → Hp → Prop) (M0 : Mem) (Hs : Hp) (Kc : Act → World → Prop) : Prop :=
  ∀ L' M' Hx', M0.le M' → RS P r n l t Q D k L' M0 M' Hs Hx' → ∀ a w, Fr n D L' a → Heap w M' (Hs ++ Hx') → Kc a w
theorem Fin.ks {Kc : Act → World → Prop} (hk : KS P r n l t Q D k M0 Hs Kc) (hM : M0.le M) (ha : Arr H (Hs ++ Hx)) (h : RS P r n l t Q D k L M0 M Hs Hx) : Fin n .normal (Exit.then Kc Q) D L M H :=
  fun a w hf hh => hk L M Hx hM h a w hf (ha.heap hh)
def OneS (P : Program) (r : Option Nat) (n : Nat) (l : List Oper) (i : Nat) (t : PT) (Q : Post) (D : List Deferred) (k : Sl → Mem → Hp → Prop) (L : Sl) (M0 M : Mem) (Hs Hx : Hp) : Prop :=
  ∀ (listed : Array Bool) (A : List Nat) (lF lA : Array Bool), Region.noSelect l.toArray = true → NoDefer l.toArray → NoPanic Q → Barrier l.toArray A lF → (∀ j, listed.getD j true = false → lF.getD j true = false) → planS l.toArray A lA t (listed.setIfInBounds i true) = true → M0.le M → ∀ a, Fr n D L a → ∀ w, Heap w M (Hs ++ Hx) →
    wpOpIn (F0 r) 0 P l.toArray Q i (fun a' w' => ∃ M' Hx', Heap w' M' (Hs ++ Hx') ∧ AnyZ r P l.toArray M0 Hs Q (EndS n D k M0 lA) t.fuel (listed.setIfInBounds i true) a' M' Hx') a w
theorem OneS.eff_ (hi : l[i]? = some ⟨d, op, ty, pos, af, g⟩) (hw : ∀ (a : Act), Fr n D L a → Region.wanted ⟨d, op, ty, pos, af, g⟩ (yielded l.toArray a.tmps) = true)
    (h : ∀ Kc, KS P r n l t Q D k M0 Hs Kc → ∀ ops, R false P r n ops [⟨d, op, ty, pos, af, none⟩] (Exit.then Kc Q) D L M (Hs ++ Hx)) : OneS P r n l i t Q D k L M0 M Hs Hx := by
  intro listed A lF lA hS hN hQ hb hsub hp hM a hf w hh
  have h0 : l.toArray[i]? = some ⟨d, op, ty, pos, af, g⟩ := by simpa using hi
  have hk : KS P r n l t Q D k M0 Hs (fun a' w' => ∃ M' Hx', Heap w' M' (Hs ++ Hx') ∧ AnyZ r P l.toArray M0 Hs Q (EndS n D k M0 lA) t.fuel (listed.setIfInBounds i true) a' M' Hx') := by
    intro L' M' Hx' hM' hRS a' w' hf' hh'
    exact ⟨M', Hx', hh', hRS _ A lF lA hS hN hQ hb (sub_set hsub) hp hM' a' hf'⟩
  have h1 := h _ hk #[] a w hf hh
  unfold wpListIn at h1
  rw [if_pos (by simp [Region.wanted])] at h1
  unfold wpOpIn
  simp only [h0]
  rw [hw a hf, if_pos rfl]
  exact (wpIn_post (fun _ _ _ h => h) (fun _ _ h => h) h1 : (⟨d, op, ty, pos, af, none⟩ : Oper).wpIn (F0 r) 0 P a w _ Q)
theorem OneS.eff (hi : l[i]? = some ⟨d, op, ty, pos, af, none⟩) (h : ∀ Kc, KS P r n l t Q D k M0 Hs Kc → ∀ ops, R false P r n ops [⟨d, op, ty, pos, af, none⟩] (Exit.then Kc Q) D L M (Hs ++ Hx)) : OneS P r n l i t Q D k L M0 M Hs Hx :=
  OneS.eff_ hi (fun _ _ => by simp [Region.wanted]) h
theorem OneS.effF {want b : Bool} {dj : Tmp} (hi : l[i]? = some ⟨d, op, ty, pos, af, some (j, want)⟩) (hdj : (l.map (·.dst))[j]? = some (some dj)) (hb : lk L dj = some (.bool b)) (hlt : Nat.ble (dj + 1) n = true) (hne : (b == want) = false) (hd : dok n d = true)
    (h : RS P r n l t Q D k (bnd d undef L) M0 M Hs Hx) : OneS P r n l i t Q D k L M0 M Hs Hx := by
  intro listed A lF lA hS hN hQ hbb hsub hp hM a hf w hh
  have h0 : l.toArray[i]? = some ⟨d, op, ty, pos, af, some (j, want)⟩ := by simpa using hi
  unfold wpOpIn
  simp only [h0]
  rw [wanted_guard hf (OpsOf.self l) hdj hb hlt, hne]
  simp only [Bool.false_eq_true, if_false]
  exact ⟨fun f _ => F0_fn _ f, M, Hx, hh, h _ A lF lA hS hN hQ hbb (sub_set hsub) hp hM _ (hf.put d hd undef)⟩
theorem OneS.effU {want : Bool} {dj : Tmp} (hi : l[i]? = some ⟨d, op, ty, pos, af, some (j, want)⟩) (hdj : (l.map (·.dst))[j]? = some (some dj)) (hb : lk L dj = some undef) (hlt : Nat.ble (dj + 1) n = true) (hd : dok n d = true)
    (h : RS P r n l t Q D k (bnd d undef L) M0 M Hs Hx) : OneS P r n l i t Q D k L M0 M Hs Hx := by
  intro listed A lF lA hS hN hQ hbb hsub hp hM a hf w hh
  have h0 : l.toArray[i]? = some ⟨d, op, ty, pos, af, some (j, want)⟩ := by simpa using hi
  unfold wpOpIn
  simp only [h0]
  rw [wanted_undef hf (OpsOf.self l) hdj hb hlt]
  simp only [Bool.false_eq_true, if_false]
  exact ⟨fun f _ => F0_fn _ f, M, Hx, hh, h _ A lF lA hS hN hQ hbb (sub_set hsub) hp hM _ (hf.put d hd undef)⟩
theorem RS.one (h : OneS P r n l i t Q D k L M0 M Hs Hx) : RS P r n l (.one i t) Q D k L M0 M Hs Hx := by
  intro listed A lF lA hS hN hQ hb hsub hp hM a hf
  simp only [planS, Bool.and_eq_true, decide_eq_true_eq] at hp
  obtain ⟨p2, p3⟩ := hp
  refine ⟨hM, fun e => (by rw [p2] at e; cases e), fun q hq w hh => ?_⟩
  rw [p2, List.mem_singleton] at hq
  subst hq
  exact h listed A lF lA hS hN hQ hb hsub p3 hM a hf w hh
theorem RS.alt (h1 : OneS P r n l i t Q D k L M0 M Hs Hx) (h2 : OneS P r n l j u Q D k L M0 M Hs Hx) : RS P r n l (.alt i j t u) Q D k L M0 M Hs Hx := by
  intro listed A lF lA hS hN hQ hb hsub hp hM a hf
  simp only [planS, Bool.and_eq_true, decide_eq_true_eq] at hp
  obtain ⟨⟨⟨p1, p2⟩, p3⟩, p4⟩ := hp
  have p2 := Nat.eq_of_beq_eq_true p2
  refine ⟨hM, fun e => (by rw [p1] at e; cases e), fun q hq w hh => ?_⟩
  rw [p1, List.mem_cons, List.mem_singleton] at hq
  rcases hq with rfl | rfl
  · exact h1 listed A lF lA hS hN hQ hb hsub p3 hM a hf w hh
  · rw [p2]
    exact h2 listed A lF lA hS hN hQ hb hsub p4 hM a hf w hh
theorem RS.alt3 {v : PT} (h1 : OneS P r n l i t Q D k L M0 M Hs Hx) (h2 : OneS P r n l j u Q D k L M0 M Hs Hx) (h3 : OneS P r n l q v Q D k L M0 M Hs Hx) : RS P r n l (.alt3 i j q t u v) Q D k L M0 M Hs Hx := by
  intro listed A lF lA hS hN hQ hb hsub hp hM a hf
  simp only [planS, Bool.and_eq_true, decide_eq_true_eq] at hp
  obtain ⟨⟨⟨⟨⟨p1, p2⟩, p2'⟩, p3⟩, p4⟩, p5⟩ := hp
  have p2 := Nat.eq_of_beq_eq_true p2
  have p2' := Nat.eq_of_beq_eq_true p2'
  refine ⟨hM, fun e => (by rw [p1] at e; cases e), fun q hq w hh => ?_⟩
  rw [p1, List.mem_cons, List.mem_cons, List.mem_singleton] at hq
  rcases hq with rfl | rfl | rfl
  · exact h1 listed A lF lA hS hN hQ hb hsub p3 hM a hf w hh
  · rw [p2]
    exact h2 listed A lF lA hS hN hQ hb hsub p4 hM a hf w hh
  · rw [p2']
    exact h3 listed A lF lA hS hN hQ hb hsub p5 hM a hf w hh
end
end Go.Sx
end
section
namespace Go.Sx
open Go Go.Proofs Go.RowKit
attribute [local irreducible] C R Fin K Own OwnT Rd Pl Ok KOf RetOk OpsOf RP KP Res NoPanic KV KE MapS ItS EntS RT KT OneT RS KS OneS
variable {M M' : Mem} {H H1 H2 : Hp}
theorem PlB.nil1 : PlB M (.slice none 0 0) [] := ⟨none, 0, rfl, Nat.le_refl _, by omega, Pl.nil⟩
def textS (b : Txt) : Txt := numS b.length ++ b
def textR (bs : Txt) (most at_ : Nat) (bad : Int) : Txt × Nat × Int :=
  if (numRd bs most at_ bad).2.2 ≠ 0 then ([], (numRd bs most at_ bad).2) else
  if bs.length - (numRd bs most at_ bad).2.1 < (numRd bs most at_ bad).1 then ([], at_, 10) else
  ((bs.drop (numRd bs most at_ bad).2.1).take (numRd bs most at_ bad).1, (numRd bs most at_ bad).2.1 + (numRd bs most at_ bad).1, 0)
theorem numRd_le {bs : Txt} {most at_ : Nat} {bad : Int} : (numRd bs most at_ bad).1 ≤ most := by
  unfold numRd
  split
  · exact Nat.zero_le _
  · split
    · exact Nat.zero_le _
    · split
      · exact Nat.zero_le _
      · rename_i h1 h2 h3
        dsimp only
        have h4 : (numR bs at_).2.1 = 0 := Decidable.byContradiction h3
        exact Nat.le_of_not_lt (fun h => h2 ⟨h4, h⟩)
theorem wtext_K {wb : Nat} {v : Value} {bs b : Txt} {A : Option Addr} {c : Nat} {hr : Hp} (ho : Own 5 1 v bs.length (bs.map bv) hr) (hl : bs.length ≤ 1099511627000) (hb : Pl M A (b.map bv)) (hbl : b.length ≤ 1099511627776) : K Try.prog 32 [.pointer (some ⟨wb, 0, none⟩), .slice A b.length c] M ((wb, wrB v) :: (hr ++ H)) fun v' M' H' => v' = .tuple #[] ∧ M' = M ∧ ∃ v2 hr2, Own 5 1 v2 (bs ++ textS b).length ((bs ++ textS b).map bv) hr2 ∧ H' = (wb, wrB v2) :: (hr2 ++ H) := by
  refine K.enterK Try.func32 rfl rfl rfl ?_
  intro Q hNP hQ
  have hl10 := (numS_len10 (n := b.length) (by omega)).2
  (repeat' (first | (apply R.step; (apply Ok.move; exact rfl); exact rfl) | (apply R.step; (apply Ok.convB; exact rfl; apply wu64; omega; omega); exact rfl) | refine a_go ?_ | (with_reducible apply Fin.thenK; assumption) | (with_reducible (first | apply C.seqK | apply C.regionK); intro _ _) | (apply R.buildSlice0; exact rfl; intro bz) | (apply R.box; exact rfl; (simp only [Value.cells]; rfl); exact rfl; intro bx) | (apply R.alloc; (simp only [Value.cells]; rfl); exact rfl; intro ba) | (apply R.buildSlice; (exact a_prt); exact rfl; exact rfl; (exact a_fills); exact rfl; intro bl) | (refine a_sp ?_ ?_; (intro h; skip; rotate_left; intro h; skip; rotate_left)) | fail))
  (apply R.call; (exact a_evs); exact rfl; exact wnum_K (n := b.length) ho (by omega) (by omega); rintro _ M _ ⟨rfl, rfl, v2, hr2, ho2, rfl⟩)
  rw [List.length_append] at ho2
  obtain ⟨A2, c2, rfl, _, _⟩ := ho2.form
  unfold wrB at hQ ⊢
  (repeat' (first | refine a_go ?_ | (with_reducible apply Fin.thenK; assumption) | (with_reducible (first | apply C.seqK | apply C.regionK); intro _ _) | (apply R.buildSlice0; exact rfl; intro bz) | (apply R.box; exact rfl; (simp only [Value.cells]; rfl); exact rfl; intro bx) | (apply R.alloc; (simp only [Value.cells]; rfl); exact rfl; intro ba) | (apply R.buildSlice; (exact a_prt); exact rfl; exact rfl; (exact a_fills); exact rfl; intro bl) | (refine a_sp ?_ ?_; (intro h; skip; rotate_left; intro h; skip; rotate_left)) | fail))
  (apply R.append (news := b.map bv); exact rfl; exact rfl; exact ho2; (exact a_tk); exact Pl.rd hb; (rw [List.length_map, Nat.mul_one]); exact bv_one _; omega; exact rfl; decide; decide; exact rfl; rintro v4 hp4 hown4)
  obtain ⟨A4, c4, rfl, _, _⟩ := hown4.form
  (repeat' (first | refine a_go ?_ | (with_reducible apply Fin.thenK; assumption) | (with_reducible (first | apply C.seqK | apply C.regionK); intro _ _) | (apply R.buildSlice0; exact rfl; intro bz) | (apply R.box; exact rfl; (simp only [Value.cells]; rfl); exact rfl; intro bx) | (apply R.alloc; (simp only [Value.cells]; rfl); exact rfl; intro ba) | (apply R.buildSlice; (exact a_prt); exact rfl; exact rfl; (exact a_fills); exact rfl; intro bl) | (refine a_sp ?_ ?_; (intro h; skip; rotate_left; intro h; skip; rotate_left)) | fail))
  (apply Fin.returnA (H2 := (wb, .cells [.slice A4 (bs.length + (numS b.length).length + b.length) c4].toArray 108 (0, 0)) :: (hp4 ++ H)); assumption; (first | exact .inl rfl | exact .inr rfl); exact rfl; (exact a_res); (simp only [retv]; rfl); (exact a_arr))
  refine ⟨rfl, rfl, _, hp4, ?_, rfl⟩
  unfold textS
  rw [← List.append_assoc, List.length_append, List.length_append, List.map_append]
  exact hown4
theorem rtext_K {rb : Nat} {v : Value} {bs : Txt} {at_ : Nat} {bad : Int} {most : Nat} (hb : PlB M v bs) (hl : bs.length ≤ 1099511627776) (ha : at_ ≤ bs.length) (hm : most ≤ 1099511627776) : K Try.prog 27 [.pointer (some ⟨rb, 0, none⟩), .int .i64 (most : Int)] M ((rb, rdB v at_ bad) :: H) fun v' M' H' => M.le M' ∧ PlB M' v' (textR bs most at_ bad).1 ∧ H' = (rb, rdB v (textR bs most at_ bad).2.1 (textR bs most at_ bad).2.2) :: H := by
  refine K.enterK Try.func27 rfl rfl rfl ?_
  intro Q hNP hQ
  have hna := numRd_at (bs := bs) (most := most) (bad := bad) ha
  have hnl := numRd_le (bs := bs) (most := most) (at_ := at_) (bad := bad)
  have hmx : max (most : Int) 0 = (most : Int) := by omega
  unfold rdB
  (repeat' (first | (apply R.step; (apply Ok.move; exact rfl); exact rfl) | (apply R.step; (first | (apply Ok.convB; exact rfl; rw [hmx]; apply wu64; omega; omega)); exact rfl) | refine a_go ?_ | (with_reducible apply Fin.thenK; assumption) | (with_reducible (first | apply C.seqK | apply C.regionK); intro _ _) | (apply R.buildSlice0; exact rfl; intro bz) | (apply R.box; exact rfl; (simp only [Value.cells]; rfl); exact rfl; intro bx) | (apply R.alloc; (simp only [Value.cells]; rfl); exact rfl; intro ba) | (apply R.buildSlice; (exact a_prt); exact rfl; exact rfl; (exact a_fills); exact rfl; intro bl) | (refine a_sp ?_ ?_; (intro h; skip; rotate_left; intro h; skip; rotate_left)) | fail))
  rw [hmx]
  (apply R.call; (exact a_evs); exact rfl; exact rnum_K (most := most) hb hl ha; rintro _ M _ ⟨rfl, rfl, rfl⟩)
  have hT : textR bs most at_ bad = if (numRd bs most at_ bad).2.2 ≠ 0 then ([], (numRd bs most at_ bad).2) else
    if bs.length - (numRd bs most at_ bad).2.1 < (numRd bs most at_ bad).1 then ([], at_, 10) else
    ((bs.drop (numRd bs most at_ bad).2.1).take (numRd bs most at_ bad).1, (numRd bs most at_ bad).2.1 + (numRd bs most at_ bad).1, 0) := rfl
  generalize numRd bs most at_ bad = z at hna hnl hT
  obtain ⟨n, a1, b1⟩ := z
  dsimp only at hna hnl hT ⊢
  obtain ⟨A, c, rfl, h1, h2, h3⟩ := hb
  unfold rdB at hQ ⊢
  by_cases hb1 : b1 ≠ 0
  · rw [hT, if_pos hb1] at hQ
    (repeat' (first | (apply R.step; (apply Ok.move; exact rfl); exact rfl) | (apply R.step; (apply Ok.neIT; exact rfl; exact rfl; exact hb1); exact rfl) | refine a_go ?_ | (with_reducible apply Fin.thenK; assumption) | (with_reducible (first | apply C.seqK | apply C.regionK); intro _ _) | (apply R.buildSlice0; exact rfl; intro bz) | (apply R.box; exact rfl; (simp only [Value.cells]; rfl); exact rfl; intro bx) | (apply R.alloc; (simp only [Value.cells]; rfl); exact rfl; intro ba) | (apply R.buildSlice; (exact a_prt); exact rfl; exact rfl; (exact a_fills); exact rfl; intro bl) | (refine a_sp ?_ ?_; (intro h; skip; rotate_left; intro h; skip; rotate_left)) | fail))
    (apply Fin.returnA (H2 := (rb, .cells [.slice A bs.length c, .int .i64 ↑a1, .int .i64 b1].toArray 103 (0, 0)) :: H); assumption; (first | exact .inl rfl | exact .inr rfl); exact rfl; (exact a_res); (simp only [retv]; rfl); (exact a_arr))
    exact ⟨Mem.le_refl _, PlB.nil1, rfl⟩
  rw [if_neg hb1] at hT
  have hb0 : b1 = 0 := by omega
  subst hb0
  (repeat' (first | refine a_go ?_ | (with_reducible apply Fin.thenK; assumption) | (with_reducible (first | apply C.seqK | apply C.regionK); intro _ _) | (apply R.buildSlice0; exact rfl; intro bz) | (apply R.box; exact rfl; (simp only [Value.cells]; rfl); exact rfl; intro bx) | (apply R.alloc; (simp only [Value.cells]; rfl); exact rfl; intro ba) | (apply R.buildSlice; (exact a_prt); exact rfl; exact rfl; (exact a_fills); exact rfl; intro bl) | (refine a_sp ?_ ?_; (intro h; skip; rotate_left; intro h; skip; rotate_left)) | fail))
  (apply C.regionT (t := .free 0 (.free 1 (.free 2 (.free 3 (.free 4 (.free 5 (.free 6 (.free 7 (.free 8 (.free 9 (.free 10 (.free 11 (.free 12 .nil))))))))))))) (Hs := [(rb, .cells [.slice A bs.length c, .int .i64 ↑a1, .int .i64 0].toArray 103 (0, 0))]); exact Mix.h; (first | exact Arr.all _ | (exact a_arr) | ((try simp only [List.append_assoc, List.cons_append, List.nil_append, List.append_nil]); exact a_arr)); (exact a_np); kernel_rfl)
  have e1 : (bs.length : Int) - (a1 : Int) = ((bs.length - a1 : Nat) : Int) := by omega
  by_cases hlt : bs.length - a1 < n
  · rw [hT, if_pos hlt] at hQ
    (repeat' (first | (apply RT.step; exact rfl; intro _ _ _; (apply Ok.move; exact rfl); exact rfl) | (apply RT.step; exact rfl; intro _ _ _; (first | (apply Ok.subQ ((bs.length - a1 : Nat) : Int); exact rfl; exact rfl; exact e1; apply wi64; omega; omega) | (apply Ok.convB; exact rfl; apply wu64; omega; omega)); exact rfl) | ((first | (apply RT.step; exact rfl; intro _ _ _) | (apply RT.stepT; exact rfl; exact rfl; exact rfl; exact rfl; intro _ _ _)); (first | (apply Ok.ltTr; exact rfl; exact rfl; omega) | (apply Ok.ltF; exact rfl; exact rfl; omega) | (apply Ok.gtTr; exact rfl; exact rfl; omega) | (apply Ok.gtF; exact rfl; exact rfl; omega) | (apply Ok.geTr; exact rfl; exact rfl; omega) | (apply Ok.geF; exact rfl; exact rfl; omega) | (apply Ok.leTr; exact rfl; exact rfl; omega) | (apply Ok.leF; exact rfl; exact rfl; omega) | (apply Ok.neIT; exact rfl; exact rfl; omega) | (apply Ok.eqIF; exact rfl; exact rfl; omega)); exact rfl) | (first | (apply RT.step; exact rfl; intro _ _ _; (exact a_ok); exact rfl) | (apply RT.stepT; exact rfl; exact rfl; exact rfl; exact rfl; intro _ _ _; (exact a_ok); exact rfl) | (apply RT.stepF; exact rfl; exact rfl; exact rfl; exact rfl; exact rfl; exact rfl) | (apply RT.stepU; exact rfl; exact rfl; exact rfl; exact rfl; exact rfl) | (apply RT.one; apply OneT.effF; exact rfl; exact rfl; exact rfl; exact rfl; exact rfl; exact rfl) | (apply RT.one; apply OneT.effU; exact rfl; exact rfl; exact rfl; exact rfl; exact rfl))))
    apply RT.nil
    (repeat' (first | refine a_go ?_ | (with_reducible apply Fin.thenK; assumption) | (with_reducible (first | apply C.seqK | apply C.regionK); intro _ _) | (apply R.buildSlice0; exact rfl; intro bz) | (apply R.box; exact rfl; (simp only [Value.cells]; rfl); exact rfl; intro bx) | (apply R.alloc; (simp only [Value.cells]; rfl); exact rfl; intro ba) | (apply R.buildSlice; (exact a_prt); exact rfl; exact rfl; (exact a_fills); exact rfl; intro bl) | (refine a_sp ?_ ?_; (intro h; skip; rotate_left; intro h; skip; rotate_left)) | fail))
    (apply R.call; (exact a_evs); exact rfl; exact fault_K (at_ := at_) (bad := 0) (e := 10); rintro _ M _ ⟨rfl, rfl, rfl⟩)
    (repeat' (first | refine a_go ?_ | (with_reducible apply Fin.thenK; assumption) | (with_reducible (first | apply C.seqK | apply C.regionK); intro _ _) | (apply R.buildSlice0; exact rfl; intro bz) | (apply R.box; exact rfl; (simp only [Value.cells]; rfl); exact rfl; intro bx) | (apply R.alloc; (simp only [Value.cells]; rfl); exact rfl; intro ba) | (apply R.buildSlice; (exact a_prt); exact rfl; exact rfl; (exact a_fills); exact rfl; intro bl) | (refine a_sp ?_ ?_; (intro h; skip; rotate_left; intro h; skip; rotate_left)) | fail))
    (apply Fin.returnA (H2 := (rb, rdB (.slice A bs.length c) at_ 10) :: H); assumption; (first | exact .inl rfl | exact .inr rfl); exact rfl; (exact a_res); (simp only [retv]; rfl); (exact a_arr))
    exact ⟨Mem.le_refl _, PlB.nil1, rfl⟩
  · rw [hT, if_neg hlt] at hQ
    (repeat' (first | (apply RT.step; exact rfl; intro _ _ _; (apply Ok.move; exact rfl); exact rfl) | (apply RT.step; exact rfl; intro _ _ _; (first | (apply Ok.subQ ((bs.length - a1 : Nat) : Int); exact rfl; exact rfl; exact e1; apply wi64; omega; omega) | (apply Ok.convB; exact rfl; apply wu64; omega; omega)); exact rfl) | ((first | (apply RT.step; exact rfl; intro _ _ _) | (apply RT.stepT; exact rfl; exact rfl; exact rfl; exact rfl; intro _ _ _)); (first | (apply Ok.ltTr; exact rfl; exact rfl; omega) | (apply Ok.ltF; exact rfl; exact rfl; omega) | (apply Ok.gtTr; exact rfl; exact rfl; omega) | (apply Ok.gtF; exact rfl; exact rfl; omega) | (apply Ok.geTr; exact rfl; exact rfl; omega) | (apply Ok.geF; exact rfl; exact rfl; omega) | (apply Ok.leTr; exact rfl; exact rfl; omega) | (apply Ok.leF; exact rfl; exact rfl; omega) | (apply Ok.neIT; exact rfl; exact rfl; omega) | (apply Ok.eqIF; exact rfl; exact rfl; omega)); exact rfl) | (first | (apply RT.step; exact rfl; intro _ _ _; (exact a_ok); exact rfl) | (apply RT.stepT; exact rfl; exact rfl; exact rfl; exact rfl; intro _ _ _; (exact a_ok); exact rfl) | (apply RT.stepF; exact rfl; exact rfl; exact rfl; exact rfl; exact rfl; exact rfl) | (apply RT.stepU; exact rfl; exact rfl; exact rfl; exact rfl; exact rfl) | (apply RT.one; apply OneT.effF; exact rfl; exact rfl; exact rfl; exact rfl; exact rfl; exact rfl) | (apply RT.one; apply OneT.effU; exact rfl; exact rfl; exact rfl; exact rfl; exact rfl))))
    apply RT.nil
    (repeat' (first | (apply R.step; (apply Ok.move; exact rfl); exact rfl) | (apply R.step; (first | (apply Ok.convB; exact rfl; apply wi64; omega; omega) | (apply Ok.addQ ((a1 + n : Nat) : Int); exact rfl; exact rfl; omega; apply wi64; omega; omega)); exact rfl) | refine a_go ?_ | (with_reducible apply Fin.thenK; assumption) | (with_reducible (first | apply C.seqK | apply C.regionK); intro _ _) | (apply R.buildSlice0; exact rfl; intro bz) | (apply R.box; exact rfl; (simp only [Value.cells]; rfl); exact rfl; intro bx) | (apply R.alloc; (simp only [Value.cells]; rfl); exact rfl; intro ba) | (apply R.buildSlice; (exact a_prt); exact rfl; exact rfl; (exact a_fills); exact rfl; intro bl) | (refine a_sp ?_ ?_; (intro h; skip; rotate_left; intro h; skip; rotate_left)) | fail))
    (apply C.regionT (t := .free 1 (.free 2 (.free 3 (.free 4 (.free 5 (.free 6 (.free 7 (.free 8 (.free 9 (.free 10 (.free 11 (.free 12 (.free 13 (.free 14 (.free 15 (.free 16 (.one 0 (.one 17 (.free 18 .nil))))))))))))))))))) (Hs := [(rb, .cells [.slice A bs.length c, .int .i64 ↑(a1 + n), .int .i64 0].toArray 103 (0, 0))]); exact Mix.h; (first | exact Arr.all _ | (exact a_arr) | ((try simp only [List.append_assoc, List.cons_append, List.nil_append, List.append_nil]); exact a_arr)); (exact a_np); kernel_rfl)
    (repeat' (first | (apply RT.step; exact rfl; intro _ _ _; (apply Ok.move; exact rfl); exact rfl) | (apply RT.step; exact rfl; intro _ _ _; (first | (apply Ok.convB; exact rfl; apply wi64; omega; omega) | (apply Ok.subQ (a1 : Int); exact rfl; exact rfl; omega; apply wi64; omega; omega) | (apply Ok.sliceLoHi; exact rfl; exact rfl; exact rfl; omega; omega; omega)); exact rfl) | (first | (apply RT.step; exact rfl; intro _ _ _; (exact a_ok); exact rfl) | (apply RT.stepT; exact rfl; exact rfl; exact rfl; exact rfl; intro _ _ _; (exact a_ok); exact rfl) | (apply RT.stepF; exact rfl; exact rfl; exact rfl; exact rfl; exact rfl; exact rfl) | (apply RT.stepU; exact rfl; exact rfl; exact rfl; exact rfl; exact rfl) | (apply RT.one; apply OneT.effF; exact rfl; exact rfl; exact rfl; exact rfl; exact rfl; exact rfl) | (apply RT.one; apply OneT.effU; exact rfl; exact rfl; exact rfl; exact rfl; exact rfl))))
    (apply RT.one; apply OneT.eff; exact rfl; intro Kc hKc ops0)
    (apply R.buildSlice0; exact rfl; intro bz)
    (apply R.nil; apply Fin.kt (Hx := (bz, .cells #[] 5 (0, 0)) :: H) hKc; exact Mem.le_refl _; ((try simp only [List.append_assoc, List.cons_append, List.nil_append, List.append_nil]); exact a_arr))
    (apply RT.one; apply OneT.eff; exact rfl; intro Kc hKc ops0)
    have hdl : ((bs.drop a1).take n).length = n := by rw [List.length_take, List.length_drop]; omega
    obtain ⟨k1, hk1⟩ : ∃ k1, k1 = ((a1 + n : Nat) : Int) - (n : Int) := ⟨_, rfl⟩
    have hka : k1.toNat = a1 := by omega
    have hpt := h3.cutTake (l := k1.toNat) n h1
    rw [hka] at hpt
    rw [← hk1, hka]
    have e9 : ((a1 + n : Nat) : Int).toNat - a1 = n := by omega
    rw [e9]
    (apply R.append (news := ((bs.drop a1).take n).map bv) (k := n); exact rfl; exact rfl; exact Own.empty; (exact a_tk); exact Pl.rd hpt; (rw [List.length_map, hdl, Nat.mul_one]); exact bv_one _; omega; exact rfl; decide; decide; exact rfl; rintro v4 hp4 hown4)
    rw [List.nil_append, Nat.zero_add] at hown4
    obtain ⟨A4, c4, rfl, _, _⟩ := hown4.form
    have hown5 : Own 5 1 (.slice A4 n c4) ((bs.drop a1).take n).length (((bs.drop a1).take n).map bv) hp4 := by rw [hdl]; exact hown4
    apply R.arr (H2 := hp4 ++ ((rb, .cells [.slice A bs.length c, .int .i64 ↑(a1 + n), .int .i64 0].toArray 103 (0, 0)) :: H)) (by ((try simp only [List.append_assoc, List.cons_append, List.nil_append, List.append_nil]); exact a_arr))
    apply R.ice (Arr.all _)
    intro M2 hM2 hin2
    have hpl2 := hown5.plB hin2
    (apply R.nil; apply Fin.ktB (E := []) (Hx := H) hKc; exact hM2; ((try simp only [List.append_assoc, List.cons_append, List.nil_append, List.append_nil]); exact a_arr))
    (repeat' (first | (apply RT.step; exact rfl; intro _ _ _; (exact a_ok); exact rfl) | (apply RT.stepT; exact rfl; exact rfl; exact rfl; exact rfl; intro _ _ _; (exact a_ok); exact rfl) | (apply RT.stepF; exact rfl; exact rfl; exact rfl; exact rfl; exact rfl; exact rfl) | (apply RT.stepU; exact rfl; exact rfl; exact rfl; exact rfl; exact rfl) | (apply RT.one; apply OneT.effF; exact rfl; exact rfl; exact rfl; exact rfl; exact rfl; exact rfl) | (apply RT.one; apply OneT.effU; exact rfl; exact rfl; exact rfl; exact rfl; exact rfl)))
    apply RT.nil
    (repeat' (first | refine a_go ?_ | (with_reducible apply Fin.thenK; assumption) | (with_reducible (first | apply C.seqK | apply C.regionK); intro _ _) | (apply R.buildSlice0; exact rfl; intro bz) | (apply R.box; exact rfl; (simp only [Value.cells]; rfl); exact rfl; intro bx) | (apply R.alloc; (simp only [Value.cells]; rfl); exact rfl; intro ba) | (apply R.buildSlice; (exact a_prt); exact rfl; exact rfl; (exact a_fills); exact rfl; intro bl) | (refine a_sp ?_ ?_; (intro h; skip; rotate_left; intro h; skip; rotate_left)) | fail))
    (apply Fin.returnA (H2 := (rb, .cells [.slice A bs.length c, .int .i64 ↑(a1 + n), .int .i64 0].toArray 103 (0, 0)) :: H); assumption; (first | exact .inl rfl | exact .inr rfl); exact rfl; (exact a_res); (simp only [retv]; rfl); (exact a_arr))
    exact ⟨hM2, hpl2, rfl⟩
end Go.Sx
end
section
namespace Go.Sx
open Go Go.Proofs Go.RowKit
attribute [local irreducible] C R Fin K Own OwnT Rd Pl Ok KOf RetOk OpsOf RP KP Res NoPanic KV KE MapS ItS EntS FsO FsR RowD
variable {M M' : Mem} {H H1 H2 : Hp}
theorem rename_K {db : Nat} {d : Dk} {hp : Hp} {n t : Txt} (ho : DkO M db d hp) (hlen : d.ps.length ≤ 1000000) (htl : t.length ≤ 1099511627776) : K Try.prog 36 [.pointer (some ⟨db, 0, none⟩), str n, str t] M (hp ++ H) fun v' M' H' => v' = .int .i64 (renE d n t) ∧ M.le M' ∧ ∃ hp', DkO M' db (opD (renE d n t) d (.ren n t)) hp' ∧ H' = hp' ++ H := by
  refine K.enterK Try.func36 rfl rfl rfl ?_
  intro Q hNP hQ
  (repeat' (first | refine a_go ?_ | (with_reducible apply Fin.thenK; assumption) | (with_reducible (first | apply C.seqK | apply C.regionK); intro _ _) | (apply R.buildSlice0; exact rfl; intro bz) | (apply R.box; exact rfl; (simp only [Value.cells]; rfl); exact rfl; intro bx) | (apply R.alloc; (simp only [Value.cells]; rfl); exact rfl; intro ba) | (apply R.buildSlice; (exact a_prt); exact rfl; exact rfl; (exact a_fills); exact rfl; intro bl) | (refine a_sp ?_ ?_; (intro h; skip; rotate_left; intro h; skip; rotate_left)) | fail))
  (apply R.call; (exact a_evs); exact rfl); exact counts_KD ho; rintro _ M _ ⟨rfl, rfl, hp1, ho1, rfl, hdn⟩
  have hnn := ho.nodup
  have hok := ho.1
  clear ho
  by_cases hs : stopD d
  · rw [decide_eq_true hs]
    have hE : renE d n t = 3 := if_pos hs
    rw [hE] at hQ
    (repeat' (first | refine a_go ?_ | (with_reducible apply Fin.thenK; assumption) | (with_reducible (first | apply C.seqK | apply C.regionK); intro _ _) | (apply R.buildSlice0; exact rfl; intro bz) | (apply R.box; exact rfl; (simp only [Value.cells]; rfl); exact rfl; intro bx) | (apply R.alloc; (simp only [Value.cells]; rfl); exact rfl; intro ba) | (apply R.buildSlice; (exact a_prt); exact rfl; exact rfl; (exact a_fills); exact rfl; intro bl) | (refine a_sp ?_ ?_; (intro h; skip; rotate_left; intro h; skip; rotate_left)) | fail))
    (apply Fin.returnA (H2 := hp1 ++ H); assumption; (first | exact .inl rfl | exact .inr rfl); exact rfl; (exact a_res); (simp only [retv]; rfl); (exact a_arr))
    exact ⟨rfl, Mem.le_refl _, hp1, ho1, rfl⟩
  rw [decide_eq_false hs]
  obtain ⟨hok1, sb, nb, so, no, pv, hr, h1, h2, h3, rfl⟩ := ho1
  rw [cntD_now] at h2
  rw [hdn hs, cntD_room]
  unfold dkB
  obtain ⟨l, hm, hfr, hn⟩ := h2.use
  have hg := (hfr.get hn n).2
  (repeat' (first | (apply R.step; (apply Ok.move; exact rfl); exact rfl) | (apply R.step; (apply Ok.lookupS (ho := hm); exact rfl; exact rfl; exact a_mm); exact rfl) | refine a_go ?_ | (with_reducible apply Fin.thenK; assumption) | (with_reducible (first | apply C.seqK | apply C.regionK); intro _ _) | (apply R.buildSlice0; exact rfl; intro bz) | (apply R.box; exact rfl; (simp only [Value.cells]; rfl); exact rfl; intro bx) | (apply R.alloc; (simp only [Value.cells]; rfl); exact rfl; intro ba) | (apply R.buildSlice; (exact a_prt); exact rfl; exact rfl; (exact a_fills); exact rfl; intro bl) | (refine a_sp ?_ ?_; (intro h; skip; rotate_left; intro h; skip; rotate_left)) | fail))
  (apply R.call; (exact a_evs); exact rfl); exact named_K (by omega); rintro _ M _ ⟨rfl, rfl, rfl⟩
  cases hnm : namedB t with
  | false =>
    have hE : renE d n t = 1 := (if_neg hs).trans (if_pos hnm)
    rw [hE] at hQ
    (repeat' (first | refine a_go ?_ | (with_reducible apply Fin.thenK; assumption) | (with_reducible (first | apply C.seqK | apply C.regionK); intro _ _) | (apply R.buildSlice0; exact rfl; intro bz) | (apply R.box; exact rfl; (simp only [Value.cells]; rfl); exact rfl; intro bx) | (apply R.alloc; (simp only [Value.cells]; rfl); exact rfl; intro ba) | (apply R.buildSlice; (exact a_prt); exact rfl; exact rfl; (exact a_fills); exact rfl; intro bl) | (refine a_sp ?_ ?_; (intro h; skip; rotate_left; intro h; skip; rotate_left)) | fail))
    (apply Fin.returnA (H2 := (db, dkB d.room sb nb pv (cntD d).fuse false) :: (nb, no) :: (sb, so) :: (hr ++ H)); assumption; (first | exact .inl rfl | exact .inr rfl); exact rfl; (exact a_res); (simp only [retv]; rfl); (exact a_arr))
    exact ⟨rfl, Mem.le_refl _, _, DkO.no (sb := sb) (nb := nb) (by decide) hok1 hs h1 h2 h3, rfl⟩
  | true =>
    (repeat' (first | refine a_go ?_ | (with_reducible apply Fin.thenK; assumption) | (with_reducible (first | apply C.seqK | apply C.regionK); intro _ _) | (apply R.buildSlice0; exact rfl; intro bz) | (apply R.box; exact rfl; (simp only [Value.cells]; rfl); exact rfl; intro bx) | (apply R.alloc; (simp only [Value.cells]; rfl); exact rfl; intro ba) | (apply R.buildSlice; (exact a_prt); exact rfl; exact rfl; (exact a_fills); exact rfl; intro bl) | (refine a_sp ?_ ?_; (intro h; skip; rotate_left; intro h; skip; rotate_left)) | fail))
    · have h : (getS l n).isSome = false := by assumption
      have hE : renE d n t = 4 := (if_neg hs).trans ((if_neg (by rw [hnm]; decide)).trans (if_pos (is_none (by rw [← hg]; exact h))))
      rw [hE] at hQ
      (apply Fin.returnA (H2 := (db, dkB d.room sb nb pv (cntD d).fuse false) :: (nb, no) :: (sb, so) :: (hr ++ H)); assumption; (first | exact .inl rfl | exact .inr rfl); exact rfl; (exact a_res); (simp only [retv]; rfl); (exact a_arr))
      exact ⟨rfl, Mem.le_refl _, _, DkO.no (sb := sb) (nb := nb) (by decide) hok1 hs h1 h2 h3, rfl⟩
    have h : (getS l n).isSome = true := by assumption
    have hE : renE d n t = 0 := (if_neg hs).trans ((if_neg (by rw [hnm]; decide)).trans (if_neg (is_some (by rw [← hg]; exact h))))
    rw [hE] at hQ
    have hfit := ren_fit (n := n) (t := t) hnn hok.sum
    (apply R.call; (exact a_evs); exact rfl; (apply K.arr (h := put_K (db := db) (sb := sb) (nb := nb) (room := d.room) (fuse := (cntD d).fuse) (down := false) (H := (sb, so) :: H) (x := .ren n t) h2 h3 rfl hfit (by rw [cntD_ps]; exact hlen))); ((try simp only [List.append_assoc, List.cons_append, List.nil_append, List.append_nil]); exact a_arr); rintro _ M3 _ ⟨rfl, hM3, pv', hp', no', f1, f2, rfl⟩)
    (repeat' (first | refine a_go ?_ | (with_reducible apply Fin.thenK; assumption) | (with_reducible (first | apply C.seqK | apply C.regionK); intro _ _) | (apply R.buildSlice0; exact rfl; intro bz) | (apply R.box; exact rfl; (simp only [Value.cells]; rfl); exact rfl; intro bx) | (apply R.alloc; (simp only [Value.cells]; rfl); exact rfl; intro ba) | (apply R.buildSlice; (exact a_prt); exact rfl; exact rfl; (exact a_fills); exact rfl; intro bl) | (refine a_sp ?_ ?_; (intro h; skip; rotate_left; intro h; skip; rotate_left)) | fail))
    (apply Fin.returnA (H2 := (db, dkB d.room sb nb pv' (cntD d).fuse false) :: (nb, no') :: (sb, so) :: (hp' ++ H)); assumption; (first | exact .inl rfl | exact .inr rfl); exact rfl; (exact a_res); (simp only [retv]; rfl); (exact a_arr))
    exact ⟨rfl, hM3, _, DkO.op (sb := sb) (nb := nb) hok hs hfit (h1.mono hM3) f1 f2, rfl⟩
end Go.Sx
end
section
namespace Go.Sx
open Go Go.Proofs Go.RowKit
attribute [local irreducible] C R Fin K Own OwnT Rd Pl Ok KOf RetOk OpsOf RP KP Res NoPanic KV KE MapS ItS EntS FsO FsR RowD PlD DkO RT KT OneT RS KS OneS
variable {M M' : Mem} {H H1 H2 : Hp}
def pfile : Txt := [115, 110, 97, 112]
def pnew : Txt := [115, 110, 97, 112, 46, 110, 101, 119]
def snC (i t : Nat) (c : Int) (v : Value) : List Value := [.int .u64 (i : Int), .int .u64 (t : Int), .int .i64 c, v]
def rgtP (i t : Nat) (c : Int) (n : Nat) : Prop := 0 < c ∧ c ≤ 254 ∧ c % 2 = 0 ∧ (1 ≤ i ∧ i ≤ 72057594037927935) ∧ (1 ≤ t ∧ t ≤ 72057594037927935) ∧ n ≤ 32768
instance (i t : Nat) (c : Int) (n : Nat) : Decidable (rgtP i t c n) := by unfold rgtP; infer_instance
theorem pnumber_K {n : Nat} : K Try.prog 37 [.int .u64 (n : Int)] M H fun v' M' H' => v' = .bool (decide (1 ≤ n ∧ n ≤ 72057594037927935)) ∧ M' = M ∧ H' = H := by
  refine K.enterK Try.func37 rfl rfl rfl ?_
  intro Q hNP hQ
  by_cases h1 : 1 ≤ n
  · by_cases h2 : n ≤ 72057594037927935
    · rw [decide_eq_true ⟨h1, h2⟩] at hQ
      (repeat' (first | (apply R.step; (apply Ok.move; exact rfl); exact rfl) | (apply R.step; (first | (apply Ok.ltTr; exact rfl; exact rfl; omega) | (apply Ok.ltF; exact rfl; exact rfl; omega) | (apply Ok.gtTr; exact rfl; exact rfl; omega) | (apply Ok.gtF; exact rfl; exact rfl; omega) | (apply Ok.geTr; exact rfl; exact rfl; omega) | (apply Ok.geF; exact rfl; exact rfl; omega) | (apply Ok.leTr; exact rfl; exact rfl; omega) | (apply Ok.leF; exact rfl; exact rfl; omega) | (apply Ok.neIT; exact rfl; exact rfl; omega) | (apply Ok.eqIF; exact rfl; exact rfl; omega)); exact rfl) | refine a_go ?_ | (with_reducible apply Fin.thenK; assumption) | (with_reducible (first | apply C.seqK | apply C.regionK); intro _ _) | (apply R.buildSlice0; exact rfl; intro bz) | (apply R.box; exact rfl; (simp only [Value.cells]; rfl); exact rfl; intro bx) | (apply R.alloc; (simp only [Value.cells]; rfl); exact rfl; intro ba) | (apply R.buildSlice; (exact a_prt); exact rfl; exact rfl; (exact a_fills); exact rfl; intro bl) | (refine a_sp ?_ ?_; (intro h; skip; rotate_left; intro h; skip; rotate_left)) | fail))
      (apply Fin.returnA (H2 := H); assumption; (first | exact .inl rfl | exact .inr rfl); exact rfl; (exact a_res); (simp only [retv]; rfl); (exact a_arr))
      exact ⟨rfl, rfl, rfl⟩
    · rw [decide_eq_false (fun h => h2 h.2)] at hQ
      (repeat' (first | (apply R.step; (apply Ok.move; exact rfl); exact rfl) | (apply R.step; (first | (apply Ok.ltTr; exact rfl; exact rfl; omega) | (apply Ok.ltF; exact rfl; exact rfl; omega) | (apply Ok.gtTr; exact rfl; exact rfl; omega) | (apply Ok.gtF; exact rfl; exact rfl; omega) | (apply Ok.geTr; exact rfl; exact rfl; omega) | (apply Ok.geF; exact rfl; exact rfl; omega) | (apply Ok.leTr; exact rfl; exact rfl; omega) | (apply Ok.leF; exact rfl; exact rfl; omega) | (apply Ok.neIT; exact rfl; exact rfl; omega) | (apply Ok.eqIF; exact rfl; exact rfl; omega)); exact rfl) | refine a_go ?_ | (with_reducible apply Fin.thenK; assumption) | (with_reducible (first | apply C.seqK | apply C.regionK); intro _ _) | (apply R.buildSlice0; exact rfl; intro bz) | (apply R.box; exact rfl; (simp only [Value.cells]; rfl); exact rfl; intro bx) | (apply R.alloc; (simp only [Value.cells]; rfl); exact rfl; intro ba) | (apply R.buildSlice; (exact a_prt); exact rfl; exact rfl; (exact a_fills); exact rfl; intro bl) | (refine a_sp ?_ ?_; (intro h; skip; rotate_left; intro h; skip; rotate_left)) | fail))
      (apply Fin.returnA (H2 := H); assumption; (first | exact .inl rfl | exact .inr rfl); exact rfl; (exact a_res); (simp only [retv]; rfl); (exact a_arr))
      exact ⟨rfl, rfl, rfl⟩
  · rw [decide_eq_false (fun h => h1 h.1)] at hQ
    (repeat' (first | (apply R.step; (apply Ok.move; exact rfl); exact rfl) | (apply R.step; (first | (apply Ok.ltTr; exact rfl; exact rfl; omega) | (apply Ok.ltF; exact rfl; exact rfl; omega) | (apply Ok.gtTr; exact rfl; exact rfl; omega) | (apply Ok.gtF; exact rfl; exact rfl; omega) | (apply Ok.geTr; exact rfl; exact rfl; omega) | (apply Ok.geF; exact rfl; exact rfl; omega) | (apply Ok.leTr; exact rfl; exact rfl; omega) | (apply Ok.leF; exact rfl; exact rfl; omega) | (apply Ok.neIT; exact rfl; exact rfl; omega) | (apply Ok.eqIF; exact rfl; exact rfl; omega)); exact rfl) | refine a_go ?_ | (with_reducible apply Fin.thenK; assumption) | (with_reducible (first | apply C.seqK | apply C.regionK); intro _ _) | (apply R.buildSlice0; exact rfl; intro bz) | (apply R.box; exact rfl; (simp only [Value.cells]; rfl); exact rfl; intro bx) | (apply R.alloc; (simp only [Value.cells]; rfl); exact rfl; intro ba) | (apply R.buildSlice; (exact a_prt); exact rfl; exact rfl; (exact a_fills); exact rfl; intro bl) | (refine a_sp ?_ ?_; (intro h; skip; rotate_left; intro h; skip; rotate_left)) | fail))
    (apply Fin.returnA (H2 := H); assumption; (first | exact .inl rfl | exact .inr rfl); exact rfl; (exact a_res); (simp only [retv]; rfl); (exact a_arr))
    exact ⟨rfl, rfl, rfl⟩
theorem pright_K {i t n cp : Nat} {c : Int} {A : Option Addr} : K Try.prog 11 [.agg (snC i t c (.slice A n cp)).toArray] M H fun v' M' H' => v' = .bool (decide (rgtP i t c n)) ∧ M' = M ∧ H' = H := by
  refine K.enterK Try.func11 rfl rfl rfl ?_
  intro Q hNP hQ
  unfold snC
  by_cases h1 : 0 < c
  rotate_left
  · rw [decide_eq_false (fun h => by (obtain ⟨g1, g2, g3, ⟨g4, g5⟩, ⟨g6, g7⟩, g8⟩ := h; omega))] at hQ
    (repeat' (first | (apply R.step; (apply Ok.move; exact rfl); exact rfl) | (apply R.step; (first | (first | (apply Ok.ltTr; exact rfl; exact rfl; omega) | (apply Ok.ltF; exact rfl; exact rfl; omega) | (apply Ok.gtTr; exact rfl; exact rfl; omega) | (apply Ok.gtF; exact rfl; exact rfl; omega) | (apply Ok.geTr; exact rfl; exact rfl; omega) | (apply Ok.geF; exact rfl; exact rfl; omega) | (apply Ok.leTr; exact rfl; exact rfl; omega) | (apply Ok.leF; exact rfl; exact rfl; omega) | (apply Ok.neIT; exact rfl; exact rfl; omega) | (apply Ok.eqIF; exact rfl; exact rfl; omega)) | (apply Ok.and1; exact rfl; exact rfl)); exact rfl) | refine a_go ?_ | (with_reducible apply Fin.thenK; assumption) | (with_reducible (first | apply C.seqK | apply C.regionK); intro _ _) | (apply R.buildSlice0; exact rfl; intro bz) | (apply R.box; exact rfl; (simp only [Value.cells]; rfl); exact rfl; intro bx) | (apply R.alloc; (simp only [Value.cells]; rfl); exact rfl; intro ba) | (apply R.buildSlice; (exact a_prt); exact rfl; exact rfl; (exact a_fills); exact rfl; intro bl) | (refine a_sp ?_ ?_; (intro h; skip; rotate_left; intro h; skip; rotate_left)) | fail))
    all_goals (first | (exfalso; omega) | skip)
    (apply Fin.returnA (H2 := H); assumption; (first | exact .inl rfl | exact .inr rfl); exact rfl; (exact a_res); (simp only [retv]; rfl); (exact a_arr))
    exact ⟨rfl, rfl, rfl⟩
  by_cases h2 : c ≤ 254
  rotate_left
  · rw [decide_eq_false (fun h => by (obtain ⟨g1, g2, g3, ⟨g4, g5⟩, ⟨g6, g7⟩, g8⟩ := h; omega))] at hQ
    (repeat' (first | (apply R.step; (apply Ok.move; exact rfl); exact rfl) | (apply R.step; (first | (first | (apply Ok.ltTr; exact rfl; exact rfl; omega) | (apply Ok.ltF; exact rfl; exact rfl; omega) | (apply Ok.gtTr; exact rfl; exact rfl; omega) | (apply Ok.gtF; exact rfl; exact rfl; omega) | (apply Ok.geTr; exact rfl; exact rfl; omega) | (apply Ok.geF; exact rfl; exact rfl; omega) | (apply Ok.leTr; exact rfl; exact rfl; omega) | (apply Ok.leF; exact rfl; exact rfl; omega) | (apply Ok.neIT; exact rfl; exact rfl; omega) | (apply Ok.eqIF; exact rfl; exact rfl; omega)) | (apply Ok.and1; exact rfl; exact rfl)); exact rfl) | refine a_go ?_ | (with_reducible apply Fin.thenK; assumption) | (with_reducible (first | apply C.seqK | apply C.regionK); intro _ _) | (apply R.buildSlice0; exact rfl; intro bz) | (apply R.box; exact rfl; (simp only [Value.cells]; rfl); exact rfl; intro bx) | (apply R.alloc; (simp only [Value.cells]; rfl); exact rfl; intro ba) | (apply R.buildSlice; (exact a_prt); exact rfl; exact rfl; (exact a_fills); exact rfl; intro bl) | (refine a_sp ?_ ?_; (intro h; skip; rotate_left; intro h; skip; rotate_left)) | fail))
    all_goals (first | (exfalso; omega) | skip)
    (apply Fin.returnA (H2 := H); assumption; (first | exact .inl rfl | exact .inr rfl); exact rfl; (exact a_res); (simp only [retv]; rfl); (exact a_arr))
    exact ⟨rfl, rfl, rfl⟩
  by_cases h3 : c % 2 = 0
  rotate_left
  · rw [decide_eq_false (fun h => by (obtain ⟨g1, g2, g3, ⟨g4, g5⟩, ⟨g6, g7⟩, g8⟩ := h; omega))] at hQ
    (repeat' (first | (apply R.step; (apply Ok.move; exact rfl); exact rfl) | (apply R.step; (first | (first | (apply Ok.ltTr; exact rfl; exact rfl; omega) | (apply Ok.ltF; exact rfl; exact rfl; omega) | (apply Ok.gtTr; exact rfl; exact rfl; omega) | (apply Ok.gtF; exact rfl; exact rfl; omega) | (apply Ok.geTr; exact rfl; exact rfl; omega) | (apply Ok.geF; exact rfl; exact rfl; omega) | (apply Ok.leTr; exact rfl; exact rfl; omega) | (apply Ok.leF; exact rfl; exact rfl; omega) | (apply Ok.neIT; exact rfl; exact rfl; omega) | (apply Ok.eqIF; exact rfl; exact rfl; omega)) | (apply Ok.and1; exact rfl; exact rfl)); exact rfl) | refine a_go ?_ | (with_reducible apply Fin.thenK; assumption) | (with_reducible (first | apply C.seqK | apply C.regionK); intro _ _) | (apply R.buildSlice0; exact rfl; intro bz) | (apply R.box; exact rfl; (simp only [Value.cells]; rfl); exact rfl; intro bx) | (apply R.alloc; (simp only [Value.cells]; rfl); exact rfl; intro ba) | (apply R.buildSlice; (exact a_prt); exact rfl; exact rfl; (exact a_fills); exact rfl; intro bl) | (refine a_sp ?_ ?_; (intro h; skip; rotate_left; intro h; skip; rotate_left)) | fail))
    all_goals (first | (exfalso; omega) | skip)
    (apply Fin.returnA (H2 := H); assumption; (first | exact .inl rfl | exact .inr rfl); exact rfl; (exact a_res); (simp only [retv]; rfl); (exact a_arr))
    exact ⟨rfl, rfl, rfl⟩
  by_cases h4 : 1 ≤ i ∧ i ≤ 72057594037927935
  rotate_left
  · rw [decide_eq_false (fun h => by (obtain ⟨g1, g2, g3, ⟨g4, g5⟩, ⟨g6, g7⟩, g8⟩ := h; omega))] at hQ
    (repeat' (first | (apply R.step; (apply Ok.move; exact rfl); exact rfl) | (apply R.step; (first | (first | (apply Ok.ltTr; exact rfl; exact rfl; omega) | (apply Ok.ltF; exact rfl; exact rfl; omega) | (apply Ok.gtTr; exact rfl; exact rfl; omega) | (apply Ok.gtF; exact rfl; exact rfl; omega) | (apply Ok.geTr; exact rfl; exact rfl; omega) | (apply Ok.geF; exact rfl; exact rfl; omega) | (apply Ok.leTr; exact rfl; exact rfl; omega) | (apply Ok.leF; exact rfl; exact rfl; omega) | (apply Ok.neIT; exact rfl; exact rfl; omega) | (apply Ok.eqIF; exact rfl; exact rfl; omega)) | (apply Ok.and1; exact rfl; exact rfl)); exact rfl) | refine a_go ?_ | (with_reducible apply Fin.thenK; assumption) | (with_reducible (first | apply C.seqK | apply C.regionK); intro _ _) | (apply R.buildSlice0; exact rfl; intro bz) | (apply R.box; exact rfl; (simp only [Value.cells]; rfl); exact rfl; intro bx) | (apply R.alloc; (simp only [Value.cells]; rfl); exact rfl; intro ba) | (apply R.buildSlice; (exact a_prt); exact rfl; exact rfl; (exact a_fills); exact rfl; intro bl) | (refine a_sp ?_ ?_; (intro h; skip; rotate_left; intro h; skip; rotate_left)) | fail))
    all_goals (first | (exfalso; omega) | skip)
    (apply R.call; (exact a_evs); exact rfl; exact pnumber_K (n := i); rintro _ M _ ⟨rfl, rfl, rfl⟩)
    rw [decide_eq_false h4]
    (repeat' (first | (apply R.step; (apply Ok.move; exact rfl); exact rfl) | (apply R.step; (first | (first | (apply Ok.ltTr; exact rfl; exact rfl; omega) | (apply Ok.ltF; exact rfl; exact rfl; omega) | (apply Ok.gtTr; exact rfl; exact rfl; omega) | (apply Ok.gtF; exact rfl; exact rfl; omega) | (apply Ok.geTr; exact rfl; exact rfl; omega) | (apply Ok.geF; exact rfl; exact rfl; omega) | (apply Ok.leTr; exact rfl; exact rfl; omega) | (apply Ok.leF; exact rfl; exact rfl; omega) | (apply Ok.neIT; exact rfl; exact rfl; omega) | (apply Ok.eqIF; exact rfl; exact rfl; omega)) | (apply Ok.and1; exact rfl; exact rfl)); exact rfl) | refine a_go ?_ | (with_reducible apply Fin.thenK; assumption) | (with_reducible (first | apply C.seqK | apply C.regionK); intro _ _) | (apply R.buildSlice0; exact rfl; intro bz) | (apply R.box; exact rfl; (simp only [Value.cells]; rfl); exact rfl; intro bx) | (apply R.alloc; (simp only [Value.cells]; rfl); exact rfl; intro ba) | (apply R.buildSlice; (exact a_prt); exact rfl; exact rfl; (exact a_fills); exact rfl; intro bl) | (refine a_sp ?_ ?_; (intro h; skip; rotate_left; intro h; skip; rotate_left)) | fail))
    all_goals (first | (exfalso; omega) | skip)
    (apply Fin.returnA (H2 := H); assumption; (first | exact .inl rfl | exact .inr rfl); exact rfl; (exact a_res); (simp only [retv]; rfl); (exact a_arr))
    exact ⟨rfl, rfl, rfl⟩
  by_cases h5 : 1 ≤ t ∧ t ≤ 72057594037927935
  rotate_left
  · rw [decide_eq_false (fun h => by (obtain ⟨g1, g2, g3, ⟨g4, g5⟩, ⟨g6, g7⟩, g8⟩ := h; omega))] at hQ
    (repeat' (first | (apply R.step; (apply Ok.move; exact rfl); exact rfl) | (apply R.step; (first | (first | (apply Ok.ltTr; exact rfl; exact rfl; omega) | (apply Ok.ltF; exact rfl; exact rfl; omega) | (apply Ok.gtTr; exact rfl; exact rfl; omega) | (apply Ok.gtF; exact rfl; exact rfl; omega) | (apply Ok.geTr; exact rfl; exact rfl; omega) | (apply Ok.geF; exact rfl; exact rfl; omega) | (apply Ok.leTr; exact rfl; exact rfl; omega) | (apply Ok.leF; exact rfl; exact rfl; omega) | (apply Ok.neIT; exact rfl; exact rfl; omega) | (apply Ok.eqIF; exact rfl; exact rfl; omega)) | (apply Ok.and1; exact rfl; exact rfl)); exact rfl) | refine a_go ?_ | (with_reducible apply Fin.thenK; assumption) | (with_reducible (first | apply C.seqK | apply C.regionK); intro _ _) | (apply R.buildSlice0; exact rfl; intro bz) | (apply R.box; exact rfl; (simp only [Value.cells]; rfl); exact rfl; intro bx) | (apply R.alloc; (simp only [Value.cells]; rfl); exact rfl; intro ba) | (apply R.buildSlice; (exact a_prt); exact rfl; exact rfl; (exact a_fills); exact rfl; intro bl) | (refine a_sp ?_ ?_; (intro h; skip; rotate_left; intro h; skip; rotate_left)) | fail))
    all_goals (first | (exfalso; omega) | skip)
    (apply R.call; (exact a_evs); exact rfl; exact pnumber_K (n := i); rintro _ M _ ⟨rfl, rfl, rfl⟩)
    rw [decide_eq_true h4]
    (repeat' (first | (apply R.step; (apply Ok.move; exact rfl); exact rfl) | (apply R.step; (first | (first | (apply Ok.ltTr; exact rfl; exact rfl; omega) | (apply Ok.ltF; exact rfl; exact rfl; omega) | (apply Ok.gtTr; exact rfl; exact rfl; omega) | (apply Ok.gtF; exact rfl; exact rfl; omega) | (apply Ok.geTr; exact rfl; exact rfl; omega) | (apply Ok.geF; exact rfl; exact rfl; omega) | (apply Ok.leTr; exact rfl; exact rfl; omega) | (apply Ok.leF; exact rfl; exact rfl; omega) | (apply Ok.neIT; exact rfl; exact rfl; omega) | (apply Ok.eqIF; exact rfl; exact rfl; omega)) | (apply Ok.and1; exact rfl; exact rfl)); exact rfl) | refine a_go ?_ | (with_reducible apply Fin.thenK; assumption) | (with_reducible (first | apply C.seqK | apply C.regionK); intro _ _) | (apply R.buildSlice0; exact rfl; intro bz) | (apply R.box; exact rfl; (simp only [Value.cells]; rfl); exact rfl; intro bx) | (apply R.alloc; (simp only [Value.cells]; rfl); exact rfl; intro ba) | (apply R.buildSlice; (exact a_prt); exact rfl; exact rfl; (exact a_fills); exact rfl; intro bl) | (refine a_sp ?_ ?_; (intro h; skip; rotate_left; intro h; skip; rotate_left)) | fail))
    all_goals (first | (exfalso; omega) | skip)
    (apply R.call; (exact a_evs); exact rfl; exact pnumber_K (n := t); rintro _ M _ ⟨rfl, rfl, rfl⟩)
    rw [decide_eq_false h5]
    (repeat' (first | (apply R.step; (apply Ok.move; exact rfl); exact rfl) | (apply R.step; (first | (first | (apply Ok.ltTr; exact rfl; exact rfl; omega) | (apply Ok.ltF; exact rfl; exact rfl; omega) | (apply Ok.gtTr; exact rfl; exact rfl; omega) | (apply Ok.gtF; exact rfl; exact rfl; omega) | (apply Ok.geTr; exact rfl; exact rfl; omega) | (apply Ok.geF; exact rfl; exact rfl; omega) | (apply Ok.leTr; exact rfl; exact rfl; omega) | (apply Ok.leF; exact rfl; exact rfl; omega) | (apply Ok.neIT; exact rfl; exact rfl; omega) | (apply Ok.eqIF; exact rfl; exact rfl; omega)) | (apply Ok.and1; exact rfl; exact rfl)); exact rfl) | refine a_go ?_ | (with_reducible apply Fin.thenK; assumption) | (with_reducible (first | apply C.seqK | apply C.regionK); intro _ _) | (apply R.buildSlice0; exact rfl; intro bz) | (apply R.box; exact rfl; (simp only [Value.cells]; rfl); exact rfl; intro bx) | (apply R.alloc; (simp only [Value.cells]; rfl); exact rfl; intro ba) | (apply R.buildSlice; (exact a_prt); exact rfl; exact rfl; (exact a_fills); exact rfl; intro bl) | (refine a_sp ?_ ?_; (intro h; skip; rotate_left; intro h; skip; rotate_left)) | fail))
    all_goals (first | (exfalso; omega) | skip)
    (apply Fin.returnA (H2 := H); assumption; (first | exact .inl rfl | exact .inr rfl); exact rfl; (exact a_res); (simp only [retv]; rfl); (exact a_arr))
    exact ⟨rfl, rfl, rfl⟩
  by_cases h6 : n ≤ 32768
  rotate_left
  · rw [decide_eq_false (fun h => by (obtain ⟨g1, g2, g3, ⟨g4, g5⟩, ⟨g6, g7⟩, g8⟩ := h; omega))] at hQ
    (repeat' (first | (apply R.step; (apply Ok.move; exact rfl); exact rfl) | (apply R.step; (first | (first | (apply Ok.ltTr; exact rfl; exact rfl; omega) | (apply Ok.ltF; exact rfl; exact rfl; omega) | (apply Ok.gtTr; exact rfl; exact rfl; omega) | (apply Ok.gtF; exact rfl; exact rfl; omega) | (apply Ok.geTr; exact rfl; exact rfl; omega) | (apply Ok.geF; exact rfl; exact rfl; omega) | (apply Ok.leTr; exact rfl; exact rfl; omega) | (apply Ok.leF; exact rfl; exact rfl; omega) | (apply Ok.neIT; exact rfl; exact rfl; omega) | (apply Ok.eqIF; exact rfl; exact rfl; omega)) | (apply Ok.and1; exact rfl; exact rfl)); exact rfl) | refine a_go ?_ | (with_reducible apply Fin.thenK; assumption) | (with_reducible (first | apply C.seqK | apply C.regionK); intro _ _) | (apply R.buildSlice0; exact rfl; intro bz) | (apply R.box; exact rfl; (simp only [Value.cells]; rfl); exact rfl; intro bx) | (apply R.alloc; (simp only [Value.cells]; rfl); exact rfl; intro ba) | (apply R.buildSlice; (exact a_prt); exact rfl; exact rfl; (exact a_fills); exact rfl; intro bl) | (refine a_sp ?_ ?_; (intro h; skip; rotate_left; intro h; skip; rotate_left)) | fail))
    all_goals (first | (exfalso; omega) | skip)
    (apply R.call; (exact a_evs); exact rfl; exact pnumber_K (n := i); rintro _ M _ ⟨rfl, rfl, rfl⟩)
    rw [decide_eq_true h4]
    (repeat' (first | (apply R.step; (apply Ok.move; exact rfl); exact rfl) | (apply R.step; (first | (first | (apply Ok.ltTr; exact rfl; exact rfl; omega) | (apply Ok.ltF; exact rfl; exact rfl; omega) | (apply Ok.gtTr; exact rfl; exact rfl; omega) | (apply Ok.gtF; exact rfl; exact rfl; omega) | (apply Ok.geTr; exact rfl; exact rfl; omega) | (apply Ok.geF; exact rfl; exact rfl; omega) | (apply Ok.leTr; exact rfl; exact rfl; omega) | (apply Ok.leF; exact rfl; exact rfl; omega) | (apply Ok.neIT; exact rfl; exact rfl; omega) | (apply Ok.eqIF; exact rfl; exact rfl; omega)) | (apply Ok.and1; exact rfl; exact rfl)); exact rfl) | refine a_go ?_ | (with_reducible apply Fin.thenK; assumption) | (with_reducible (first | apply C.seqK | apply C.regionK); intro _ _) | (apply R.buildSlice0; exact rfl; intro bz) | (apply R.box; exact rfl; (simp only [Value.cells]; rfl); exact rfl; intro bx) | (apply R.alloc; (simp only [Value.cells]; rfl); exact rfl; intro ba) | (apply R.buildSlice; (exact a_prt); exact rfl; exact rfl; (exact a_fills); exact rfl; intro bl) | (refine a_sp ?_ ?_; (intro h; skip; rotate_left; intro h; skip; rotate_left)) | fail))
    all_goals (first | (exfalso; omega) | skip)
    (apply R.call; (exact a_evs); exact rfl; exact pnumber_K (n := t); rintro _ M _ ⟨rfl, rfl, rfl⟩)
    rw [decide_eq_true h5]
    (repeat' (first | (apply R.step; (apply Ok.move; exact rfl); exact rfl) | (apply R.step; (first | (first | (apply Ok.ltTr; exact rfl; exact rfl; omega) | (apply Ok.ltF; exact rfl; exact rfl; omega) | (apply Ok.gtTr; exact rfl; exact rfl; omega) | (apply Ok.gtF; exact rfl; exact rfl; omega) | (apply Ok.geTr; exact rfl; exact rfl; omega) | (apply Ok.geF; exact rfl; exact rfl; omega) | (apply Ok.leTr; exact rfl; exact rfl; omega) | (apply Ok.leF; exact rfl; exact rfl; omega) | (apply Ok.neIT; exact rfl; exact rfl; omega) | (apply Ok.eqIF; exact rfl; exact rfl; omega)) | (apply Ok.and1; exact rfl; exact rfl)); exact rfl) | refine a_go ?_ | (with_reducible apply Fin.thenK; assumption) | (with_reducible (first | apply C.seqK | apply C.regionK); intro _ _) | (apply R.buildSlice0; exact rfl; intro bz) | (apply R.box; exact rfl; (simp only [Value.cells]; rfl); exact rfl; intro bx) | (apply R.alloc; (simp only [Value.cells]; rfl); exact rfl; intro ba) | (apply R.buildSlice; (exact a_prt); exact rfl; exact rfl; (exact a_fills); exact rfl; intro bl) | (refine a_sp ?_ ?_; (intro h; skip; rotate_left; intro h; skip; rotate_left)) | fail))
    all_goals (first | (exfalso; omega) | skip)
    (apply Fin.returnA (H2 := H); assumption; (first | exact .inl rfl | exact .inr rfl); exact rfl; (exact a_res); (simp only [retv]; rfl); (exact a_arr))
    exact ⟨rfl, rfl, rfl⟩
  rw [decide_eq_true ⟨h1, h2, h3, h4, h5, h6⟩] at hQ
  (repeat' (first | (apply R.step; (apply Ok.move; exact rfl); exact rfl) | (apply R.step; (first | (first | (apply Ok.ltTr; exact rfl; exact rfl; omega) | (apply Ok.ltF; exact rfl; exact rfl; omega) | (apply Ok.gtTr; exact rfl; exact rfl; omega) | (apply Ok.gtF; exact rfl; exact rfl; omega) | (apply Ok.geTr; exact rfl; exact rfl; omega) | (apply Ok.geF; exact rfl; exact rfl; omega) | (apply Ok.leTr; exact rfl; exact rfl; omega) | (apply Ok.leF; exact rfl; exact rfl; omega) | (apply Ok.neIT; exact rfl; exact rfl; omega) | (apply Ok.eqIF; exact rfl; exact rfl; omega)) | (apply Ok.and1; exact rfl; exact rfl)); exact rfl) | refine a_go ?_ | (with_reducible apply Fin.thenK; assumption) | (with_reducible (first | apply C.seqK | apply C.regionK); intro _ _) | (apply R.buildSlice0; exact rfl; intro bz) | (apply R.box; exact rfl; (simp only [Value.cells]; rfl); exact rfl; intro bx) | (apply R.alloc; (simp only [Value.cells]; rfl); exact rfl; intro ba) | (apply R.buildSlice; (exact a_prt); exact rfl; exact rfl; (exact a_fills); exact rfl; intro bl) | (refine a_sp ?_ ?_; (intro h; skip; rotate_left; intro h; skip; rotate_left)) | fail))
  all_goals (first | (exfalso; omega) | skip)
  (apply R.call; (exact a_evs); exact rfl; exact pnumber_K (n := i); rintro _ M _ ⟨rfl, rfl, rfl⟩)
  rw [decide_eq_true h4]
  (repeat' (first | (apply R.step; (apply Ok.move; exact rfl); exact rfl) | (apply R.step; (first | (first | (apply Ok.ltTr; exact rfl; exact rfl; omega) | (apply Ok.ltF; exact rfl; exact rfl; omega) | (apply Ok.gtTr; exact rfl; exact rfl; omega) | (apply Ok.gtF; exact rfl; exact rfl; omega) | (apply Ok.geTr; exact rfl; exact rfl; omega) | (apply Ok.geF; exact rfl; exact rfl; omega) | (apply Ok.leTr; exact rfl; exact rfl; omega) | (apply Ok.leF; exact rfl; exact rfl; omega) | (apply Ok.neIT; exact rfl; exact rfl; omega) | (apply Ok.eqIF; exact rfl; exact rfl; omega)) | (apply Ok.and1; exact rfl; exact rfl)); exact rfl) | refine a_go ?_ | (with_reducible apply Fin.thenK; assumption) | (with_reducible (first | apply C.seqK | apply C.regionK); intro _ _) | (apply R.buildSlice0; exact rfl; intro bz) | (apply R.box; exact rfl; (simp only [Value.cells]; rfl); exact rfl; intro bx) | (apply R.alloc; (simp only [Value.cells]; rfl); exact rfl; intro ba) | (apply R.buildSlice; (exact a_prt); exact rfl; exact rfl; (exact a_fills); exact rfl; intro bl) | (refine a_sp ?_ ?_; (intro h; skip; rotate_left; intro h; skip; rotate_left)) | fail))
  all_goals (first | (exfalso; omega) | skip)
  (apply R.call; (exact a_evs); exact rfl; exact pnumber_K (n := t); rintro _ M _ ⟨rfl, rfl, rfl⟩)
  rw [decide_eq_true h5]
  (repeat' (first | (apply R.step; (apply Ok.move; exact rfl); exact rfl) | (apply R.step; (first | (first | (apply Ok.ltTr; exact rfl; exact rfl; omega) | (apply Ok.ltF; exact rfl; exact rfl; omega) | (apply Ok.gtTr; exact rfl; exact rfl; omega) | (apply Ok.gtF; exact rfl; exact rfl; omega) | (apply Ok.geTr; exact rfl; exact rfl; omega) | (apply Ok.geF; exact rfl; exact rfl; omega) | (apply Ok.leTr; exact rfl; exact rfl; omega) | (apply Ok.leF; exact rfl; exact rfl; omega) | (apply Ok.neIT; exact rfl; exact rfl; omega) | (apply Ok.eqIF; exact rfl; exact rfl; omega)) | (apply Ok.and1; exact rfl; exact rfl)); exact rfl) | refine a_go ?_ | (with_reducible apply Fin.thenK; assumption) | (with_reducible (first | apply C.seqK | apply C.regionK); intro _ _) | (apply R.buildSlice0; exact rfl; intro bz) | (apply R.box; exact rfl; (simp only [Value.cells]; rfl); exact rfl; intro bx) | (apply R.alloc; (simp only [Value.cells]; rfl); exact rfl; intro ba) | (apply R.buildSlice; (exact a_prt); exact rfl; exact rfl; (exact a_fills); exact rfl; intro bl) | (refine a_sp ?_ ?_; (intro h; skip; rotate_left; intro h; skip; rotate_left)) | fail))
  all_goals (first | (exfalso; omega) | skip)
  (apply Fin.returnA (H2 := H); assumption; (first | exact .inl rfl | exact .inr rfl); exact rfl; (exact a_res); (simp only [retv]; rfl); (exact a_arr))
  exact ⟨rfl, rfl, rfl⟩
def clrN (n : Txt) (d : Dk) : Int × Dk := if (readD d n).isSome then (remE d n, opD (remE d n) d (.rem n)) else (0, d)
theorem clrN_ps (n : Txt) (d : Dk) : (clrN n d).2.ps.length ≤ d.ps.length + 1 := by
  unfold clrN
  split
  · exact opD_ps _ _ _
  · show d.ps.length ≤ d.ps.length + 1
    omega
theorem pclear_K {db : Nat} {d : Dk} {hp : Hp} (ho : DkO M db d hp) (hlen : d.ps.length ≤ 1000000) : K Try.prog 21 [.pointer (some ⟨db, 0, none⟩)] M (hp ++ H) fun v' M' H' => v' = .int .i64 (clrN pnew d).1 ∧ M.le M' ∧ ∃ hp', DkO M' db (clrN pnew d).2 hp' ∧ H' = hp' ++ H := by
  refine K.enterK Try.func21 rfl rfl rfl ?_
  intro Q hNP hQ
  (repeat' (first | refine a_go ?_ | (with_reducible apply Fin.thenK; assumption) | (with_reducible (first | apply C.seqK | apply C.regionK); intro _ _) | (apply R.buildSlice0; exact rfl; intro bz) | (apply R.box; exact rfl; (simp only [Value.cells]; rfl); exact rfl; intro bx) | (apply R.alloc; (simp only [Value.cells]; rfl); exact rfl; intro ba) | (apply R.buildSlice; (exact a_prt); exact rfl; exact rfl; (exact a_fills); exact rfl; intro bl) | (refine a_sp ?_ ?_; (intro h; skip; rotate_left; intro h; skip; rotate_left)) | fail))
  (apply R.call; (exact a_evs); exact rfl; exact dread_K (n := pnew) ho; rintro _ M _ ⟨v5, hv5, rfl, hown5, rfl, rfl⟩)
  unfold clrN at hQ
  cases hs : (readD d pnew).isSome with
  | true =>
    rw [hs] at hQ
    (repeat' (first | refine a_go ?_ | (with_reducible apply Fin.thenK; assumption) | (with_reducible (first | apply C.seqK | apply C.regionK); intro _ _) | (apply R.buildSlice0; exact rfl; intro bz) | (apply R.box; exact rfl; (simp only [Value.cells]; rfl); exact rfl; intro bx) | (apply R.alloc; (simp only [Value.cells]; rfl); exact rfl; intro ba) | (apply R.buildSlice; (exact a_prt); exact rfl; exact rfl; (exact a_fills); exact rfl; intro bl) | (refine a_sp ?_ ?_; (intro h; skip; rotate_left; intro h; skip; rotate_left)) | fail))
    apply R.arr (H2 := hp ++ H) (by ((try simp only [List.append_assoc, List.cons_append, List.nil_append, List.append_nil]); exact a_arr))
    (apply R.call; (exact a_evs); exact rfl; exact remove_K (n := pnew) ho hlen; rintro _ M3 _ ⟨rfl, hM3, hp6, ho6, rfl⟩)
    (repeat' (first | refine a_go ?_ | (with_reducible apply Fin.thenK; assumption) | (with_reducible (first | apply C.seqK | apply C.regionK); intro _ _) | (apply R.buildSlice0; exact rfl; intro bz) | (apply R.box; exact rfl; (simp only [Value.cells]; rfl); exact rfl; intro bx) | (apply R.alloc; (simp only [Value.cells]; rfl); exact rfl; intro ba) | (apply R.buildSlice; (exact a_prt); exact rfl; exact rfl; (exact a_fills); exact rfl; intro bl) | (refine a_sp ?_ ?_; (intro h; skip; rotate_left; intro h; skip; rotate_left)) | fail))
    (apply Fin.returnA (H2 := hp6 ++ H); assumption; (first | exact .inl rfl | exact .inr rfl); exact rfl; (exact a_res); (simp only [retv]; rfl); (exact a_arr))
    exact ⟨rfl, hM3, hp6, ho6, rfl⟩
  | false =>
    rw [hs] at hQ
    (repeat' (first | refine a_go ?_ | (with_reducible apply Fin.thenK; assumption) | (with_reducible (first | apply C.seqK | apply C.regionK); intro _ _) | (apply R.buildSlice0; exact rfl; intro bz) | (apply R.box; exact rfl; (simp only [Value.cells]; rfl); exact rfl; intro bx) | (apply R.alloc; (simp only [Value.cells]; rfl); exact rfl; intro ba) | (apply R.buildSlice; (exact a_prt); exact rfl; exact rfl; (exact a_fills); exact rfl; intro bl) | (refine a_sp ?_ ?_; (intro h; skip; rotate_left; intro h; skip; rotate_left)) | fail))
    (apply Fin.returnA (H2 := hp ++ H); assumption; (first | exact .inl rfl | exact .inr rfl); exact rfl; (exact a_res); (simp only [retv]; rfl); (exact a_arr))
    exact ⟨rfl, Mem.le_refl _, hp, ho, rfl⟩
def spS (i t : Nat) (c : Int) (b : Txt) : Txt := ((numS i ++ numS t) ++ [UInt8.ofNat c.toNat]) ++ textS b
theorem spS_len {i t : Nat} {c : Int} {b : Txt} (hi : i ≤ 18446744073709551615) (ht : t ≤ 18446744073709551615) (hb : b.length ≤ 32768) : (spS i t c b).length ≤ 31 + b.length := by
  unfold spS textS
  have h1 := (numS_len10 hi).2
  have h2 := (numS_len10 ht).2
  have h3 := (numS_len10 (n := b.length) (by omega)).2
  simp only [List.length_append, List.length_singleton]
  omega
def saveP (d : Dk) (i t : Nat) (c : Int) (b : Txt) : Int × Dk :=
  if ¬ rgtP i t c b.length then (1, d) else
  if (clrN pnew d).1 ≠ 0 then clrN pnew d else
  if appE (clrN pnew d).2 pnew (frameS (spS i t c b)) ≠ 0 then (appE (clrN pnew d).2 pnew (frameS (spS i t c b)), opD (appE (clrN pnew d).2 pnew (frameS (spS i t c b))) (clrN pnew d).2 (.app pnew (frameS (spS i t c b)))) else
  (renE (opD 0 (clrN pnew d).2 (.app pnew (frameS (spS i t c b)))) pnew pfile, opD (renE (opD 0 (clrN pnew d).2 (.app pnew (frameS (spS i t c b)))) pnew pfile) (opD 0 (clrN pnew d).2 (.app pnew (frameS (spS i t c b)))) (.ren pnew pfile))
theorem psave_K {db : Nat} {d : Dk} {hp : Hp} {i t cp : Nat} {c : Int} {A : Option Addr} {b : Txt} (ho : DkO M db d hp) (hlen : d.ps.length ≤ 900000) (hi : i ≤ 18446744073709551615) (ht : t ≤ 18446744073709551615) (hb : Pl M A (b.map bv)) : K Try.prog 9 [.pointer (some ⟨db, 0, none⟩), .agg (snC i t c (.slice A b.length cp)).toArray] M (hp ++ H) fun v' M' H' => v' = .int .i64 (saveP d i t c b).1 ∧ M.le M' ∧ ∃ hp', DkO M' db (saveP d i t c b).2 hp' ∧ H' = hp' ++ H := by
  refine K.enterK Try.func9 rfl rfl rfl ?_
  intro Q hNP hQ
  (repeat' (first | refine a_go ?_ | (with_reducible apply Fin.thenK; assumption) | (with_reducible (first | apply C.seqK | apply C.regionK); intro _ _) | (apply R.buildSlice0; exact rfl; intro bz) | (apply R.box; exact rfl; (simp only [Value.cells]; rfl); exact rfl; intro bx) | (apply R.alloc; (simp only [Value.cells]; rfl); exact rfl; intro ba) | (apply R.buildSlice; (exact a_prt); exact rfl; exact rfl; (exact a_fills); exact rfl; intro bl) | (refine a_sp ?_ ?_; (intro h; skip; rotate_left; intro h; skip; rotate_left)) | fail))
  (apply R.call; (exact a_evs); exact rfl; exact pright_K; rintro _ M _ ⟨rfl, rfl, rfl⟩)
  by_cases hr : rgtP i t c b.length
  rotate_left
  · have hE : saveP d i t c b = (1, d) := if_pos hr
    rw [hE] at hQ
    rw [decide_eq_false hr]
    (repeat' (first | refine a_go ?_ | (with_reducible apply Fin.thenK; assumption) | (with_reducible (first | apply C.seqK | apply C.regionK); intro _ _) | (apply R.buildSlice0; exact rfl; intro bz) | (apply R.box; exact rfl; (simp only [Value.cells]; rfl); exact rfl; intro bx) | (apply R.alloc; (simp only [Value.cells]; rfl); exact rfl; intro ba) | (apply R.buildSlice; (exact a_prt); exact rfl; exact rfl; (exact a_fills); exact rfl; intro bl) | (refine a_sp ?_ ?_; (intro h; skip; rotate_left; intro h; skip; rotate_left)) | fail))
    (apply Fin.returnA (H2 := hp ++ H); assumption; (first | exact .inl rfl | exact .inr rfl); exact rfl; (exact a_res); (simp only [retv]; rfl); (exact a_arr))
    exact ⟨rfl, Mem.le_refl _, hp, ho, rfl⟩
  rw [decide_eq_true hr]
  obtain ⟨cn, hcn⟩ : ∃ cn : Nat, c = (cn : Int) := ⟨_, (Int.toNat_of_nonneg (by have := hr.1; omega)).symm⟩
  subst hcn
  have hbl : b.length ≤ 32768 := hr.2.2.2.2.2
  unfold snC
  (repeat' (first | refine a_go ?_ | (with_reducible apply Fin.thenK; assumption) | (with_reducible (first | apply C.seqK | apply C.regionK); intro _ _) | (apply R.buildSlice0; exact rfl; intro bz) | (apply R.box; exact rfl; (simp only [Value.cells]; rfl); exact rfl; intro bx) | (apply R.alloc; (simp only [Value.cells]; rfl); exact rfl; intro ba) | (apply R.buildSlice; (exact a_prt); exact rfl; exact rfl; (exact a_fills); exact rfl; intro bl) | (refine a_sp ?_ ?_; (intro h; skip; rotate_left; intro h; skip; rotate_left)) | fail))
  apply R.arr (H2 := hp ++ ((bx, .cells [.int .u64 (i : Int), .int .u64 (t : Int), .int .i64 (cn : Int), .slice A b.length cp].toArray 31 (0, 0)) :: H)) (by ((try simp only [List.append_assoc, List.cons_append, List.nil_append, List.append_nil]); exact a_arr))
  (apply R.call; (exact a_evs); exact rfl; exact pclear_K ho (by omega); rintro _ M2 _ ⟨rfl, hM2, hp7, ho7, rfl⟩)
  replace hb := hb.mono hM2
  have hcp := clrN_ps pnew d
  by_cases hc1 : (clrN pnew d).1 ≠ 0
  · have hE : saveP d i t cn b = clrN pnew d := (if_neg (fun h => h hr)).trans (if_pos hc1)
    rw [hE] at hQ
    (repeat' (first | (apply R.step; (apply Ok.move; exact rfl); exact rfl) | (apply R.step; (apply Ok.neIT; exact rfl; exact rfl; exact hc1); exact rfl) | refine a_go ?_ | (with_reducible apply Fin.thenK; assumption) | (with_reducible (first | apply C.seqK | apply C.regionK); intro _ _) | (apply R.buildSlice0; exact rfl; intro bz) | (apply R.box; exact rfl; (simp only [Value.cells]; rfl); exact rfl; intro bx) | (apply R.alloc; (simp only [Value.cells]; rfl); exact rfl; intro ba) | (apply R.buildSlice; (exact a_prt); exact rfl; exact rfl; (exact a_fills); exact rfl; intro bl) | (refine a_sp ?_ ?_; (intro h; skip; rotate_left; intro h; skip; rotate_left)) | fail))
    (apply Fin.returnA (H2 := hp7 ++ H); assumption; (first | exact .inl rfl | exact .inr rfl); exact rfl; (exact a_res); (simp only [retv]; rfl); (exact a_arr))
    exact ⟨rfl, hM2, hp7, ho7, rfl⟩
  have hc0 : (clrN pnew d).1 = 0 := by omega
  have hE0 : saveP d i t cn b = if appE (clrN pnew d).2 pnew (frameS (spS i t cn b)) ≠ 0 then (appE (clrN pnew d).2 pnew (frameS (spS i t cn b)), opD (appE (clrN pnew d).2 pnew (frameS (spS i t cn b))) (clrN pnew d).2 (.app pnew (frameS (spS i t cn b)))) else
      (renE (opD 0 (clrN pnew d).2 (.app pnew (frameS (spS i t cn b)))) pnew pfile, opD (renE (opD 0 (clrN pnew d).2 (.app pnew (frameS (spS i t cn b)))) pnew pfile) (opD 0 (clrN pnew d).2 (.app pnew (frameS (spS i t cn b)))) (.ren pnew pfile)) := (if_neg (fun h => h hr)).trans (if_neg hc1)
  generalize (clrN pnew d).2 = d1 at hE0 ho7 hcp
  rw [hc0]
  have hspl := spS_len (c := cn) hi ht hbl
  (repeat' (first | refine a_go ?_ | (with_reducible apply Fin.thenK; assumption) | (with_reducible (first | apply C.seqK | apply C.regionK); intro _ _) | (apply R.buildSlice0; exact rfl; intro bz) | (apply R.box; exact rfl; (simp only [Value.cells]; rfl); exact rfl; intro bx) | (apply R.alloc; (simp only [Value.cells]; rfl); exact rfl; intro ba) | (apply R.buildSlice; (exact a_prt); exact rfl; exact rfl; (exact a_fills); exact rfl; intro bl) | (refine a_sp ?_ ?_; (intro h; skip; rotate_left; intro h; skip; rotate_left)) | fail))
  (apply R.call; (exact a_evs); exact rfl; exact newWriter_K; rintro _ M2 _ ⟨wb, rfl, rfl, rfl⟩)
  have hl1 := (numS_len10 hi).2
  have hl2 := (numS_len10 ht).2
  (repeat' (first | refine a_go ?_ | (with_reducible apply Fin.thenK; assumption) | (with_reducible (first | apply C.seqK | apply C.regionK); intro _ _) | (apply R.buildSlice0; exact rfl; intro bz) | (apply R.box; exact rfl; (simp only [Value.cells]; rfl); exact rfl; intro bx) | (apply R.alloc; (simp only [Value.cells]; rfl); exact rfl; intro ba) | (apply R.buildSlice; (exact a_prt); exact rfl; exact rfl; (exact a_fills); exact rfl; intro bl) | (refine a_sp ?_ ?_; (intro h; skip; rotate_left; intro h; skip; rotate_left)) | fail))
  (apply R.call; (exact a_evs); exact rfl; (apply K.arr (h := wnum_K (wb := wb) (v := .slice none 0 0) (bs := []) (n := i) (hr := []) (H := hp7 ++ ((bx, .cells [.int .u64 (i : Int), .int .u64 (t : Int), .int .i64 (cn : Int), .slice A b.length cp].toArray 31 (0, 0)) :: H)) (Own.nil _ _) (by decide) hi)); ((try simp only [List.append_assoc, List.cons_append, List.nil_append, List.append_nil]); exact a_arr); rintro _ M2 _ ⟨rfl, rfl, v2, hr2, how2, rfl⟩)
  rw [List.nil_append] at how2
  (repeat' (first | refine a_go ?_ | (with_reducible apply Fin.thenK; assumption) | (with_reducible (first | apply C.seqK | apply C.regionK); intro _ _) | (apply R.buildSlice0; exact rfl; intro bz) | (apply R.box; exact rfl; (simp only [Value.cells]; rfl); exact rfl; intro bx) | (apply R.alloc; (simp only [Value.cells]; rfl); exact rfl; intro ba) | (apply R.buildSlice; (exact a_prt); exact rfl; exact rfl; (exact a_fills); exact rfl; intro bl) | (refine a_sp ?_ ?_; (intro h; skip; rotate_left; intro h; skip; rotate_left)) | fail))
  (apply R.call; (exact a_evs); exact rfl; (apply K.arr (h := wnum_K (wb := wb) (v := v2) (bs := numS i) (n := t) (hr := hr2) (H := hp7 ++ ((bx, .cells [.int .u64 (i : Int), .int .u64 (t : Int), .int .i64 (cn : Int), .slice A b.length cp].toArray 31 (0, 0)) :: H)) how2 (by omega) ht)); ((try simp only [List.append_assoc, List.cons_append, List.nil_append, List.append_nil]); exact a_arr); rintro _ M2 _ ⟨rfl, rfl, v3, hr3, how3, rfl⟩)
  have hl3 : (numS i ++ numS t).length ≤ 20 := by rw [List.length_append]; omega
  (repeat' (first | (apply R.step; (apply Ok.move; exact rfl); exact rfl) | (apply R.step; (apply Ok.convLI; exact rfl); exact rfl) | refine a_go ?_ | (with_reducible apply Fin.thenK; assumption) | (with_reducible (first | apply C.seqK | apply C.regionK); intro _ _) | (apply R.buildSlice0; exact rfl; intro bz) | (apply R.box; exact rfl; (simp only [Value.cells]; rfl); exact rfl; intro bx) | (apply R.alloc; (simp only [Value.cells]; rfl); exact rfl; intro ba) | (apply R.buildSlice; (exact a_prt); exact rfl; exact rfl; (exact a_fills); exact rfl; intro bl) | (refine a_sp ?_ ?_; (intro h; skip; rotate_left; intro h; skip; rotate_left)) | fail))
  (apply R.call; (exact a_evs); exact rfl; (apply K.arr (h := wbyte_K (wb := wb) (v := v3) (bs := numS i ++ numS t) (b := UInt8.ofNat cn) (hr := hr3) (H := hp7 ++ ((bx, .cells [.int .u64 (i : Int), .int .u64 (t : Int), .int .i64 (cn : Int), .slice A b.length cp].toArray 31 (0, 0)) :: H)) how3 (by omega))); ((try simp only [List.append_assoc, List.cons_append, List.nil_append, List.append_nil]); exact a_arr); rintro _ M2 _ ⟨rfl, rfl, v4, hr4, how4, rfl⟩)
  have hl4 : ((numS i ++ numS t) ++ [UInt8.ofNat cn]).length ≤ 21 := by rw [List.length_append, List.length_singleton]; omega
  (repeat' (first | refine a_go ?_ | (with_reducible apply Fin.thenK; assumption) | (with_reducible (first | apply C.seqK | apply C.regionK); intro _ _) | (apply R.buildSlice0; exact rfl; intro bz) | (apply R.box; exact rfl; (simp only [Value.cells]; rfl); exact rfl; intro bx) | (apply R.alloc; (simp only [Value.cells]; rfl); exact rfl; intro ba) | (apply R.buildSlice; (exact a_prt); exact rfl; exact rfl; (exact a_fills); exact rfl; intro bl) | (refine a_sp ?_ ?_; (intro h; skip; rotate_left; intro h; skip; rotate_left)) | fail))
  (apply R.call; (exact a_evs); exact rfl; (apply K.arr (h := wtext_K (wb := wb) (v := v4) (bs := (numS i ++ numS t) ++ [UInt8.ofNat cn]) (b := b) (A := A) (c := cp) (hr := hr4) (H := hp7 ++ ((bx, .cells [.int .u64 (i : Int), .int .u64 (t : Int), .int .i64 (cn : Int), .slice A b.length cp].toArray 31 (0, 0)) :: H)) how4 (by omega) hb (by omega))); ((try simp only [List.append_assoc, List.cons_append, List.nil_append, List.append_nil]); exact a_arr); rintro _ M2 _ ⟨rfl, rfl, v5, hr5, how5, rfl⟩)
  have hsp : ((numS i ++ numS t) ++ [UInt8.ofNat cn]) ++ textS b = spS i t cn b := rfl
  rw [hsp] at how5
  (repeat' (first | refine a_go ?_ | (with_reducible apply Fin.thenK; assumption) | (with_reducible (first | apply C.seqK | apply C.regionK); intro _ _) | (apply R.buildSlice0; exact rfl; intro bz) | (apply R.box; exact rfl; (simp only [Value.cells]; rfl); exact rfl; intro bx) | (apply R.alloc; (simp only [Value.cells]; rfl); exact rfl; intro ba) | (apply R.buildSlice; (exact a_prt); exact rfl; exact rfl; (exact a_fills); exact rfl; intro bl) | (refine a_sp ?_ ?_; (intro h; skip; rotate_left; intro h; skip; rotate_left)) | fail))
  (apply R.call; (exact a_evs); exact rfl; (apply K.arr (h := wbytes_K (wb := wb) (v := v5) (bs := spS i t cn b) (hr := hr5) (H := hp7 ++ ((bx, .cells [.int .u64 (i : Int), .int .u64 (t : Int), .int .i64 (cn : Int), .slice A b.length cp].toArray 31 (0, 0)) :: H)) how5 (by omega))); ((try simp only [List.append_assoc, List.cons_append, List.nil_append, List.append_nil]); exact a_arr); rintro v6 M2 _ ⟨rfl, hr6, how6, rfl⟩)
  obtain ⟨A6, c6, rfl, _, _⟩ := how6.form
  apply R.arr (H2 := hr6 ++ (hp7 ++ H)) (by ((try simp only [List.append_assoc, List.cons_append, List.nil_append, List.append_nil]); exact a_arr))
  (apply R.ice (hp := hr6) (H1 := hp7 ++ H) (by (exact a_arr)); intro M3 hM3 hin3)
  have hpl6 := how6.plIn hin3
  (apply R.call; (exact a_evs); exact rfl; exact frame_KF hpl6 rfl (by omega); rintro v7 M4 _ ⟨hb7, hM4, rfl⟩)
  have hfl : (frameS (spS i t cn b)).length ≤ 39 + b.length := by
    rw [frameS_len (by omega)]
    omega
  have ho4 := (ho7.mono hM3).mono hM4
  generalize frameS (spS i t cn b) = f at hb7 hfl hE0
  obtain ⟨A7, c7, rfl, _⟩ := id hb7
  (apply R.call; (exact a_evs); exact rfl; exact append_K (n := pnew) ho4 hb7 (by omega) (by decide) (by omega); rintro _ M5 _ ⟨rfl, hM5, hp8, ho8, rfl⟩)
  by_cases ha1 : appE d1 pnew f ≠ 0
  · rw [hE0, if_pos ha1] at hQ
    (repeat' (first | (apply R.step; (apply Ok.move; exact rfl); exact rfl) | (apply R.step; (apply Ok.neIT; exact rfl; exact rfl; exact ha1); exact rfl) | refine a_go ?_ | (with_reducible apply Fin.thenK; assumption) | (with_reducible (first | apply C.seqK | apply C.regionK); intro _ _) | (apply R.buildSlice0; exact rfl; intro bz) | (apply R.box; exact rfl; (simp only [Value.cells]; rfl); exact rfl; intro bx) | (apply R.alloc; (simp only [Value.cells]; rfl); exact rfl; intro ba) | (apply R.buildSlice; (exact a_prt); exact rfl; exact rfl; (exact a_fills); exact rfl; intro bl) | (refine a_sp ?_ ?_; (intro h; skip; rotate_left; intro h; skip; rotate_left)) | fail))
    (apply Fin.returnA (H2 := hp8 ++ H); assumption; (first | exact .inl rfl | exact .inr rfl); exact rfl; (exact a_res); (simp only [retv]; rfl); (exact a_arr))
    exact ⟨rfl, hM2.trans_ (hM3.trans_ (hM4.trans_ hM5)), hp8, ho8, rfl⟩
  rw [if_neg ha1] at hE0
  have ha0 : appE d1 pnew f = 0 := by omega
  rw [ha0] at ho8 ⊢
  have hos := opD_ps d1 0 (.app pnew f)
  rw [hE0] at hQ
  (repeat' (first | refine a_go ?_ | (with_reducible apply Fin.thenK; assumption) | (with_reducible (first | apply C.seqK | apply C.regionK); intro _ _) | (apply R.buildSlice0; exact rfl; intro bz) | (apply R.box; exact rfl; (simp only [Value.cells]; rfl); exact rfl; intro bx) | (apply R.alloc; (simp only [Value.cells]; rfl); exact rfl; intro ba) | (apply R.buildSlice; (exact a_prt); exact rfl; exact rfl; (exact a_fills); exact rfl; intro bl) | (refine a_sp ?_ ?_; (intro h; skip; rotate_left; intro h; skip; rotate_left)) | fail))
  (apply R.call; (exact a_evs); exact rfl; exact rename_K (n := pnew) (t := pfile) ho8 (by omega) (by decide); rintro _ M6 _ ⟨rfl, hM6, hp9, ho9, rfl⟩)
  (repeat' (first | refine a_go ?_ | (with_reducible apply Fin.thenK; assumption) | (with_reducible (first | apply C.seqK | apply C.regionK); intro _ _) | (apply R.buildSlice0; exact rfl; intro bz) | (apply R.box; exact rfl; (simp only [Value.cells]; rfl); exact rfl; intro bx) | (apply R.alloc; (simp only [Value.cells]; rfl); exact rfl; intro ba) | (apply R.buildSlice; (exact a_prt); exact rfl; exact rfl; (exact a_fills); exact rfl; intro bl) | (refine a_sp ?_ ?_; (intro h; skip; rotate_left; intro h; skip; rotate_left)) | fail))
  (apply Fin.returnA (H2 := hp9 ++ H); assumption; (first | exact .inl rfl | exact .inr rfl); exact rfl; (exact a_res); (simp only [retv]; rfl); (exact a_arr))
  exact ⟨rfl, hM2.trans_ (hM3.trans_ (hM4.trans_ (hM5.trans_ hM6))), hp9, ho9, rfl⟩
end Go.Sx
end
section
namespace Go.Sx
open Go.Proofs Go.RowKit
attribute [local irreducible] C R Fin K Own Rd Pl Ok KOf RetOk OpsOf RP KP Res NoPanic KV
variable {M M' : Mem} {H : Hp}
structure LS where
  es : List (Value × List UInt8 × Hp)
  ov : Value
  hrow : Hp
def hel (es : List (Value × List UInt8 × Hp)) : Hp := es.flatMap fun x => x.2.2
def atS (es : List (Value × List UInt8 × Hp)) : Nat := (es.map fun x => 8 + x.2.1.length).sum
def LSt (s : LS) (r : List UInt8) (b : Bool) (s1 : LS) : Prop :=
  b = true ∧ ∃ v hpv, Own 5 1 v r.length (r.map bv) hpv ∧ s1.es = s.es ++ [(v, r, hpv)] ∧ Own 29 1 s1.ov s1.es.length (s1.es.map (·.1)) s1.hrow
theorem told_es {pre : List (List UInt8)} {s : LS} (h : Told LSt ⟨[], .slice none 0 0, []⟩ pre s) :
    s.es.map (·.2.1) = pre ∧ Own 29 1 s.ov s.es.length (s.es.map (·.1)) s.hrow ∧ ∀ x ∈ s.es, Own 5 1 x.1 x.2.1.length (x.2.1.map bv) x.2.2 := by
  induction h with
  | nil => exact ⟨rfl, Own.nil _ 1, by simp⟩
  | more _ hs ih =>
    obtain ⟨i1, _, i3⟩ := ih
    obtain ⟨_, v, hpv, h1, h2, h3⟩ := hs
    refine ⟨by rw [h2]; simp [i1], h3, ?_⟩
    intro x hx
    rw [h2] at hx
    rcases List.mem_append.1 hx with hx | hx
    · exact i3 x hx
    · simp only [List.mem_singleton] at hx
      subst hx
      exact h1
theorem atS_end (es : List (Value × List UInt8 × Hp)) : atS es = endS (es.map (·.2.1)) := by
  unfold atS endS
  rw [List.map_map]
  rfl
theorem atS_len (es : List (Value × List UInt8 × Hp)) : 8 * es.length ≤ atS es := by
  unfold atS
  induction es with
  | nil => exact Nat.zero_le _
  | cons x es ih =>
    simp only [List.map_cons, List.sum_cons, List.length_cons]
    omega
theorem list_K {A : Option Addr} {cap : Nat} {bs : List UInt8} (hpl : Pl M A (bs.map bv)) (hc : bs.length ≤ cap) (hb : cap ≤ 9223372036854775807) (hsm : bs.length ≤ 1099511627776) : K Try.prog 23 [.slice A bs.length cap] M H fun v M' H' =>
    ∃ es ov hrow, es.map (fun x : Value × List UInt8 × Hp => x.2.1) = framesF bs.length bs ∧ (∀ x ∈ es, Own 5 1 x.1 x.2.1.length (x.2.1.map bv) x.2.2) ∧ Own 29 1 ov es.length (es.map (·.1)) hrow ∧
      v = .tuple #[ov, .int .i64 (endS (framesF bs.length bs))] ∧ M' = M ∧ H' = hrow ++ (hel es ++ H) := by
  refine K.enterM Try.func23 rfl rfl rfl ?_
  intro Q hNP hQ
  (repeat' (first | refine a_go ?_ | (with_reducible apply Fin.thenK; assumption) | (with_reducible (first | apply C.seqK | apply C.regionK); intro _ _) | (apply R.buildSlice0; exact rfl; intro bz) | (apply R.box; exact rfl; (simp only [Value.cells]; rfl); exact rfl; intro bx) | (apply R.alloc; (simp only [Value.cells]; rfl); exact rfl; intro ba) | (apply R.buildSlice; (exact a_prt); exact rfl; exact rfl; (exact a_fills); exact rfl; intro bl) | (refine a_sp ?_ ?_; (intro h; skip; rotate_left; intro h; skip; rotate_left)) | fail))
  (apply R.call; (exact a_evs); exact rfl); exact all_K; rintro _ M _ ⟨bx, rfl, rfl, rfl⟩
  (repeat' (first | refine a_go ?_ | (with_reducible apply Fin.thenK; assumption) | (with_reducible (first | apply C.seqK | apply C.regionK); intro _ _) | (apply R.buildSlice0; exact rfl; intro bz) | (apply R.box; exact rfl; (simp only [Value.cells]; rfl); exact rfl; intro bx) | (apply R.alloc; (simp only [Value.cells]; rfl); exact rfl; intro ba) | (apply R.buildSlice; (exact a_prt); exact rfl; exact rfl; (exact a_fills); exact rfl; intro bl) | (refine a_sp ?_ ?_; (intro h; skip; rotate_left; intro h; skip; rotate_left)) | fail))
  rename_i ob _ _ _ _ _ _ _ _ _ _
  apply C.rangeO (gf := 75) (pl := [9]) (cs := [.pointer (some ⟨bx, 0, none⟩)]); exact rfl
  intro fn tmps bD l o ho hfr
  have hJ : ∃ J : LS → Hp, J = fun s => (l, o .ready none) :: (bD, .deferred (some [])) :: (ba, .cells #[.int .i64 (atS s.es)] 3 (0, 0)) :: (ob, .cells #[s.ov] 65 (0, 0)) :: (s.hrow ++ hel s.es) := ⟨_, rfl⟩
  obtain ⟨J, hJ⟩ := hJ
  refine (K.arr (H2 := J ⟨[], .slice none 0 0, []⟩ ++ ((bx, .cells #[.slice A bs.length cap] 29 (0, 0)) :: H)) ?_ (all1_K (J := J) (St := LSt) hpl hc hb ⟨[], .slice none 0 0, []⟩ ?_)).mono ?_
  · rw [hJ]
    (exact a_arr)
  · intro pre r rest s v hpv H' hfr2 htold hown hr6
    obtain ⟨hes, how, helx⟩ := told_es htold
    have hat : atS s.es + 8 + r.length ≤ bs.length := by
      have h1 := framesF_end bs.length bs
      rw [hfr2, endS_append, ← hes, ← atS_end] at h1
      have h2 : endS (r :: rest) = 8 + r.length + endS rest := by simp [endS]
      omega
    obtain ⟨AV, capV, rfl, _, _⟩ := hown.form
    obtain ⟨AO, capO, hov, _, _⟩ := how.form
    refine KV.perm (H' := (l, o .ready none) :: (bD, .deferred (some [])) :: (ba, .cells #[.int .i64 (atS s.es)] 3 (0, 0)) :: (ob, .cells #[s.ov] 65 (0, 0)) :: (s.hrow ++ (hel s.es ++ (hpv ++ H')))) ?_ ?_
    · rw [hJ]
      show Arr (hpv ++ ((l, o .ready none) :: (bD, .deferred (some [])) :: (ba, .cells #[.int .i64 (atS s.es)] 3 (0, 0)) :: (ob, .cells #[s.ov] 65 (0, 0)) :: ((s.hrow ++ hel s.es) ++ H'))) _
      rw [List.append_assoc]
      (exact a_arr)
    rw [hov] at how ⊢
    subst ho
    refine KV.roundL (pl := [9]) (vs := [.slice AV r.length capV]) (At.head _ _ _) rfl (by decide) hfr ?_
    intro Q2 hNP2 hAsg
    (repeat' (first | refine a_go ?_ | (with_reducible apply Fin.thenK; assumption) | (with_reducible (first | apply C.seqK | apply C.regionK); intro _ _) | (apply R.buildSlice0; exact rfl; intro bz) | (apply R.box; exact rfl; (simp only [Value.cells]; rfl); exact rfl; intro bx) | (apply R.alloc; (simp only [Value.cells]; rfl); exact rfl; intro ba) | (apply R.buildSlice; (exact a_prt); exact rfl; exact rfl; (exact a_fills); exact rfl; intro bl) | (refine a_sp ?_ ?_; (intro h; skip; rotate_left; intro h; skip; rotate_left)) | fail))
    refine hAsg _ _ _ _ _ (At.head _ _ _) ?_
    intro Q3 hR
    have hNP3 := hR.np
    have hlen := atS_len s.es
    (repeat' (first | refine a_go ?_ | (with_reducible apply Fin.thenK; assumption) | (with_reducible (first | apply C.seqK | apply C.regionK); intro _ _) | (apply R.buildSlice0; exact rfl; intro bz) | (apply R.box; exact rfl; (simp only [Value.cells]; rfl); exact rfl; intro bx) | (apply R.alloc; (simp only [Value.cells]; rfl); exact rfl; intro ba) | (apply R.buildSlice; (exact a_prt); exact rfl; exact rfl; (exact a_fills); exact rfl; intro bl) | (refine a_sp ?_ ?_; (intro h; skip; rotate_left; intro h; skip; rotate_left)) | fail))
    (apply R.append (news := [.slice AV r.length capV]); exact rfl; exact rfl; exact how; (exact a_tk); exact Rd.at_ (l := [.slice AV r.length capV]) (by (exact a_at)) (fun j u h => by rw [Nat.zero_add]; exact h); exact rfl; (intro u hu; simp only [List.mem_singleton] at hu; subst hu; rfl); omega; exact rfl; decide; decide; exact rfl; rintro ov1 hrow1 how1)
    obtain ⟨AP, capP, rfl, _, _⟩ := how1.form
    (repeat' (first | refine a_go ?_ | (with_reducible apply Fin.thenK; assumption) | (with_reducible (first | apply C.seqK | apply C.regionK); intro _ _) | (apply R.buildSlice0; exact rfl; intro bz) | (apply R.box; exact rfl; (simp only [Value.cells]; rfl); exact rfl; intro bx) | (apply R.alloc; (simp only [Value.cells]; rfl); exact rfl; intro ba) | (apply R.buildSlice; (exact a_prt); exact rfl; exact rfl; (exact a_fills); exact rfl; intro bl) | (refine a_sp ?_ ?_; (intro h; skip; rotate_left; intro h; skip; rotate_left)) | fail))
    (apply Fin.arr (H2 := (l, _) :: (bD, .deferred (some [])) :: (ba, .cells #[.int .i64 ((atS s.es : Int) + (8 + r.length))] 3 (0, 0)) :: (ob, .cells #[.slice AP (s.es.length + 1) capP] 65 (0, 0)) :: (hrow1 ++ (hel s.es ++ (hpv ++ H')))); (exact a_arr))
    refine hR.normal _ _ _ _ _ _ (At.head _ _ _) ?_
    have e1 : atS (s.es ++ [(Value.slice AV r.length capV, r, hpv)]) = atS s.es + (8 + r.length) := by simp [atS]
    have e2 : hel (s.es ++ [(Value.slice AV r.length capV, r, hpv)]) = hel s.es ++ hpv := by simp [hel]
    refine ⟨true, ⟨s.es ++ [(.slice AV r.length capV, r, hpv)], .slice AP (s.es.length + 1) capP, hrow1⟩, rfl, rfl, ?_, rfl, _, hpv, hown, rfl, ?_⟩
    · rw [hJ]
      dsimp only
      rw [e1, e2, ← List.append_assoc (hel s.es) hpv H', ← List.append_assoc hrow1 (hel s.es ++ hpv) H']
      push_cast
      rfl
    · have h7 := how1
      simpa using h7
  · rintro v M' H' ⟨s', rfl, rfl, hend⟩
    have htold : Told LSt ⟨[], .slice none 0 0, []⟩ (framesF bs.length bs) s' := by
      rcases hend with h | ⟨_, _, _, _, _, _, h⟩
      · exact h
      · exact absurd h.1 (by simp)
    obtain ⟨hes, how, helx⟩ := told_es htold
    rw [hJ]
    refine ⟨.ready, none, _, by simp, At.head _ _ _, ?_⟩
    dsimp only
    apply Fin.arr (H2 := (bD, .deferred (some [])) :: (ba, .cells #[.int .i64 (atS s'.es)] 3 (0, 0)) :: (ob, .cells #[s'.ov] 65 (0, 0)) :: (s'.hrow ++ (hel s'.es ++ H)))
    · show Arr ((l, o .exhausted none) :: (bD, .deferred (some [])) :: (ba, .cells #[.int .i64 (atS s'.es)] 3 (0, 0)) :: (ob, .cells #[s'.ov] 65 (0, 0)) :: ((s'.hrow ++ hel s'.es) ++ ((bx, .cells #[.slice A bs.length cap] 29 (0, 0)) :: H))) _
      rw [List.append_assoc]
      (exact a_arr)
    (repeat' (first | (apply R.step; (exact a_ok); exact rfl) | (first | (with_reducible first | apply R.nil | apply C.ret | apply C.block | apply C.skip | apply C.exit | apply Fin.thenRet | apply Fin.thenExit | apply Fin.blockNormal | apply Fin.blockRet | apply Fin.blockExit) | (with_reducible apply Fin.thenK; assumption) | (with_reducible apply C.seqK; intro _ _) | (with_reducible apply C.regionK; intro _ _) | (with_reducible apply C.regionQK; exact Mix.h; kernel_rfl; intro _ _) | (with_reducible apply Fin.blockOther; exact rfl)) | (first | (apply R.store; exact rfl; exact rfl; exact rfl; (exact a_at); (exact a_blit); exact rfl; (focus (simp [Value.oneCell']; done))) | (apply R.buildSlice0; exact rfl; intro bz) | (apply R.box; exact rfl; (simp only [Value.cells]; rfl); exact rfl; intro bx) | (apply R.alloc; (simp only [Value.cells]; rfl); exact rfl; intro ba) | (apply R.buildSlice; (exact a_prt); exact rfl; exact rfl; (exact a_fills); exact rfl; intro bl)) | (first | (apply R.guardT; assumption; exact rfl; exact rfl; exact rfl) | (apply R.guardF; assumption; exact rfl; exact rfl; exact rfl; exact rfl; exact rfl) | (apply R.guardU; assumption; exact rfl; exact rfl; exact rfl; exact rfl) | (apply R.guardDec; assumption; exact rfl; exact rfl; (intro h; skip; rotate_left; intro h; skip; rotate_left)) | (apply R.guardBeq; assumption; exact rfl; exact rfl; (intro h; skip; rotate_left; intro h; skip; rotate_left)) | (apply R.guardBne; assumption; exact rfl; exact rfl; (intro h; skip; rotate_left; intro h; skip; rotate_left)) | (apply R.guardNDec; assumption; exact rfl; exact rfl; (intro h; skip; rotate_left; intro h; skip; rotate_left)) | (apply R.guardNot; assumption; exact rfl; exact rfl; (intro h; skip; rotate_left; intro h; skip; rotate_left)) | (apply R.guardC; assumption; exact rfl; exact rfl; (intro h; skip; rotate_left; intro h; skip; rotate_left))) | (first | (apply C.condT; exact rfl) | (apply C.condF; exact rfl) | (apply C.condDec; exact rfl; (intro h; skip; rotate_left; intro h; skip; rotate_left)) | (apply C.condBeq; exact rfl; (intro h; skip; rotate_left; intro h; skip; rotate_left)) | (apply C.condBne; exact rfl; (intro h; skip; rotate_left; intro h; skip; rotate_left)) | (apply C.condNDec; exact rfl; (intro h; skip; rotate_left; intro h; skip; rotate_left)) | (apply C.condNot; exact rfl; (intro h; skip; rotate_left; intro h; skip; rotate_left)) | (apply C.cond; exact rfl; (intro h; skip; rotate_left; intro h; skip; rotate_left)))))
    (apply Fin.returnM (H2 := s'.hrow ++ (hel s'.es ++ H)); assumption; exact .inl rfl; exact rfl; exact Marks.cons (At.head _ _ _) (Marks.nil _); (exact a_res); (simp only [retv]; rfl); (exact a_arr))
    exact ⟨s'.es, s'.ov, s'.hrow, hes, helx, how, by rw [atS_end, hes], rfl, rfl⟩
theorem es_pl {M2 : Mem} : ∀ (es : List (Value × List UInt8 × Hp)), In M2 (hel es) → (∀ x ∈ es, Own 5 1 x.1 x.2.1.length (x.2.1.map bv) x.2.2) → PlV M2 (es.map (·.1)) (es.map (·.2.1)) := by
  intro es hin ho
  refine ⟨by simp, fun i v l h1 h2 => ?_⟩
  rw [List.getElem?_map] at h1 h2
  cases he : es[i]? with
  | none => rw [he] at h1; cases h1
  | some x =>
    rw [he] at h1 h2
    cases h1; cases h2
    have hx := List.mem_of_getElem? he
    exact (ho x hx).plB fun p hp => hin p (List.mem_flatMap.2 ⟨x, hx, hp⟩)
theorem list_KF {A : Option Addr} {cap m : Nat} {bs : List UInt8} (hpl : Pl M A (bs.map bv)) (hm : bs.length = m) (hc : m ≤ cap) (hb : cap ≤ 9223372036854775807) (hsm : m ≤ 1099511627776) : K Try.prog 23 [.slice A m cap] M H fun v M' H' =>
    ∃ ov, v = .tuple #[ov, .int .i64 (endS (framesF bs.length bs))] ∧ PlL M' ov (framesF bs.length bs) ∧ M.le M' ∧ H' = H := by
  subst hm
  refine (list_K hpl hc hb hsm).freezeT ?_
  rintro v M' H' ⟨es, ov, hrow, h1, h2, h3, rfl, rfl, rfl⟩
  refine ⟨hrow ++ hel es, H, by rw [List.append_assoc]; exact Arr.all _, fun M2 hM2 hin => ⟨ov, rfl, ?_, hM2, rfl⟩⟩
  have hv := es_pl es hin.right h2
  rw [h1] at hv
  refine Own.plL (hp := hrow) (e := 29) (vs := es.map (·.1)) ?_ hin.left hv
  rw [← h1, List.length_map]
  exact h3
end Go.Sx
end
section
namespace Go.Sx
open Go Go.Proofs Go.RowKit
attribute [local irreducible] C R Fin K Own OwnT Rd Pl Ok KOf RetOk OpsOf RP KP Res NoPanic KV KE MapS ItS EntS FsO FsR RowD PlD DkO
variable {M M' : Mem} {H H1 H2 : Hp}
theorem readD_len {d : Dk} (h : d.ok) (n : Txt) : ((readD d n).getD []).length ≤ 1048576 := by
  unfold readD
  split
  · exact Nat.zero_le _
  · exact Nat.le_trans fileD_len h.sum
end Go.Sx
end
section
namespace Go.Sx
open Go Go.Proofs Go.RowKit
attribute [local irreducible] C R Fin K Own OwnT Rd Pl Ok KOf RetOk OpsOf RP KP Res NoPanic KV KE MapS ItS EntS FsO FsR RowD PlD DkO RT KT OneT RS KS OneS
variable {M M' : Mem} {H H1 H2 : Hp}
abbrev SnT := Nat × Nat × Int × Txt
def snV (s : SnT) (v : Value) : Value := .agg (snC s.1 s.2.1 s.2.2.1 v).toArray
def sn0 (o : Option SnT) : SnT := o.getD (0, 0, 0, [])
def snG (x : Txt) (z1 z2 : Nat × Nat × Int) (z3 : UInt8 × Nat × Int) (z4 : Txt × Nat × Int) : Option SnT :=
  if endR x z4.2.1 z4.2.2 = 0 ∧ rgtP z1.1 z2.1 (z3.1.toNat : Int) z4.1.length then some (z1.1, z2.1, (z3.1.toNat : Int), z4.1) else none
def snR (x : Txt) : Option SnT :=
  snG x (numRd x 72057594037927935 0 0) (numRd x 72057594037927935 (numRd x 72057594037927935 0 0).2.1 (numRd x 72057594037927935 0 0).2.2)
    (byteR x 254 (numRd x 72057594037927935 (numRd x 72057594037927935 0 0).2.1 (numRd x 72057594037927935 0 0).2.2).2.1 (numRd x 72057594037927935 (numRd x 72057594037927935 0 0).2.1 (numRd x 72057594037927935 0 0).2.2).2.2)
    (textR x 32768 (byteR x 254 (numRd x 72057594037927935 (numRd x 72057594037927935 0 0).2.1 (numRd x 72057594037927935 0 0).2.2).2.1 (numRd x 72057594037927935 (numRd x 72057594037927935 0 0).2.1 (numRd x 72057594037927935 0 0).2.2).2.2).2.1 (byteR x 254 (numRd x 72057594037927935 (numRd x 72057594037927935 0 0).2.1 (numRd x 72057594037927935 0 0).2.2).2.1 (numRd x 72057594037927935 (numRd x 72057594037927935 0 0).2.1 (numRd x 72057594037927935 0 0).2.2).2.2).2.2)
theorem snR_of {x : Txt} {z1 z2 : Nat × Nat × Int} {z3 : UInt8 × Nat × Int} {z4 : Txt × Nat × Int} (h1 : numRd x 72057594037927935 0 0 = z1) (h2 : numRd x 72057594037927935 z1.2.1 z1.2.2 = z2) (h3 : byteR x 254 z2.2.1 z2.2.2 = z3) (h4 : textR x 32768 z3.2.1 z3.2.2 = z4) : snR x = snG x z1 z2 z3 z4 := by
  subst h1 h2 h3 h4
  rfl
def snF (l : List Txt) (m : Nat) : Option SnT :=
  match l with
  | [x] => if endS [x] = m then snR x else none
  | _ => none
def openP (d : Dk) : Int × Dk × Option SnT :=
  if (clrN pnew d).1 ≠ 0 then ((clrN pnew d).1, (clrN pnew d).2, none) else
  (0, (clrN pnew d).2, snF (framesF ((readD (clrN pnew d).2 pfile).getD []).length ((readD (clrN pnew d).2 pfile).getD [])) ((readD (clrN pnew d).2 pfile).getD []).length)
theorem popen_K {db : Nat} {d : Dk} {hp : Hp} (ho : DkO M db d hp) (hlen : d.ps.length ≤ 900000) : K Try.prog 7 [.pointer (some ⟨db, 0, none⟩)] M (hp ++ H) fun v' M' H' => ∃ vd, v' = .tuple #[snV (sn0 (openP d).2.2) vd, .bool (openP d).2.2.isSome, .int .i64 (openP d).1] ∧ PlB M' vd (sn0 (openP d).2.2).2.2.2 ∧ M.le M' ∧ ∃ hp', DkO M' db (openP d).2.1 hp' ∧ H' = hp' ++ H := by
  refine K.enterK Try.func7 rfl rfl rfl ?_
  intro Q hNP hQ
  unfold snV snC at hQ
  (repeat' (first | (apply R.step; (exact a_ok); exact rfl) | (first | (with_reducible first | apply R.nil | apply C.ret | apply C.block | apply C.skip | apply C.exit | apply Fin.thenRet | apply Fin.thenExit | apply Fin.blockNormal | apply Fin.blockRet | apply Fin.blockExit) | (with_reducible apply Fin.thenK; assumption) | (with_reducible apply C.seqK; intro _ _) | (with_reducible apply C.regionK; intro _ _) | (with_reducible apply Fin.blockOther; exact rfl)) | (apply R.store; exact rfl; exact rfl; exact rfl; (exact a_at); (exact a_blit); exact rfl; (focus (simp [Value.oneCell']; done))) | (first | (apply R.guardT; assumption; exact rfl; exact rfl; exact rfl) | (apply R.guardF; assumption; exact rfl; exact rfl; exact rfl; exact rfl; exact rfl) | (apply R.guardU; assumption; exact rfl; exact rfl; exact rfl; exact rfl) | (apply R.guardDec; assumption; exact rfl; exact rfl; (intro h; skip; rotate_left; intro h; skip; rotate_left)) | (apply R.guardBeq; assumption; exact rfl; exact rfl; (intro h; skip; rotate_left; intro h; skip; rotate_left)) | (apply R.guardBne; assumption; exact rfl; exact rfl; (intro h; skip; rotate_left; intro h; skip; rotate_left)) | (apply R.guardNDec; assumption; exact rfl; exact rfl; (intro h; skip; rotate_left; intro h; skip; rotate_left)) | (apply R.guardNot; assumption; exact rfl; exact rfl; (intro h; skip; rotate_left; intro h; skip; rotate_left)) | (apply R.guardC; assumption; exact rfl; exact rfl; (intro h; skip; rotate_left; intro h; skip; rotate_left))) | (first | (apply C.condT; exact rfl) | (apply C.condF; exact rfl) | (apply C.condDec; exact rfl; (intro h; skip; rotate_left; intro h; skip; rotate_left)) | (apply C.condBeq; exact rfl; (intro h; skip; rotate_left; intro h; skip; rotate_left)) | (apply C.condBne; exact rfl; (intro h; skip; rotate_left; intro h; skip; rotate_left)) | (apply C.condNDec; exact rfl; (intro h; skip; rotate_left; intro h; skip; rotate_left)) | (apply C.condNot; exact rfl; (intro h; skip; rotate_left; intro h; skip; rotate_left)) | (apply C.cond; exact rfl; (intro h; skip; rotate_left; intro h; skip; rotate_left)))))
  ((apply R.alloc; (simp only [Value.cells]; rfl); exact rfl); intro b2)
  (repeat' (first | refine a_go ?_ | (with_reducible apply Fin.thenK; assumption) | (with_reducible (first | apply C.seqK | apply C.regionK); intro _ _) | (apply R.buildSlice0; exact rfl; intro bz) | (apply R.box; exact rfl; (simp only [Value.cells]; rfl); exact rfl; intro bx) | (apply R.alloc; (simp only [Value.cells]; rfl); exact rfl; intro ba) | (apply R.buildSlice; (exact a_prt); exact rfl; exact rfl; (exact a_fills); exact rfl; intro bl) | (refine a_sp ?_ ?_; (intro h; skip; rotate_left; intro h; skip; rotate_left)) | fail))
  apply R.arr (H2 := hp ++ ((b2, .cells [.int .u64 0, .int .u64 0, .int .i64 0, .slice none 0 0].toArray 31 (0, 0)) :: H)) (by ((try simp only [List.append_assoc, List.cons_append, List.nil_append, List.append_nil]); exact a_arr))
  (apply R.call; (exact a_evs); exact rfl; exact pclear_K ho (by omega); rintro _ M1 _ ⟨rfl, hM1, hp1, ho1, rfl⟩)
  have hcp := clrN_ps pnew d
  by_cases hc1 : (clrN pnew d).1 ≠ 0
  · have hE : openP d = ((clrN pnew d).1, (clrN pnew d).2, none) := if_pos hc1
    rw [hE] at hQ
    (repeat' (first | (apply R.step; (apply Ok.move; exact rfl); exact rfl) | (apply R.step; (apply Ok.neIT; exact rfl; exact rfl; exact hc1); exact rfl) | refine a_go ?_ | (with_reducible apply Fin.thenK; assumption) | (with_reducible (first | apply C.seqK | apply C.regionK); intro _ _) | (apply R.buildSlice0; exact rfl; intro bz) | (apply R.box; exact rfl; (simp only [Value.cells]; rfl); exact rfl; intro bx) | (apply R.alloc; (simp only [Value.cells]; rfl); exact rfl; intro ba) | (apply R.buildSlice; (exact a_prt); exact rfl; exact rfl; (exact a_fills); exact rfl; intro bl) | (refine a_sp ?_ ?_; (intro h; skip; rotate_left; intro h; skip; rotate_left)) | fail))
    (apply Fin.returnA (H2 := hp1 ++ H); assumption; (first | exact .inl rfl | exact .inr rfl); exact rfl; (exact a_res); (simp only [retv]; rfl); (exact a_arr))
    exact ⟨_, rfl, PlB.nil1, hM1, hp1, ho1, rfl⟩
  have hc0 : (clrN pnew d).1 = 0 := by omega
  have hE : openP d = (0, (clrN pnew d).2, snF (framesF ((readD (clrN pnew d).2 pfile).getD []).length ((readD (clrN pnew d).2 pfile).getD [])) ((readD (clrN pnew d).2 pfile).getD []).length) := if_neg hc1
  rw [hE] at hQ
  rw [hc0]
  clear hE hc0 hc1 ho
  generalize (clrN pnew d).2 = d1 at ho1 hcp hQ
  have hbl := readD_len ho1.isok pfile
  (repeat' (first | refine a_go ?_ | (with_reducible apply Fin.thenK; assumption) | (with_reducible (first | apply C.seqK | apply C.regionK); intro _ _) | (apply R.buildSlice0; exact rfl; intro bz) | (apply R.box; exact rfl; (simp only [Value.cells]; rfl); exact rfl; intro bx) | (apply R.alloc; (simp only [Value.cells]; rfl); exact rfl; intro ba) | (apply R.buildSlice; (exact a_prt); exact rfl; exact rfl; (exact a_fills); exact rfl; intro bl) | (refine a_sp ?_ ?_; (intro h; skip; rotate_left; intro h; skip; rotate_left)) | fail))
  (apply R.call; (exact a_evs); exact rfl; exact dread_K (n := pfile) ho1; rintro _ M1 _ ⟨v5, hv5, rfl, hown5, rfl, rfl⟩)
  generalize (readD d1 pfile).getD [] = b at hown5 hbl hQ
  obtain ⟨A5, c5, rfl, k1, k2⟩ := hown5.form
  (apply R.ice (hp := hv5) (H1 := hp1 ++ ((b2, .cells [.int .u64 0, .int .u64 0, .int .i64 0, .slice none 0 0].toArray 31 (0, 0)) :: H)) (by (exact a_arr)); intro M2 hM2 hin5)
  have hpl5 := hown5.plIn hin5
  replace ho1 := ho1.mono hM2
  (repeat' (first | refine a_go ?_ | (with_reducible apply Fin.thenK; assumption) | (with_reducible (first | apply C.seqK | apply C.regionK); intro _ _) | (apply R.buildSlice0; exact rfl; intro bz) | (apply R.box; exact rfl; (simp only [Value.cells]; rfl); exact rfl; intro bx) | (apply R.alloc; (simp only [Value.cells]; rfl); exact rfl; intro ba) | (apply R.buildSlice; (exact a_prt); exact rfl; exact rfl; (exact a_fills); exact rfl; intro bl) | (refine a_sp ?_ ?_; (intro h; skip; rotate_left; intro h; skip; rotate_left)) | fail))
  (apply R.call; (exact a_evs); exact rfl; exact list_KF hpl5 rfl k1 (by (first | omega | (unfold maxLen at k2; omega))) (by omega); rintro _ M3 _ ⟨ov, rfl, hls, hM3, rfl⟩)
  obtain ⟨AL, cL, vs, rfl, q1, q2, q3, q4⟩ := hls
  have hfe := framesF_end b.length b
  generalize framesF b.length b = fs at q1 q4 hQ hfe
  replace ho1 := ho1.mono hM3
  by_cases h1 : fs.length = 1
  rotate_left
  · have hN : snF fs b.length = none := by
      unfold snF
      split
      · exact absurd rfl h1
      · rfl
    rw [hN] at hQ
    (repeat' (first | (apply R.step; (apply Ok.move; exact rfl); exact rfl) | (apply R.step; (apply Ok.neIT; exact rfl; exact rfl; omega); exact rfl) | refine a_go ?_ | (with_reducible apply Fin.thenK; assumption) | (with_reducible (first | apply C.seqK | apply C.regionK); intro _ _) | (apply R.buildSlice0; exact rfl; intro bz) | (apply R.box; exact rfl; (simp only [Value.cells]; rfl); exact rfl; intro bx) | (apply R.alloc; (simp only [Value.cells]; rfl); exact rfl; intro ba) | (apply R.buildSlice; (exact a_prt); exact rfl; exact rfl; (exact a_fills); exact rfl; intro bl) | (refine a_sp ?_ ?_; (intro h; skip; rotate_left; intro h; skip; rotate_left)) | fail))
    (apply Fin.returnA (H2 := hp1 ++ H); assumption; (first | exact .inl rfl | exact .inr rfl); exact rfl; (exact a_res); (simp only [retv]; rfl); (exact a_arr))
    exact ⟨_, rfl, PlB.nil1, hM1.trans_ (hM2.trans_ hM3), hp1, ho1, rfl⟩
  obtain ⟨x, rfl⟩ := List.length_eq_one_iff.1 h1
  have e1 : ([x].length : Int) = 1 := rfl
  have hxe : endS [x] = 8 + x.length := by simp [endS]
  obtain ⟨en, hen⟩ : ∃ en, en = endS [x] := ⟨_, rfl⟩
  rw [← hen] at hfe hxe ⊢
  by_cases h2 : en = b.length
  rotate_left
  · have hN : snF [x] b.length = none := if_neg (by rw [← hen]; exact h2)
    rw [hN] at hQ
    (repeat' (first | (apply R.step; (apply Ok.move; exact rfl); exact rfl) | (apply R.step; (first | (apply Ok.neIR; exact rfl; exact rfl; exact e1) | (apply Ok.neIT; exact rfl; exact rfl; omega)); exact rfl) | refine a_go ?_ | (with_reducible apply Fin.thenK; assumption) | (with_reducible (first | apply C.seqK | apply C.regionK); intro _ _) | (apply R.buildSlice0; exact rfl; intro bz) | (apply R.box; exact rfl; (simp only [Value.cells]; rfl); exact rfl; intro bx) | (apply R.alloc; (simp only [Value.cells]; rfl); exact rfl; intro ba) | (apply R.buildSlice; (exact a_prt); exact rfl; exact rfl; (exact a_fills); exact rfl; intro bl) | (refine a_sp ?_ ?_; (intro h; skip; rotate_left; intro h; skip; rotate_left)) | fail))
    (apply Fin.returnA (H2 := hp1 ++ H); assumption; (first | exact .inl rfl | exact .inr rfl); exact rfl; (exact a_res); (simp only [retv]; rfl); (exact a_arr))
    exact ⟨_, rfl, PlB.nil1, hM1.trans_ (hM2.trans_ hM3), hp1, ho1, rfl⟩
  have hN : snF [x] b.length = snR x := if_pos (by rw [← hen]; exact h2)
  rw [hN] at hQ
  clear hN
  obtain ⟨bb, o, cc, e, fr, Ai, ci, hA, hMb, hcell, _, hl1, hl2, hpi⟩ := PlV.at_ q3 q4 (i := 0) (show 0 < 1 by decide)
  subst hA
  have hcell2 : cc[o + 0 * 1]? = some (.slice Ai x.length ci) := hcell
  have hbx : PlB M3 (.slice Ai x.length ci) x := ⟨Ai, ci, rfl, hl1, hl2, hpi⟩
  (repeat' (first | (apply R.step; (exact a_ok); exact rfl) | (first | (with_reducible first | apply R.nil | apply C.ret | apply C.block | apply C.skip | apply C.exit | apply Fin.thenRet | apply Fin.thenExit | apply Fin.blockNormal | apply Fin.blockRet | apply Fin.blockExit) | (with_reducible apply Fin.thenK; assumption) | (with_reducible apply C.seqK; intro _ _) | (with_reducible apply C.regionK; intro _ _) | (with_reducible apply Fin.blockOther; exact rfl)) | (apply R.store; exact rfl; exact rfl; exact rfl; (exact a_at); (exact a_blit); exact rfl; (focus (simp [Value.oneCell']; done))) | (first | (apply R.guardT; assumption; exact rfl; exact rfl; exact rfl) | (apply R.guardF; assumption; exact rfl; exact rfl; exact rfl; exact rfl; exact rfl) | (apply R.guardU; assumption; exact rfl; exact rfl; exact rfl; exact rfl) | (apply R.guardDec; assumption; exact rfl; exact rfl; (intro h; skip; rotate_left; intro h; skip; rotate_left)) | (apply R.guardBeq; assumption; exact rfl; exact rfl; (intro h; skip; rotate_left; intro h; skip; rotate_left)) | (apply R.guardBne; assumption; exact rfl; exact rfl; (intro h; skip; rotate_left; intro h; skip; rotate_left)) | (apply R.guardNDec; assumption; exact rfl; exact rfl; (intro h; skip; rotate_left; intro h; skip; rotate_left)) | (apply R.guardNot; assumption; exact rfl; exact rfl; (intro h; skip; rotate_left; intro h; skip; rotate_left)) | (apply R.guardC; assumption; exact rfl; exact rfl; (intro h; skip; rotate_left; intro h; skip; rotate_left))) | (first | (apply C.condT; exact rfl) | (apply C.condF; exact rfl) | (apply C.condDec; exact rfl; (intro h; skip; rotate_left; intro h; skip; rotate_left)) | (apply C.condBeq; exact rfl; (intro h; skip; rotate_left; intro h; skip; rotate_left)) | (apply C.condBne; exact rfl; (intro h; skip; rotate_left; intro h; skip; rotate_left)) | (apply C.condNDec; exact rfl; (intro h; skip; rotate_left; intro h; skip; rotate_left)) | (apply C.condNot; exact rfl; (intro h; skip; rotate_left; intro h; skip; rotate_left)) | (apply C.cond; exact rfl; (intro h; skip; rotate_left; intro h; skip; rotate_left)))))
  (repeat' (first | (apply R.step; (apply Ok.move; exact rfl); exact rfl) | (apply R.step; (first | (apply Ok.neIR; exact rfl; exact rfl; exact e1) | (apply Ok.neIR; exact rfl; exact rfl; omega)); exact rfl) | (apply R.step; (exact a_ok); exact rfl) | (first | (with_reducible first | apply R.nil | apply C.ret | apply C.block | apply C.skip | apply C.exit | apply Fin.thenRet | apply Fin.thenExit | apply Fin.blockNormal | apply Fin.blockRet | apply Fin.blockExit) | (with_reducible apply Fin.thenK; assumption) | (with_reducible apply C.seqR; intro _ _) | (with_reducible apply C.regionK; intro _ _) | (with_reducible apply Fin.blockOther; exact rfl)) | (first | (apply R.store; exact rfl; exact rfl; exact rfl; (exact a_at); (exact a_blit); exact rfl; (focus (simp [Value.oneCell']; done))) | (apply R.buildSlice0; exact rfl; intro bz) | (apply R.box; exact rfl; (simp only [Value.cells]; rfl); exact rfl; intro bx) | (apply R.alloc; (simp only [Value.cells]; rfl); exact rfl; intro ba) | (apply R.buildSlice; (exact a_prt); exact rfl; exact rfl; (exact a_fills); exact rfl; intro bl)) | (first | (apply R.guardT; assumption; exact rfl; exact rfl; exact rfl) | (apply R.guardF; assumption; exact rfl; exact rfl; exact rfl; exact rfl; exact rfl) | (apply R.guardU; assumption; exact rfl; exact rfl; exact rfl; exact rfl) | (apply R.guardDec; assumption; exact rfl; exact rfl; (intro h; skip; rotate_left; intro h; skip; rotate_left)) | (apply R.guardBeq; assumption; exact rfl; exact rfl; (intro h; skip; rotate_left; intro h; skip; rotate_left)) | (apply R.guardBne; assumption; exact rfl; exact rfl; (intro h; skip; rotate_left; intro h; skip; rotate_left)) | (apply R.guardNDec; assumption; exact rfl; exact rfl; (intro h; skip; rotate_left; intro h; skip; rotate_left)) | (apply R.guardNot; assumption; exact rfl; exact rfl; (intro h; skip; rotate_left; intro h; skip; rotate_left)) | (apply R.guardC; assumption; exact rfl; exact rfl; (intro h; skip; rotate_left; intro h; skip; rotate_left)))))
  · exfalso
    first | omega | (simp_all; done) | (simp_all; omega)
  (apply R.call; (exact a_evs); exact rfl; exact newReader_K hbx (by omega); rintro _ M4 _ ⟨rb, v4, rfl, hM4, hb4, rfl⟩)
  replace ho1 := ho1.mono hM4
  (repeat' (first | refine a_go ?_ | (with_reducible apply Fin.thenK; assumption) | (with_reducible (first | apply C.seqK | apply C.regionK); intro _ _) | (apply R.buildSlice0; exact rfl; intro bz) | (apply R.box; exact rfl; (simp only [Value.cells]; rfl); exact rfl; intro bx) | (apply R.alloc; (simp only [Value.cells]; rfl); exact rfl; intro ba) | (apply R.buildSlice; (exact a_prt); exact rfl; exact rfl; (exact a_fills); exact rfl; intro bl) | (refine a_sp ?_ ?_; (intro h; skip; rotate_left; intro h; skip; rotate_left)) | fail))
  (apply R.call; (exact a_evs); exact rfl; exact rnum_K (most := 72057594037927935) (at_ := 0) (bad := 0) hb4 (by omega) (Nat.zero_le _); rintro _ M4 _ ⟨rfl, rfl, rfl⟩)
  obtain ⟨z1, hz1⟩ : ∃ z1, z1 = numRd x 72057594037927935 0 0 := ⟨_, rfl⟩
  have g1 := numRd_at (bs := x) (most := 72057594037927935) (at_ := 0) (bad := 0) (Nat.zero_le _)
  rw [← hz1] at g1 ⊢
  obtain ⟨n1, a1, b1⟩ := z1
  dsimp only at g1 ⊢
  (repeat' (first | refine a_go ?_ | (with_reducible apply Fin.thenK; assumption) | (with_reducible (first | apply C.seqK | apply C.regionK); intro _ _) | (apply R.buildSlice0; exact rfl; intro bz) | (apply R.box; exact rfl; (simp only [Value.cells]; rfl); exact rfl; intro bx) | (apply R.alloc; (simp only [Value.cells]; rfl); exact rfl; intro ba) | (apply R.buildSlice; (exact a_prt); exact rfl; exact rfl; (exact a_fills); exact rfl; intro bl) | (refine a_sp ?_ ?_; (intro h; skip; rotate_left; intro h; skip; rotate_left)) | fail))
  (apply R.call; (exact a_evs); exact rfl; exact rnum_K (most := 72057594037927935) (at_ := a1) (bad := b1) hb4 (by omega) g1; rintro _ M4 _ ⟨rfl, rfl, rfl⟩)
  obtain ⟨z2, hz2⟩ : ∃ z2, z2 = numRd x 72057594037927935 a1 b1 := ⟨_, rfl⟩
  have g2 := numRd_at (bs := x) (most := 72057594037927935) (at_ := a1) (bad := b1) g1
  rw [← hz2] at g2 ⊢
  obtain ⟨n2, a2, b2'⟩ := z2
  dsimp only at g2 ⊢
  (repeat' (first | refine a_go ?_ | (with_reducible apply Fin.thenK; assumption) | (with_reducible (first | apply C.seqK | apply C.regionK); intro _ _) | (apply R.buildSlice0; exact rfl; intro bz) | (apply R.box; exact rfl; (simp only [Value.cells]; rfl); exact rfl; intro bx) | (apply R.alloc; (simp only [Value.cells]; rfl); exact rfl; intro ba) | (apply R.buildSlice; (exact a_prt); exact rfl; exact rfl; (exact a_fills); exact rfl; intro bl) | (refine a_sp ?_ ?_; (intro h; skip; rotate_left; intro h; skip; rotate_left)) | fail))
  (apply R.call; (exact a_evs); exact rfl; exact rbyte_K (most := 254) (at_ := a2) (bad := b2') hb4 g2; rintro _ M4 _ ⟨rfl, rfl, rfl⟩)
  obtain ⟨z3, hz3⟩ : ∃ z3, z3 = byteR x 254 a2 b2' := ⟨_, rfl⟩
  have g3 := byteR_at (bs := x) (most := 254) (at_ := a2) (bad := b2') g2
  rw [← hz3] at g3 ⊢
  obtain ⟨n3, a3, b3⟩ := z3
  dsimp only at g3 ⊢
  (repeat' (first | (apply R.step; (apply Ok.move; exact rfl); exact rfl) | (apply R.step; (apply Ok.convBI; exact rfl); exact rfl) | refine a_go ?_ | (with_reducible apply Fin.thenK; assumption) | (with_reducible (first | apply C.seqK | apply C.regionK); intro _ _) | (apply R.buildSlice0; exact rfl; intro bz) | (apply R.box; exact rfl; (simp only [Value.cells]; rfl); exact rfl; intro bx) | (apply R.alloc; (simp only [Value.cells]; rfl); exact rfl; intro ba) | (apply R.buildSlice; (exact a_prt); exact rfl; exact rfl; (exact a_fills); exact rfl; intro bl) | (refine a_sp ?_ ?_; (intro h; skip; rotate_left; intro h; skip; rotate_left)) | fail))
  (apply R.call; (exact a_evs); exact rfl; exact rtext_K (most := 32768) (at_ := a3) (bad := b3) hb4 (by omega) g3 (by decide); rintro vt M5 _ ⟨hM5, hbt, rfl⟩)
  obtain ⟨z4, hz4⟩ : ∃ z4, z4 = textR x 32768 a3 b3 := ⟨_, rfl⟩
  rw [← hz4] at hbt ⊢
  obtain ⟨n4, a4, b4⟩ := z4
  dsimp only at hbt ⊢
  replace hb4 := hb4.mono hM5
  replace ho1 := ho1.mono hM5
  have hsn := snR_of hz1.symm hz2.symm hz3.symm hz4.symm
  unfold snG at hsn
  dsimp only at hsn
  rw [hsn] at hQ
  obtain ⟨Aq, ct, rfl, t1, t2, t3⟩ := id hbt
  (repeat' (first | refine a_go ?_ | (with_reducible apply Fin.thenK; assumption) | (with_reducible (first | apply C.seqK | apply C.regionK); intro _ _) | (apply R.buildSlice0; exact rfl; intro bz) | (apply R.box; exact rfl; (simp only [Value.cells]; rfl); exact rfl; intro bx) | (apply R.alloc; (simp only [Value.cells]; rfl); exact rfl; intro ba) | (apply R.buildSlice; (exact a_prt); exact rfl; exact rfl; (exact a_fills); exact rfl; intro bl) | (refine a_sp ?_ ?_; (intro h; skip; rotate_left; intro h; skip; rotate_left)) | fail))
  (apply R.call; (exact a_evs); exact rfl; exact rend_K (at_ := a4) (bad := b4) hb4 (by omega); rintro _ M5 _ ⟨rfl, rfl, rfl⟩)
  have hMM := hM1.trans_ (hM2.trans_ (hM3.trans_ (hM4.trans_ hM5)))
  by_cases hend : endR x a4 b4 = 0
  rotate_left
  · rw [if_neg (fun h => hend h.1)] at hQ
    (repeat' (first | (apply R.step; (apply Ok.move; exact rfl); exact rfl) | (apply R.step; (apply Ok.neIT; exact rfl; exact rfl; exact hend); exact rfl) | refine a_go ?_ | (with_reducible apply Fin.thenK; assumption) | (with_reducible (first | apply C.seqK | apply C.regionK); intro _ _) | (apply R.buildSlice0; exact rfl; intro bz) | (apply R.box; exact rfl; (simp only [Value.cells]; rfl); exact rfl; intro bx) | (apply R.alloc; (simp only [Value.cells]; rfl); exact rfl; intro ba) | (apply R.buildSlice; (exact a_prt); exact rfl; exact rfl; (exact a_fills); exact rfl; intro bl) | (refine a_sp ?_ ?_; (intro h; skip; rotate_left; intro h; skip; rotate_left)) | fail))
    (apply Fin.returnA (H2 := hp1 ++ H); assumption; (first | exact .inl rfl | exact .inr rfl); exact rfl; (exact a_res); (simp only [retv]; rfl); (exact a_arr))
    exact ⟨_, rfl, PlB.nil1, hMM, hp1, ho1, rfl⟩
  (repeat' (first | (apply R.step; (apply Ok.move; exact rfl); exact rfl) | (apply R.step; (apply Ok.neIR; exact rfl; exact rfl; exact hend); exact rfl) | refine a_go ?_ | (with_reducible apply Fin.thenK; assumption) | (with_reducible (first | apply C.seqK | apply C.regionK); intro _ _) | (apply R.buildSlice0; exact rfl; intro bz) | (apply R.box; exact rfl; (simp only [Value.cells]; rfl); exact rfl; intro bx) | (apply R.alloc; (simp only [Value.cells]; rfl); exact rfl; intro ba) | (apply R.buildSlice; (exact a_prt); exact rfl; exact rfl; (exact a_fills); exact rfl; intro bl) | (refine a_sp ?_ ?_; (intro h; skip; rotate_left; intro h; skip; rotate_left)) | fail))
  (apply R.call; (exact a_evs); exact rfl; exact pright_K (i := n1) (t := n2) (c := (n3.toNat : Int)) (n := n4.length) (A := Aq) (cp := ct); rintro _ M5 _ ⟨rfl, rfl, rfl⟩)
  by_cases hr : rgtP n1 n2 (n3.toNat : Int) n4.length
  rotate_left
  · rw [if_neg (fun h => hr h.2)] at hQ
    rw [decide_eq_false hr]
    (repeat' (first | refine a_go ?_ | (with_reducible apply Fin.thenK; assumption) | (with_reducible (first | apply C.seqK | apply C.regionK); intro _ _) | (apply R.buildSlice0; exact rfl; intro bz) | (apply R.box; exact rfl; (simp only [Value.cells]; rfl); exact rfl; intro bx) | (apply R.alloc; (simp only [Value.cells]; rfl); exact rfl; intro ba) | (apply R.buildSlice; (exact a_prt); exact rfl; exact rfl; (exact a_fills); exact rfl; intro bl) | (refine a_sp ?_ ?_; (intro h; skip; rotate_left; intro h; skip; rotate_left)) | fail))
    (apply Fin.returnA (H2 := hp1 ++ H); assumption; (first | exact .inl rfl | exact .inr rfl); exact rfl; (exact a_res); (simp only [retv]; rfl); (exact a_arr))
    exact ⟨_, rfl, PlB.nil1, hMM, hp1, ho1, rfl⟩
  rw [if_pos ⟨hend, hr⟩] at hQ
  rw [decide_eq_true hr]
  (repeat' (first | refine a_go ?_ | (with_reducible apply Fin.thenK; assumption) | (with_reducible (first | apply C.seqK | apply C.regionK); intro _ _) | (apply R.buildSlice0; exact rfl; intro bz) | (apply R.box; exact rfl; (simp only [Value.cells]; rfl); exact rfl; intro bx) | (apply R.alloc; (simp only [Value.cells]; rfl); exact rfl; intro ba) | (apply R.buildSlice; (exact a_prt); exact rfl; exact rfl; (exact a_fills); exact rfl; intro bl) | (refine a_sp ?_ ?_; (intro h; skip; rotate_left; intro h; skip; rotate_left)) | fail))
  (apply Fin.returnA (H2 := hp1 ++ H); assumption; (first | exact .inl rfl | exact .inr rfl); exact rfl; (exact a_res); (simp only [retv]; rfl); (exact a_arr))
  exact ⟨_, rfl, hbt, hMM, hp1, ho1, rfl⟩
end Go.Sx
end
section
namespace Go.Sx
open Go Go.Proofs Go.RowKit
attribute [local irreducible] C R Fin K Own OwnT Rd Pl Ok KOf RetOk OpsOf RP KP Res NoPanic KV KE MapS ItS EntS FsO FsR RowD PlD
variable {M M' : Mem} {H H1 H2 : Hp}
def tornF (F : Fs) (x : De) (torn : Int) : Fs := match x with
  | .app n b => if 0 < b.length ∧ 0 < (torn % (b.length : Int)).toNat then doF F (.app n (b.take (torn % (b.length : Int)).toNat)) else F
  | _ => F
def keepD (d : Dk) (keep : Int) : Nat := (keep % (d.ps.length + 1 : Nat)).toNat
def crashF (d : Dk) (keep torn : Int) : Fs := match d.ps[keepD d keep]? with
  | some x => tornF ((d.ps.take (keepD d keep)).foldl doF d.S) x torn
  | none => (d.ps.take (keepD d keep)).foldl doF d.S
def crashD (d : Dk) (keep torn : Int) : Dk := ⟨d.room, crashF d keep torn, [], -1, false⟩
theorem Runs.at : ∀ {ps : List De} {F : Fs}, Runs F ps → ∀ {i : Nat} (hi : i < ps.length), Fit ((ps.take i).foldl doF F) ps[i]
  | _ :: _, _, h, 0, _ => h.1
  | x :: _, F, h, i + 1, hi => Runs.at (F := doF F x) h.2 (Nat.lt_of_succ_lt_succ hi)
theorem Runs.sumAt : ∀ {ps : List De} {F : Fs}, sumF F ≤ 1048576 → Runs F ps → ∀ i, sumF ((ps.take i).foldl doF F) ≤ 1048576
  | [], _, h, _, i => by rw [List.take_nil]; exact h
  | _ :: _, _, h, _, 0 => h
  | x :: _, F, _, h, i + 1 => Runs.sumAt (F := doF F x) h.1.1 h.2 i
theorem foldl_nodup : ∀ {ps : List De} {F : Fs}, (keyS F).Nodup → (keyS (ps.foldl doF F)).Nodup
  | [], _, h => h
  | x :: ps, F, h => foldl_nodup (ps := ps) (F := doF F x) (doF_keys h)
theorem torn_fit {F : Fs} {n b : Txt} (hn : (keyS F).Nodup) (h : Fit F (.app n b)) (k : Nat) : Fit F (.app n (b.take k)) := by
  refine ⟨?_, trivial⟩
  have h0 := h.1
  have h1 := sumF_put (b := fileD F n ++ b) (n := n) hn
  have h2 := sumF_put (b := fileD F n ++ b.take k) (n := n) hn
  show sumF (putS F n (fileD F n ++ b.take k)) ≤ _
  change sumF (putS F n (fileD F n ++ b)) ≤ _ at h0
  rw [List.length_append] at h1 h2
  rw [List.length_take] at h2
  omega
theorem torn_sum {F : Fs} {x : De} {torn : Int} (hn : (keyS F).Nodup) (hs : sumF F ≤ 1048576) (h : Fit F x) : sumF (tornF F x torn) ≤ 1048576 := by
  cases x with
  | app n b =>
    unfold tornF
    dsimp only
    split
    · exact (torn_fit hn h _).1
    · exact hs
  | trc n k => exact hs
  | ren n t => exact hs
  | rem n => exact hs
structure CrX where
  i : Nat
  ii : Int
  so : Obj
  M : Mem
structure CrY where
  so : Obj
  M : Mem
theorem crash_K {db : Nat} {d : Dk} {hp : Hp} {keep torn : Int} (ho : DkO M db d hp) (hlen : d.ps.length ≤ 1000000) : K Try.prog 15 [.pointer (some ⟨db, 0, none⟩), .int .i64 keep, .int .i64 torn] M (hp ++ H) fun v' M' H' => v' = .int .i64 (keepD d keep : Int) ∧ M.le M' ∧ ∃ hp', DkO M' db (crashD d keep torn) hp' ∧ H' = hp' ++ H := by
  obtain ⟨hok, sb, nb, so, no, pv, hr, h1, h2, h3, rfl⟩ := ho
  have hnS := h1.nodup
  refine K.enterK Try.func15 rfl rfl rfl ?_
  intro Q hNP hQ
  apply C.ice (hp := hr) (H1 := (db, dkB d.room sb nb pv d.fuse d.down) :: (sb, so) :: H) (by ((try simp only [List.append_assoc, List.cons_append, List.nil_append, List.append_nil]); exact a_arr))
  intro M1 hM1 hin
  obtain ⟨A1, c1, rfl, hc1, hc2⟩ := h3.form
  unfold maxLen at hc2
  have h4 := h3.pl hM1 hin
  have h5 := h1.mono hM1
  clear h1 h2 h3 hin
  have hk0 : 0 ≤ keep % ((d.ps.length + 1 : Nat) : Int) := Int.emod_nonneg _ (by omega)
  have hk1 : keep % ((d.ps.length + 1 : Nat) : Int) < ((d.ps.length + 1 : Nat) : Int) := Int.emod_lt_of_pos _ (by omega)
  obtain ⟨k, hk⟩ : ∃ k, k = keepD d keep := ⟨_, rfl⟩
  have hkk : keep % ((d.ps.length + 1 : Nat) : Int) = (k : Int) := by rw [hk]; unfold keepD; omega
  have hkl : k ≤ d.ps.length := by omega
  unfold dkB
  (repeat' (first | refine a_go ?_ | (with_reducible apply Fin.thenK; assumption) | (with_reducible (first | apply C.seqK | apply C.regionK); intro _ _) | (apply R.buildSlice0; exact rfl; intro bz) | (apply R.box; exact rfl; (simp only [Value.cells]; rfl); exact rfl; intro bx) | (apply R.alloc; (simp only [Value.cells]; rfl); exact rfl; intro ba) | (apply R.buildSlice; (exact a_prt); exact rfl; exact rfl; (exact a_fills); exact rfl; intro bl) | (refine a_sp ?_ ?_; (intro h; skip; rotate_left; intro h; skip; rotate_left)) | fail))
  (apply R.call; (exact a_evs); exact rfl); exact within_K keep ((d.ps.length : Int) + 1) (by omega) (by omega); rintro _ M1 _ ⟨rfl, rfl, rfl⟩
  rw [show (d.ps.length : Int) + 1 = ((d.ps.length + 1 : Nat) : Int) by omega, hkk]
  (repeat' (first | (apply R.step; (apply Ok.move; exact rfl); exact rfl) | (apply R.step; (apply Ok.sliceHi; exact rfl; exact rfl; omega; omega); exact rfl) | refine a_go ?_ | (with_reducible apply Fin.thenK; assumption) | (with_reducible (first | apply C.seqK | apply C.regionK); intro _ _) | (apply R.buildSlice0; exact rfl; intro bz) | (apply R.box; exact rfl; (simp only [Value.cells]; rfl); exact rfl; intro bx) | (apply R.alloc; (simp only [Value.cells]; rfl); exact rfl; intro ba) | (apply R.buildSlice; (exact a_prt); exact rfl; exact rfl; (exact a_fills); exact rfl; intro bl) | (refine a_sp ?_ ?_; (intro h; skip; rotate_left; intro h; skip; rotate_left)) | fail))
  apply C.loop (fun y : CrX => (y.i : Int) = y.ii ∧ y.i ≤ k ∧ M1.le y.M ∧ FsO y.M y.so ((d.ps.take y.i).foldl doF d.S))
    (fun y => [(0, .pointer (some ⟨db, 0, none⟩)), (2, .int .i64 torn), (7, .int .i64 (k : Int)), (31, .slice A1 ((k : Int)).toNat c1), (32, .int .i64 (k : Int)), (33, .int .i64 y.ii)]) (fun y => y.M) (fun y => (db, .cells [.int .i64 d.room, .map (some sb), .map (some sb), .slice A1 d.ps.length c1, .int .i64 d.fuse, .bool d.down].toArray 61 (0, 0)) :: (sb, y.so) :: H) (fun y => k - y.i) ⟨0, 0, so, M1⟩
  · exact ⟨rfl, Nat.zero_le _, Mem.le_refl _, h5⟩
  · (exact a_subs)
  · exact rfl
  · exact rfl
  rintro ⟨i, ii, so1, M2⟩ ⟨hii, hik, hM2, hf⟩
  dsimp only at hii hik hM2 hf ⊢
  by_cases hlt : i < k
  · have hip : i < d.ps.length := by omega
    obtain ⟨b0, o0, cc, e0, f0, dc, rfl, hMb, hdc, hcell⟩ := (h4.mono hM2).at hip
    have hfit := hok.2.2.2.at hip
    have hc5 := hdc.cells
    obtain ⟨c0, d1, d2, d3, d4, rfl⟩ : ∃ c0 c1 c2 c3 c4, dc = [c0, c1, c2, c3, c4] := by
      match dc, hc5.1 with
      | [a, b, c, d, e], _ => exact ⟨a, b, c, d, e, rfl⟩
    have hcell2 : ∀ (q : Nat) u, [c0, d1, d2, d3, d4][q]? = some u → cc[o0 + ii.toNat * 5 + q]? = some u := fun q u hq => by
      rw [show ii.toNat = i by omega]
      exact hcell q u hq
    clear hcell
    (repeat' (first | refine a_go ?_ | (with_reducible apply Fin.thenK; assumption) | (with_reducible (first | apply C.seqK | apply C.regionK); intro _ _) | (apply R.buildSlice0; exact rfl; intro bz) | (apply R.box; exact rfl; (simp only [Value.cells]; rfl); exact rfl; intro bx) | (apply R.alloc; (simp only [Value.cells]; rfl); exact rfl; intro ba) | (apply R.buildSlice; (exact a_prt); exact rfl; exact rfl; (exact a_fills); exact rfl; intro bl) | (refine a_sp ?_ ?_; (intro h; skip; rotate_left; intro h; skip; rotate_left)) | fail))
    · (apply R.store (vs := [c0, d1, d2, d3, d4]); exact rfl; exact rfl; exact rfl; (exact a_at); (exact a_blit); exact rfl; exact hc5.2)
      (repeat' (first | refine a_go ?_ | (with_reducible apply Fin.thenK; assumption) | (with_reducible (first | apply C.seqK | apply C.regionK); intro _ _) | (apply R.buildSlice0; exact rfl; intro bz) | (apply R.box; exact rfl; (simp only [Value.cells]; rfl); exact rfl; intro bx) | (apply R.alloc; (simp only [Value.cells]; rfl); exact rfl; intro ba) | (apply R.buildSlice; (exact a_prt); exact rfl; exact rfl; (exact a_fills); exact rfl; intro bl) | (refine a_sp ?_ ?_; (intro h; skip; rotate_left; intro h; skip; rotate_left)) | fail))
      apply C.arr (H2 := (ba, .cells [c0, d1, d2, d3, d4].toArray 83 (0, 0)) :: (db, .cells [.int .i64 d.room, .map (some sb), .map (some sb), .slice (some ⟨b0, o0, none⟩) d.ps.length c1, .int .i64 d.fuse, .bool d.down].toArray 61 (0, 0)) :: (sb, so1) :: H) (by ((try simp only [List.append_assoc, List.cons_append, List.nil_append, List.append_nil]); exact a_arr))
      (apply C.regionO (ks := [1, 1, 1, 1, 1, 0]) (is := [0, 1, 2, 3, 4, 5]) (Hs := [(ba, .cells [c0, d1, d2, d3, d4].toArray 83 (0, 0)), (db, .cells [.int .i64 d.room, .map (some sb), .map (some sb), .slice (some ⟨b0, o0, none⟩) d.ps.length c1, .int .i64 d.fuse, .bool d.down].toArray 61 (0, 0))]); exact Mix.h; (first | exact Arr.all _ | (exact a_arr)); (exact a_np); (exact a_picked); kernel_rfl; intro _ e; subst e)
      (repeat' (first | (first | (apply RP.step; intro _ _ _; (exact a_ok); exact rfl) | (apply RP.stepT; exact rfl; exact rfl; exact rfl; intro _ _ _; (exact a_ok); exact rfl) | (apply RP.stepF; exact rfl; exact rfl; exact rfl; exact rfl; exact rfl) | (apply RP.effF; exact rfl; exact rfl; exact rfl; exact rfl; exact rfl)) | (apply RP.callQ; (exact a_evs); exact rfl)))
      (apply RP.eff; intro Kc hKc ops0)
      (apply R.call; (exact a_evs); exact rfl; (apply K.arr (h := does_K (nb := sb) hf hdc hfit)); ((try simp only [List.append_eq, List.append_assoc, List.cons_append, List.nil_append, List.append_nil]); exact a_arr); rintro _ M3 _ ⟨rfl, hM3, so2, hf3, rfl⟩)
      (apply R.nil; apply Fin.kpB (E := []) hKc; exact hM3; ((try simp only [List.append_eq, List.append_assoc, List.cons_append, List.nil_append, List.append_nil]); exact a_arr))
      (first | apply RP.nil0 | apply RP.nil)
      (repeat' (first | refine a_go ?_ | (with_reducible apply Fin.thenK; assumption) | (with_reducible (first | apply C.seqK | apply C.regionK); intro _ _) | (apply R.buildSlice0; exact rfl; intro bz) | (apply R.box; exact rfl; (simp only [Value.cells]; rfl); exact rfl; intro bx) | (apply R.alloc; (simp only [Value.cells]; rfl); exact rfl; intro ba) | (apply R.buildSlice; (exact a_prt); exact rfl; exact rfl; (exact a_fills); exact rfl; intro bl) | (refine a_sp ?_ ?_; (intro h; skip; rotate_left; intro h; skip; rotate_left)) | fail))
      apply Fin.arr (H2 := (db, .cells [.int .i64 d.room, .map (some sb), .map (some sb), .slice (some ⟨b0, o0, none⟩) d.ps.length c1, .int .i64 d.fuse, .bool d.down].toArray 61 (0, 0)) :: (sb, so2) :: H) (by ((try simp only [List.append_assoc, List.cons_append, List.nil_append, List.append_nil]); exact a_arr))
      refine Fin.again (⟨i + 1, ii + 1, so2, M3⟩ : CrX) ⟨by dsimp only; omega, by dsimp only; omega, hM2.trans_ hM3, ?_⟩ (by dsimp only; omega) ?_ rfl rfl
      · dsimp only
        rw [List.take_succ_eq_append_getElem hip, List.foldl_append]
        exact hf3
      (exact a_subs)
    all_goals (exfalso; omega)
  · have hie : i = k := by omega
    subst hie
    have hpre := Runs.sumAt hok.2.2.1 hok.2.2.2 i
    have hnp : (keyS ((d.ps.take i).foldl doF d.S)).Nodup := foldl_nodup hnS
    (repeat' (first | (apply R.step; (exact a_ok); exact rfl) | (first | (with_reducible first | apply R.nil | apply C.ret | apply C.block | apply C.skip | apply C.exit | apply Fin.thenRet | apply Fin.thenExit | apply Fin.blockNormal | apply Fin.blockRet | apply Fin.blockExit) | (with_reducible apply Fin.thenK; assumption) | (with_reducible apply C.seqR; intro _ _) | (with_reducible apply C.regionK; intro _ _) | (with_reducible apply Fin.blockOther; exact rfl)) | (first | (apply R.store; exact rfl; exact rfl; exact rfl; (exact a_at); (exact a_blit); exact rfl; (focus (simp [Value.oneCell']; done))) | (apply R.buildSlice0; exact rfl; intro bz) | (apply R.box; exact rfl; (simp only [Value.cells]; rfl); exact rfl; intro bx) | (apply R.alloc; (simp only [Value.cells]; rfl); exact rfl; intro ba) | (apply R.buildSlice; (exact a_prt); exact rfl; exact rfl; (exact a_fills); exact rfl; intro bl)) | (first | (apply R.guardT; assumption; exact rfl; exact rfl; exact rfl) | (apply R.guardF; assumption; exact rfl; exact rfl; exact rfl; exact rfl; exact rfl) | (apply R.guardU; assumption; exact rfl; exact rfl; exact rfl; exact rfl) | (apply R.guardDec; assumption; exact rfl; exact rfl; (intro h; skip; rotate_left; intro h; skip; rotate_left)) | (apply R.guardBeq; assumption; exact rfl; exact rfl; (intro h; skip; rotate_left; intro h; skip; rotate_left)) | (apply R.guardBne; assumption; exact rfl; exact rfl; (intro h; skip; rotate_left; intro h; skip; rotate_left)) | (apply R.guardNDec; assumption; exact rfl; exact rfl; (intro h; skip; rotate_left; intro h; skip; rotate_left)) | (apply R.guardNot; assumption; exact rfl; exact rfl; (intro h; skip; rotate_left; intro h; skip; rotate_left)) | (apply R.guardC; assumption; exact rfl; exact rfl; (intro h; skip; rotate_left; intro h; skip; rotate_left)))))
    (apply C.seqK; intro _ _)
    (apply C.condDec; exact rfl; (intro h; exfalso; omega); intro _)
    (repeat' (first | (apply R.step; (exact a_ok); exact rfl) | (first | (with_reducible first | apply R.nil | apply C.ret | apply C.block | apply C.skip | apply C.exit | apply Fin.thenRet | apply Fin.thenExit | apply Fin.blockNormal | apply Fin.blockRet | apply Fin.blockExit) | (with_reducible apply Fin.thenK; assumption) | (with_reducible apply C.seqR; intro _ _) | (with_reducible apply C.regionK; intro _ _) | (with_reducible apply Fin.blockOther; exact rfl)) | (first | (apply R.store; exact rfl; exact rfl; exact rfl; (exact a_at); (exact a_blit); exact rfl; (focus (simp [Value.oneCell']; done))) | (apply R.buildSlice0; exact rfl; intro bz) | (apply R.box; exact rfl; (simp only [Value.cells]; rfl); exact rfl; intro bx) | (apply R.alloc; (simp only [Value.cells]; rfl); exact rfl; intro ba) | (apply R.buildSlice; (exact a_prt); exact rfl; exact rfl; (exact a_fills); exact rfl; intro bl)) | (first | (apply R.guardT; assumption; exact rfl; exact rfl; exact rfl) | (apply R.guardF; assumption; exact rfl; exact rfl; exact rfl; exact rfl; exact rfl) | (apply R.guardU; assumption; exact rfl; exact rfl; exact rfl; exact rfl) | (apply R.guardDec; assumption; exact rfl; exact rfl; (intro h; skip; rotate_left; intro h; skip; rotate_left)) | (apply R.guardBeq; assumption; exact rfl; exact rfl; (intro h; skip; rotate_left; intro h; skip; rotate_left)) | (apply R.guardBne; assumption; exact rfl; exact rfl; (intro h; skip; rotate_left; intro h; skip; rotate_left)) | (apply R.guardNDec; assumption; exact rfl; exact rfl; (intro h; skip; rotate_left; intro h; skip; rotate_left)) | (apply R.guardNot; assumption; exact rfl; exact rfl; (intro h; skip; rotate_left; intro h; skip; rotate_left)) | (apply R.guardC; assumption; exact rfl; exact rfl; (intro h; skip; rotate_left; intro h; skip; rotate_left)))))
    have hno : d.ps.length ≤ i → crashF d keep torn = (d.ps.take i).foldl doF d.S := fun h => by
      unfold crashF
      rw [← hk, List.getElem?_eq_none h]
    have hyes : ∀ (h : i < d.ps.length), crashF d keep torn = tornF ((d.ps.take i).foldl doF d.S) d.ps[i] torn := fun h => by
      unfold crashF
      rw [← hk, List.getElem?_eq_getElem h]
    have hcs : sumF (crashF d keep torn) ≤ 1048576 := by
      by_cases hip : i < d.ps.length
      · rw [hyes hip]
        exact torn_sum hnp hpre (hok.2.2.2.at hip)
      · rw [hno (by omega)]
        exact hpre
    apply C.seqCut (X := CrY) (fun y => M1.le y.M ∧ FsO y.M y.so (crashF d keep torn)) (fun _ => [(0, .pointer (some ⟨db, 0, none⟩)), (7, .int .i64 (i : Int))]) (fun y => y.M) (fun y => (db, .cells [.int .i64 d.room, .map (some sb), .map (some sb), .slice A1 d.ps.length c1, .int .i64 d.fuse, .bool d.down].toArray 61 (0, 0)) :: (sb, y.so) :: H)
    · by_cases hip : i < d.ps.length
      · rw [hyes hip]
        have hfit := hok.2.2.2.at hip
        obtain ⟨b0, o0, cc, e0, f0, dc, rfl, hMb, hdc, hcell⟩ := (h4.mono hM2).at hip
        have hcell2 : ∀ (q : Nat) u, dc[q]? = some u → cc[o0 + ((i : Nat) : Int).toNat * 5 + q]? = some u := fun q u hq => hcell q u hq
        clear hcell hyes hno hcs
        generalize d.ps[i] = x at hdc hfit ⊢
        cases x with
        | trc n kk =>
          have hc5 := hdc.cells.2
          subst hdc
          (repeat' (first | refine a_go ?_ | (with_reducible apply Fin.thenK; assumption) | (with_reducible (first | apply C.seqK | apply C.regionK); intro _ _) | (apply R.buildSlice0; exact rfl; intro bz) | (apply R.box; exact rfl; (simp only [Value.cells]; rfl); exact rfl; intro bx) | (apply R.alloc; (simp only [Value.cells]; rfl); exact rfl; intro ba) | (apply R.buildSlice; (exact a_prt); exact rfl; exact rfl; (exact a_fills); exact rfl; intro bl) | (refine a_sp ?_ ?_; (intro h; skip; rotate_left; intro h; skip; rotate_left)) | fail))
          · (apply R.store (vs := [.int .i64 1, str n, str [], .slice none 0 0, .int .i64 ↑kk]); exact rfl; exact rfl; exact rfl; (exact a_at); (exact a_blit); exact rfl; exact hc5)
            (repeat' (first | refine a_go ?_ | (with_reducible apply Fin.thenK; assumption) | (with_reducible (first | apply C.seqK | apply C.regionK); intro _ _) | (apply R.buildSlice0; exact rfl; intro bz) | (apply R.box; exact rfl; (simp only [Value.cells]; rfl); exact rfl; intro bx) | (apply R.alloc; (simp only [Value.cells]; rfl); exact rfl; intro ba) | (apply R.buildSlice; (exact a_prt); exact rfl; exact rfl; (exact a_fills); exact rfl; intro bl) | (refine a_sp ?_ ?_; (intro h; skip; rotate_left; intro h; skip; rotate_left)) | fail))
            apply Fin.arr (H2 := (db, .cells [.int .i64 d.room, .map (some sb), .map (some sb), .slice (some ⟨b0, o0, none⟩) d.ps.length c1, .int .i64 d.fuse, .bool d.down].toArray 61 (0, 0)) :: (sb, so1) :: H) (by ((try simp only [List.append_assoc, List.cons_append, List.nil_append, List.append_nil]); exact a_arr))
            refine Fin.join (⟨so1, M2⟩ : CrY) ⟨hM2, hf⟩ ?_ rfl rfl
            (exact a_subs)
          all_goals (exfalso; omega)
        | ren n t =>
          have hc5 := hdc.cells.2
          subst hdc
          (repeat' (first | refine a_go ?_ | (with_reducible apply Fin.thenK; assumption) | (with_reducible (first | apply C.seqK | apply C.regionK); intro _ _) | (apply R.buildSlice0; exact rfl; intro bz) | (apply R.box; exact rfl; (simp only [Value.cells]; rfl); exact rfl; intro bx) | (apply R.alloc; (simp only [Value.cells]; rfl); exact rfl; intro ba) | (apply R.buildSlice; (exact a_prt); exact rfl; exact rfl; (exact a_fills); exact rfl; intro bl) | (refine a_sp ?_ ?_; (intro h; skip; rotate_left; intro h; skip; rotate_left)) | fail))
          · (apply R.store (vs := [.int .i64 2, str n, str t, .slice none 0 0, .int .i64 0]); exact rfl; exact rfl; exact rfl; (exact a_at); (exact a_blit); exact rfl; exact hc5)
            (repeat' (first | refine a_go ?_ | (with_reducible apply Fin.thenK; assumption) | (with_reducible (first | apply C.seqK | apply C.regionK); intro _ _) | (apply R.buildSlice0; exact rfl; intro bz) | (apply R.box; exact rfl; (simp only [Value.cells]; rfl); exact rfl; intro bx) | (apply R.alloc; (simp only [Value.cells]; rfl); exact rfl; intro ba) | (apply R.buildSlice; (exact a_prt); exact rfl; exact rfl; (exact a_fills); exact rfl; intro bl) | (refine a_sp ?_ ?_; (intro h; skip; rotate_left; intro h; skip; rotate_left)) | fail))
            apply Fin.arr (H2 := (db, .cells [.int .i64 d.room, .map (some sb), .map (some sb), .slice (some ⟨b0, o0, none⟩) d.ps.length c1, .int .i64 d.fuse, .bool d.down].toArray 61 (0, 0)) :: (sb, so1) :: H) (by ((try simp only [List.append_assoc, List.cons_append, List.nil_append, List.append_nil]); exact a_arr))
            refine Fin.join (⟨so1, M2⟩ : CrY) ⟨hM2, hf⟩ ?_ rfl rfl
            (exact a_subs)
          all_goals (exfalso; omega)
        | rem n =>
          have hc5 := hdc.cells.2
          subst hdc
          (repeat' (first | refine a_go ?_ | (with_reducible apply Fin.thenK; assumption) | (with_reducible (first | apply C.seqK | apply C.regionK); intro _ _) | (apply R.buildSlice0; exact rfl; intro bz) | (apply R.box; exact rfl; (simp only [Value.cells]; rfl); exact rfl; intro bx) | (apply R.alloc; (simp only [Value.cells]; rfl); exact rfl; intro ba) | (apply R.buildSlice; (exact a_prt); exact rfl; exact rfl; (exact a_fills); exact rfl; intro bl) | (refine a_sp ?_ ?_; (intro h; skip; rotate_left; intro h; skip; rotate_left)) | fail))
          · (apply R.store (vs := [.int .i64 3, str n, str [], .slice none 0 0, .int .i64 0]); exact rfl; exact rfl; exact rfl; (exact a_at); (exact a_blit); exact rfl; exact hc5)
            (repeat' (first | refine a_go ?_ | (with_reducible apply Fin.thenK; assumption) | (with_reducible (first | apply C.seqK | apply C.regionK); intro _ _) | (apply R.buildSlice0; exact rfl; intro bz) | (apply R.box; exact rfl; (simp only [Value.cells]; rfl); exact rfl; intro bx) | (apply R.alloc; (simp only [Value.cells]; rfl); exact rfl; intro ba) | (apply R.buildSlice; (exact a_prt); exact rfl; exact rfl; (exact a_fills); exact rfl; intro bl) | (refine a_sp ?_ ?_; (intro h; skip; rotate_left; intro h; skip; rotate_left)) | fail))
            apply Fin.arr (H2 := (db, .cells [.int .i64 d.room, .map (some sb), .map (some sb), .slice (some ⟨b0, o0, none⟩) d.ps.length c1, .int .i64 d.fuse, .bool d.down].toArray 61 (0, 0)) :: (sb, so1) :: H) (by ((try simp only [List.append_assoc, List.cons_append, List.nil_append, List.append_nil]); exact a_arr))
            refine Fin.join (⟨so1, M2⟩ : CrY) ⟨hM2, hf⟩ ?_ rfl rfl
            (exact a_subs)
          all_goals (exfalso; omega)
        | app n b =>
          have hc5 := hdc.cells.2
          obtain ⟨bb, rfl, hbv⟩ := hdc
          obtain ⟨A2, c2, rfl, hb1, hb2, hb3⟩ := id hbv
          have hbl : b.length ≤ 1048576 := by
            have h1 : fileD (doF ((d.ps.take i).foldl doF d.S) (.app n b)) n = fileD ((d.ps.take i).foldl doF d.S) n ++ b := fileD_put hnp
            have h2 : (fileD (doF ((d.ps.take i).foldl doF d.S) (.app n b)) n).length ≤ 1048576 := Nat.le_trans fileD_len hfit.1
            rw [h1, List.length_append] at h2
            omega
          (repeat' (first | refine a_go ?_ | (with_reducible apply Fin.thenK; assumption) | (with_reducible (first | apply C.seqK | apply C.regionK); intro _ _) | (apply R.buildSlice0; exact rfl; intro bz) | (apply R.box; exact rfl; (simp only [Value.cells]; rfl); exact rfl; intro bx) | (apply R.alloc; (simp only [Value.cells]; rfl); exact rfl; intro ba) | (apply R.buildSlice; (exact a_prt); exact rfl; exact rfl; (exact a_fills); exact rfl; intro bl) | (refine a_sp ?_ ?_; (intro h; skip; rotate_left; intro h; skip; rotate_left)) | fail))
          · (apply R.store (vs := [.int .i64 0, str n, str [], .slice A2 b.length c2, .int .i64 0]); exact rfl; exact rfl; exact rfl; (exact a_at); (exact a_blit); exact rfl; exact hc5)
            (repeat' (first | refine a_go ?_ | (with_reducible apply Fin.thenK; assumption) | (with_reducible (first | apply C.seqK | apply C.regionK); intro _ _) | (apply R.buildSlice0; exact rfl; intro bz) | (apply R.box; exact rfl; (simp only [Value.cells]; rfl); exact rfl; intro bx) | (apply R.alloc; (simp only [Value.cells]; rfl); exact rfl; intro ba) | (apply R.buildSlice; (exact a_prt); exact rfl; exact rfl; (exact a_fills); exact rfl; intro bl) | (refine a_sp ?_ ?_; (intro h; skip; rotate_left; intro h; skip; rotate_left)) | fail))
            · have hb0 : 0 < b.length := by
                have h : (0 : Int) < (b.length : Int) := by assumption
                omega
              have ht0 : 0 ≤ torn % (b.length : Int) := Int.emod_nonneg _ (by omega)
              have ht1 : torn % (b.length : Int) < (b.length : Int) := Int.emod_lt_of_pos _ (by omega)
              obtain ⟨tn, htn⟩ : ∃ tn : Nat, torn % (b.length : Int) = (tn : Int) := ⟨_, (Int.toNat_of_nonneg ht0).symm⟩
              (apply C.regionE (isA := [0, 1, 2, 3, 4, 5, 6, 7]) (ksA := [true, true, true, true, true, true, false, true]) (isB := [8, 9]) (ksB := [1, 0]) (Hs := [(ba, .cells [.int .i64 0, str n, str [], .slice A2 b.length c2, .int .i64 0].toArray 83 (0, 0))]); exact Mix.h; (first | exact Arr.all _ | (exact a_arr)); (exact a_np); (exact a_picked); (exact a_picked); kernel_rfl; intro _ e; subst e)
              (repeat' (first | fail | (apply RQ.step; intro _ _ _; (exact a_ok); exact rfl) | (apply RQ.stepT; exact rfl; exact rfl; exact rfl; intro _ _ _; (exact a_ok); exact rfl) | (apply RQ.stepF; exact rfl; exact rfl; exact rfl; exact rfl; exact rfl)))
              (apply RQ.eff; intro Kc hKc ops0)
              (apply R.call; (exact a_evs); exact rfl); exact within_K torn (b.length : Int) (by omega) (by omega); rintro _ M2 _ ⟨rfl, rfl, rfl⟩
              (apply R.nil; apply Fin.kq hKc; exact Mem.le_refl _; (exact a_arr))
              rw [htn]
              (repeat' (first | (apply RQ.step; intro _ _ _; (apply Ok.sliceHi; exact rfl; exact rfl; omega; omega); exact rfl) | (apply RQ.step; intro _ _ _; (exact a_ok); exact rfl) | (apply RQ.stepT; exact rfl; exact rfl; exact rfl; intro _ _ _; (exact a_ok); exact rfl) | (apply RQ.stepF; exact rfl; exact rfl; exact rfl; exact rfl; exact rfl)))
              apply RQ.nil
              (repeat' (first | (first | (apply RP.step; intro _ _ _; (exact a_ok); exact rfl) | (apply RP.stepT; exact rfl; exact rfl; exact rfl; intro _ _ _; (exact a_ok); exact rfl) | (apply RP.stepF; exact rfl; exact rfl; exact rfl; exact rfl; exact rfl) | (apply RP.effF; exact rfl; exact rfl; exact rfl; exact rfl; exact rfl)) | (apply RP.callQ; (exact a_evs); exact rfl)))
              (apply RP.eff; intro Kc hKc ops0)
              (apply R.store (vs := [.slice A2 ((tn : Int)).toNat c2]); exact rfl; exact rfl; exact rfl; (exact a_at); (exact a_blit); exact rfl; (intro u hu; rw [List.mem_singleton] at hu; rw [hu]; rfl))
              (apply R.nil; apply Fin.kp hKc; exact Mem.le_refl _; (exact a_arr))
              (first | apply RP.nil0 | apply RP.nil)
              have htl : (b.take tn).length = ((tn : Int)).toNat := by rw [List.length_take]; omega
              have hb4 : PlB M2 (.slice A2 ((tn : Int)).toNat c2) (b.take tn) := ⟨A2, c2, by rw [htl], by omega, hb2, by rw [List.map_take]; exact hb3.take tn⟩
              (repeat' (first | refine a_go ?_ | (with_reducible apply Fin.thenK; assumption) | (with_reducible (first | apply C.seqK | apply C.regionK); intro _ _) | (apply R.buildSlice0; exact rfl; intro bz) | (apply R.box; exact rfl; (simp only [Value.cells]; rfl); exact rfl; intro bx) | (apply R.alloc; (simp only [Value.cells]; rfl); exact rfl; intro ba) | (apply R.buildSlice; (exact a_prt); exact rfl; exact rfl; (exact a_fills); exact rfl; intro bl) | (refine a_sp ?_ ?_; (intro h; skip; rotate_left; intro h; skip; rotate_left)) | fail))
              · have hpos : 0 < tn := by
                  have h : (0 : Int) < (((tn : Int)).toNat : Int) := by assumption
                  omega
                have hE : tornF ((d.ps.take i).foldl doF d.S) (.app n b) torn = doF ((d.ps.take i).foldl doF d.S) (.app n (b.take tn)) := by
                  unfold tornF
                  dsimp only
                  rw [htn]
                  exact if_pos ⟨hb0, hpos⟩
                rw [hE]
                apply C.arr (H2 := (ba, .cells [.int .i64 0, str n, str [], .slice A2 ((tn : Int)).toNat c2, .int .i64 0].toArray 83 (0, 0)) :: (db, .cells [.int .i64 d.room, .map (some sb), .map (some sb), .slice (some ⟨b0, o0, none⟩) d.ps.length c1, .int .i64 d.fuse, .bool d.down].toArray 61 (0, 0)) :: (sb, so1) :: H) (by ((try simp only [List.append_assoc, List.cons_append, List.nil_append, List.append_nil]); exact a_arr))
                (apply C.regionO (ks := [1, 1, 1, 1, 1, 0]) (is := [0, 1, 2, 3, 4, 5]) (Hs := [(ba, .cells [.int .i64 0, str n, str [], .slice A2 (Int.toNat ↑tn) c2, .int .i64 0].toArray 83 (0, 0)), (db, .cells [.int .i64 d.room, .map (some sb), .map (some sb), .slice (some ⟨b0, o0, none⟩) d.ps.length c1, .int .i64 d.fuse, .bool d.down].toArray 61 (0, 0))]); exact Mix.h; (first | exact Arr.all _ | (exact a_arr)); (exact a_np); (exact a_picked); kernel_rfl; intro _ e; subst e)
                (repeat' (first | (first | (apply RP.step; intro _ _ _; (exact a_ok); exact rfl) | (apply RP.stepT; exact rfl; exact rfl; exact rfl; intro _ _ _; (exact a_ok); exact rfl) | (apply RP.stepF; exact rfl; exact rfl; exact rfl; exact rfl; exact rfl) | (apply RP.effF; exact rfl; exact rfl; exact rfl; exact rfl; exact rfl)) | (apply RP.callQ; (exact a_evs); exact rfl)))
                (apply RP.eff; intro Kc hKc ops0)
                (apply R.call; (exact a_evs); exact rfl; (apply K.arr (h := does_K (nb := sb) (x := .app n (b.take tn)) hf ⟨_, rfl, hb4⟩ (torn_fit hnp hfit tn))); ((try simp only [List.append_eq, List.append_assoc, List.cons_append, List.nil_append, List.append_nil]); exact a_arr); rintro _ M3 _ ⟨rfl, hM3, so2, hf3, rfl⟩)
                (apply R.nil; apply Fin.kpB (E := []) hKc; exact hM3; ((try simp only [List.append_eq, List.append_assoc, List.cons_append, List.nil_append, List.append_nil]); exact a_arr))
                (first | apply RP.nil0 | apply RP.nil)
                (repeat' (first | refine a_go ?_ | (with_reducible apply Fin.thenK; assumption) | (with_reducible (first | apply C.seqK | apply C.regionK); intro _ _) | (apply R.buildSlice0; exact rfl; intro bz) | (apply R.box; exact rfl; (simp only [Value.cells]; rfl); exact rfl; intro bx) | (apply R.alloc; (simp only [Value.cells]; rfl); exact rfl; intro ba) | (apply R.buildSlice; (exact a_prt); exact rfl; exact rfl; (exact a_fills); exact rfl; intro bl) | (refine a_sp ?_ ?_; (intro h; skip; rotate_left; intro h; skip; rotate_left)) | fail))
                apply Fin.arr (H2 := (db, .cells [.int .i64 d.room, .map (some sb), .map (some sb), .slice (some ⟨b0, o0, none⟩) d.ps.length c1, .int .i64 d.fuse, .bool d.down].toArray 61 (0, 0)) :: (sb, so2) :: H) (by ((try simp only [List.append_assoc, List.cons_append, List.nil_append, List.append_nil]); exact a_arr))
                refine Fin.join (⟨so2, M3⟩ : CrY) ⟨hM2.trans_ hM3, hf3⟩ ?_ rfl rfl
                (exact a_subs)
              · have hz : tn = 0 := by
                  have h : ¬ (0 : Int) < (((tn : Int)).toNat : Int) := by assumption
                  omega
                have hE : tornF ((d.ps.take i).foldl doF d.S) (.app n b) torn = (d.ps.take i).foldl doF d.S := by
                  unfold tornF
                  dsimp only
                  rw [htn]
                  exact if_neg (fun h => by have := h.2; omega)
                rw [hE]
                apply Fin.arr (H2 := (db, .cells [.int .i64 d.room, .map (some sb), .map (some sb), .slice (some ⟨b0, o0, none⟩) d.ps.length c1, .int .i64 d.fuse, .bool d.down].toArray 61 (0, 0)) :: (sb, so1) :: H) (by ((try simp only [List.append_assoc, List.cons_append, List.nil_append, List.append_nil]); exact a_arr))
                refine Fin.join (⟨so1, M2⟩ : CrY) ⟨hM2, hf⟩ ?_ rfl rfl
                (exact a_subs)
            · have hz : ¬ 0 < b.length := by
                have h : ¬ (0 : Int) < (b.length : Int) := by assumption
                omega
              have hE : tornF ((d.ps.take i).foldl doF d.S) (.app n b) torn = (d.ps.take i).foldl doF d.S := if_neg (fun h => hz h.1)
              rw [hE]
              apply Fin.arr (H2 := (db, .cells [.int .i64 d.room, .map (some sb), .map (some sb), .slice (some ⟨b0, o0, none⟩) d.ps.length c1, .int .i64 d.fuse, .bool d.down].toArray 61 (0, 0)) :: (sb, so1) :: H) (by ((try simp only [List.append_assoc, List.cons_append, List.nil_append, List.append_nil]); exact a_arr))
              refine Fin.join (⟨so1, M2⟩ : CrY) ⟨hM2, hf⟩ ?_ rfl rfl
              (exact a_subs)
          all_goals (exfalso; omega)
      · rw [hno (by omega)]
        (repeat' (first | refine a_go ?_ | (with_reducible apply Fin.thenK; assumption) | (with_reducible (first | apply C.seqK | apply C.regionK); intro _ _) | (apply R.buildSlice0; exact rfl; intro bz) | (apply R.box; exact rfl; (simp only [Value.cells]; rfl); exact rfl; intro bx) | (apply R.alloc; (simp only [Value.cells]; rfl); exact rfl; intro ba) | (apply R.buildSlice; (exact a_prt); exact rfl; exact rfl; (exact a_fills); exact rfl; intro bl) | (refine a_sp ?_ ?_; (intro h; skip; rotate_left; intro h; skip; rotate_left)) | fail))
        · exfalso; omega
        · refine Fin.join (⟨so1, M2⟩ : CrY) ⟨hM2, hf⟩ ?_ rfl rfl
          (exact a_subs)
    · rintro ⟨so2, M3⟩ ⟨hM3, hf3⟩
      dsimp only at hM3 hf3 ⊢
      (repeat' (first | refine a_go ?_ | (with_reducible apply Fin.thenK; assumption) | (with_reducible (first | apply C.seqK | apply C.regionK); intro _ _) | (apply R.buildSlice0; exact rfl; intro bz) | (apply R.box; exact rfl; (simp only [Value.cells]; rfl); exact rfl; intro bx) | (apply R.alloc; (simp only [Value.cells]; rfl); exact rfl; intro ba) | (apply R.buildSlice; (exact a_prt); exact rfl; exact rfl; (exact a_fills); exact rfl; intro bl) | (refine a_sp ?_ ?_; (intro h; skip; rotate_left; intro h; skip; rotate_left)) | fail))
      (apply R.call; (exact a_evs); exact rfl; (apply K.arr (h := settle_K (db := db) (sb := sb) (nb := sb) (room := d.room) (fuse := d.fuse) (down := d.down) (pv := .slice A1 d.ps.length c1) (H := H) hf3)); ((try simp only [List.append_assoc, List.cons_append, List.nil_append, List.append_nil]); exact a_arr); rintro _ M3 _ ⟨rfl, rfl, sb', so', f1, rfl⟩)
      (repeat' (first | refine a_go ?_ | (with_reducible apply Fin.thenK; assumption) | (with_reducible (first | apply C.seqK | apply C.regionK); intro _ _) | (apply R.buildSlice0; exact rfl; intro bz) | (apply R.box; exact rfl; (simp only [Value.cells]; rfl); exact rfl; intro bx) | (apply R.alloc; (simp only [Value.cells]; rfl); exact rfl; intro ba) | (apply R.buildSlice; (exact a_prt); exact rfl; exact rfl; (exact a_fills); exact rfl; intro bl) | (refine a_sp ?_ ?_; (intro h; skip; rotate_left; intro h; skip; rotate_left)) | fail))
      (apply Fin.returnA (H2 := (db, dkB d.room sb' sb (.slice none 0 0) (-1) false) :: (sb, so2) :: (sb', so') :: H); assumption; (first | exact .inl rfl | exact .inr rfl); exact rfl; (exact a_res); (simp only [retv]; rfl); (exact a_arr))
      exact ⟨by rw [hk], hM1.trans_ hM3, (db, dkB d.room sb' sb (.slice none 0 0) (-1) false) :: (sb, so2) :: (sb', so') :: [], ⟨⟨hok.1, ⟨Int.le_refl _, show (-1 : Int) ≤ 4611686018427387904 by decide⟩, hcs, trivial⟩, sb', sb, so', so2, .slice none 0 0, [], f1, hf3, RowD.nil, rfl⟩, rfl⟩
end Go.Sx
end
section
namespace Go.Sx
open Go Go.Proofs Go.RowKit
attribute [local irreducible] C R Fin K Own OwnT Rd Pl Ok KOf RetOk OpsOf RP KP Res NoPanic KV KE MapS ItS EntS FsO FsR RowD PlD DkO
variable {M M' : Mem} {H H1 H2 : Hp}
theorem getS_del_ne {α : Type} {n k : Txt} (h : k ≠ n) : ∀ l : List (Txt × α), getS (delS l n) k = getS l k
  | [] => rfl
  | p :: l => by
    have ih := getS_del_ne h l
    unfold getS delS at ih ⊢
    rw [List.filter_cons]
    by_cases hp : p.1 = n
    · rw [if_neg (by simp [hp]), ih, List.find?_cons_of_neg (by rw [hp]; simp [Ne.symm h])]
    · rw [if_pos (by simp [hp])]
      by_cases hk : p.1 = k
      · rw [List.find?_cons_of_pos (by simp [hk]), List.find?_cons_of_pos (by simp [hk])]
      · rw [List.find?_cons_of_neg (by simp [hk]), List.find?_cons_of_neg (by simp [hk]), ih]
def goes (d : Dk) : Prop := d.fuse = -1 ∧ d.down = false
theorem goes.stop {d : Dk} (h : goes d) : ¬ stopD d := by
  rintro (h1 | h1)
  · rw [h.2] at h1
    cases h1
  · rw [h.1] at h1
    cases h1
theorem goes.cnt {d : Dk} (h : goes d) : cntD d = d := by
  unfold cntD
  rw [if_neg h.stop, h.1, if_neg (by decide), ← h.1]
theorem goes.op {d : Dk} {x : De} (h : goes d) : opD 0 d x = { d with ps := d.ps ++ [x] } := by
  unfold opD
  rw [if_pos rfl, h.cnt]
theorem goes.read {d : Dk} (h : goes d) (n : Txt) : readD d n = getS d.now n := by
  unfold readD
  rw [h.2]
  rfl
theorem goes.op' {d : Dk} {x : De} (h : goes d) : goes (opD 0 d x) := by
  rw [h.op]
  exact h
theorem goes.now {d : Dk} {x : De} (h : goes d) : (opD 0 d x).now = doF d.now x := by
  rw [h.op]
  unfold Dk.now
  rw [List.foldl_append]
  rfl
theorem crash_goes (d : Dk) (keep torn : Int) : goes (crashD d keep torn) := ⟨rfl, rfl⟩
end Go.Sx
end
section
namespace Go.Sx
open Go Go.Proofs Go.RowKit
attribute [local irreducible] C R Fin K Own OwnT Rd Pl Ok KOf RetOk OpsOf RP KP Res NoPanic KV KE MapS ItS EntS FsO FsR RowD PlD
variable {M M' : Mem} {H H1 H2 : Hp}
def onF (n : Txt) : Option Txt → Fs
  | none => []
  | some b => [(n, b)]
theorem onF_get (n : Txt) (x : Option Txt) : getS (onF n x) n = x := by
  cases x with
  | none => rfl
  | some b => simp [onF, getS]
theorem onF_sum (n : Txt) (x : Option Txt) : sumF (onF n x) = (x.getD []).length := by
  cases x with
  | none => rfl
  | some b => simp [onF, sumF]
theorem onF_len (n : Txt) (x : Option Txt) : (onF n x).length ≤ 1 := by
  cases x <;> simp [onF]
end Go.Sx
end
section
namespace Go.Sx
open Go Go.Proofs Go.RowKit
theorem numGo_lay {bs : Txt} {at_ : Nat} : ∀ (k i m acc : Nat), i + k = 10 → 0 < k → m * 128 ^ i < 18446744073709551616 → (0 < i → 0 < m) → (∀ j, j < (numS m).length → bs[at_ + i + j]? = (numS m)[j]?) → numGo bs at_ k i acc = (acc + m * 128 ^ i, 0, at_ + i + (numS m).length)
  | 0, _, _, _, _, h, _, _, _ => absurd h (by decide)
  | k + 1, i, m, acc, hik, _, hm, hi0, hb => by
    have hpos : 0 < 128 ^ i := Nat.pow_pos (by decide)
    have h9 : i = 9 → m ≤ 1 := by
      rintro rfl
      have : (128 : Nat) ^ 9 = 9223372036854775808 := by decide
      rw [this] at hm
      omega
    unfold numGo
    by_cases hlo : m < 128
    · rw [numS_lo hlo] at hb ⊢
      have h0 := hb 0 (Nat.zero_lt_one)
      rw [Nat.add_zero] at h0
      rw [h0]
      have hx : (UInt8.ofNat m).toNat = m := by
        rw [UInt8.toNat_ofNat']
        omega
      show (if i = 9 ∧ 1 < (UInt8.ofNat m).toNat then _ else _) = _
      rw [hx, if_neg (by omega), if_neg (by omega), if_neg (by omega), Nat.mod_eq_of_lt hlo]
      rfl
    · rw [numS_hi hlo] at hb ⊢
      have h0 := hb 0 (by simp)
      rw [Nat.add_zero] at h0
      rw [h0]
      have hx : (UInt8.ofNat m ||| 128).toNat = m % 128 + 128 := by
        rw [or128_toNat, UInt8.toNat_ofNat']
        omega
      show (if i = 9 ∧ 1 < (UInt8.ofNat m ||| 128).toNat then _ else _) = _
      rw [hx, if_neg (by omega), if_pos (by omega), show (m % 128 + 128) % 128 = m % 128 by omega]
      have hdm := Nat.div_add_mod m 128
      have e1 : m / 128 * 128 ^ (i + 1) + m % 128 * 128 ^ i = m * 128 ^ i := by
        rw [Nat.pow_succ, Nat.mul_comm (128 ^ i) 128, ← Nat.mul_assoc, ← Nat.add_mul]
        congr 1
        omega
      have hk : i < 9 := by omega
      have h2 := numGo_lay (bs := bs) (at_ := at_) k (i + 1) (m / 128) (acc + m % 128 * 128 ^ i) (by omega) (by omega) (by omega) (by omega) (fun j hj => by
        have := hb (j + 1) (by rw [List.length_cons]; omega)
        rw [List.getElem?_cons_succ] at this
        rw [← this]
        congr 1
        omega)
      rw [h2, List.length_cons]
      refine Prod.ext (by show _ + _ + _ = acc + m * 128 ^ i; omega) (Prod.ext rfl (by show _ + _ = at_ + i + ((numS (m / 128)).length + 1); omega))
theorem numR_lay {n : Nat} {rest pre : Txt} (h : n ≤ 18446744073709551615) : numR (pre ++ (numS n ++ rest)) pre.length = (n, 0, pre.length + (numS n).length) := by
  have := numGo_lay (bs := pre ++ (numS n ++ rest)) (at_ := pre.length) 10 0 n 0 rfl (by decide) (by omega) (by omega) (fun j hj => by
    rw [Nat.add_zero, List.getElem?_append_right (by omega), Nat.add_sub_cancel_left, List.getElem?_append_left hj])
  unfold numR
  rw [this]
  refine Prod.ext (by show 0 + n * 1 = n; omega) (Prod.ext rfl rfl)
theorem numRd_lay {n most : Nat} {rest pre : Txt} (h : n ≤ 18446744073709551615) (hm : n ≤ most) : numRd (pre ++ (numS n ++ rest)) most pre.length 0 = (n, pre.length + (numS n).length, 0) := by
  unfold numRd
  rw [numR_lay h, if_neg (by decide), if_neg (by dsimp only; omega), if_neg (fun h => h rfl)]
end Go.Sx
end
section
namespace Go.Sx
open Go Go.Proofs Go.RowKit
def spT (s : SnT) : Txt := spS s.1 s.2.1 s.2.2.1 s.2.2.2
def okP (s : SnT) : Prop := rgtP s.1 s.2.1 s.2.2.1 s.2.2.2.length
theorem spT_len {s : SnT} (h : okP s) : (spT s).length ≤ 31 + s.2.2.2.length := by
  obtain ⟨g1, g2, g3, ⟨g4, g5⟩, ⟨g6, g7⟩, g8⟩ := h
  exact spS_len (by omega) (by omega) g8
theorem byteR_lay {pre rest : Txt} {b most : UInt8} (h : b.toNat ≤ most.toNat) : byteR (pre ++ (b :: rest)) most pre.length 0 = (b, pre.length + 1, 0) := by
  unfold byteR
  rw [if_neg (fun h => h rfl), List.getElem?_append_right (Nat.le_refl _), Nat.sub_self, List.getElem?_cons_zero]
  dsimp only
  exact if_neg (by omega)
theorem textR_lay {pre b : Txt} {most : Nat} (h : b.length ≤ most) (hm : most ≤ 18446744073709551615) (rest : Txt) : textR (pre ++ (textS b ++ rest)) most pre.length 0 = (b, pre.length + (textS b).length, 0) := by
  have e1 := numRd_lay (n := b.length) (most := most) (rest := b ++ rest) (pre := pre) (by omega) h
  have e2 : pre ++ (textS b ++ rest) = pre ++ (numS b.length ++ (b ++ rest)) := by
    unfold textS
    rw [List.append_assoc]
  rw [e2]
  unfold textR
  rw [e1]
  dsimp only
  rw [if_neg (fun h => h rfl), if_neg (by simp only [List.length_append]; omega)]
  have e3 : (pre ++ (numS b.length ++ (b ++ rest))).drop (pre.length + (numS b.length).length) = b ++ rest := by
    rw [← List.append_assoc, ← List.length_append, List.drop_left]
  rw [e3, List.take_left]
  refine Prod.ext rfl (Prod.ext ?_ rfl)
  show pre.length + (numS b.length).length + b.length = pre.length + (textS b).length
  unfold textS
  rw [List.length_append]
  omega
theorem snR_lay {s : SnT} (h : okP s) : snR (spT s) = some s := by
  obtain ⟨i, t, c, b⟩ := s
  obtain ⟨g1, g2, g3, ⟨g4, g5⟩, ⟨g6, g7⟩, g8⟩ := id h
  dsimp only at g1 g2 g3 g4 g5 g6 g7 g8
  have hc : (UInt8.ofNat c.toNat).toNat = c.toNat := by
    rw [UInt8.toNat_ofNat']
    omega
  show snR (spS i t c b) = _
  have ex1 : spS i t c b = [] ++ (numS i ++ (numS t ++ ([UInt8.ofNat c.toNat] ++ textS b))) := by
    unfold spS
    simp only [List.append_assoc, List.nil_append]
  have ex2 : spS i t c b = numS i ++ (numS t ++ ([UInt8.ofNat c.toNat] ++ textS b)) := by
    unfold spS
    simp only [List.append_assoc]
  have ex3 : spS i t c b = (numS i ++ numS t) ++ (UInt8.ofNat c.toNat :: textS b) := by
    unfold spS
    simp only [List.append_assoc, List.cons_append, List.nil_append]
  have ex4 : spS i t c b = ((numS i ++ numS t) ++ [UInt8.ofNat c.toNat]) ++ (textS b ++ []) := by
    unfold spS
    simp only [List.append_assoc, List.append_nil]
  have z1 : numRd (spS i t c b) 72057594037927935 0 0 = (i, (numS i).length, 0) := by
    have := numRd_lay (n := i) (most := 72057594037927935) (pre := []) (rest := numS t ++ ([UInt8.ofNat c.toNat] ++ textS b)) (by omega) g5
    rw [← ex1, List.length_nil, Nat.zero_add] at this
    exact this
  have z2 : numRd (spS i t c b) 72057594037927935 (numS i).length 0 = (t, (numS i ++ numS t).length, 0) := by
    have := numRd_lay (n := t) (most := 72057594037927935) (pre := numS i) (rest := [UInt8.ofNat c.toNat] ++ textS b) (by omega) g7
    rw [← ex2, ← List.length_append] at this
    exact this
  have z3 : byteR (spS i t c b) 254 (numS i ++ numS t).length 0 = (UInt8.ofNat c.toNat, ((numS i ++ numS t) ++ [UInt8.ofNat c.toNat]).length, 0) := by
    have := byteR_lay (pre := numS i ++ numS t) (rest := textS b) (b := UInt8.ofNat c.toNat) (most := 254) (by rw [hc]; show c.toNat ≤ 254; omega)
    rw [← ex3] at this
    rw [this]
    refine Prod.ext rfl (Prod.ext ?_ rfl)
    show (numS i ++ numS t).length + 1 = ((numS i ++ numS t) ++ [UInt8.ofNat c.toNat]).length
    simp only [List.length_append, List.length_singleton]
  have z4 : textR (spS i t c b) 32768 ((numS i ++ numS t) ++ [UInt8.ofNat c.toNat]).length 0 = (b, (spS i t c b).length, 0) := by
    have := textR_lay (pre := (numS i ++ numS t) ++ [UInt8.ofNat c.toNat]) (b := b) (most := 32768) g8 (by decide) []
    rw [← ex4] at this
    rw [this]
    refine Prod.ext rfl (Prod.ext ?_ rfl)
    show _ + _ = (spS i t c b).length
    unfold spS
    simp only [List.length_append]
  rw [snR_of z1 z2 z3 z4]
  unfold snG
  dsimp only
  have e5 : ((UInt8.ofNat c.toNat).toNat : Int) = c := by rw [hc]; omega
  rw [e5]
  refine if_pos ⟨?_, h⟩
  unfold endR
  exact if_neg (by omega)
def vwP (b : Txt) : Option SnT := snF (framesF b.length b) b.length
def viewP (F : Fs) : Option SnT := vwP (fileD F pfile)
theorem vwP_lay {s : SnT} (h : okP s) : vwP (frameS (spT s)) = some s := by
  have hl := spT_len h
  have h8 := h.2.2.2.2.2
  have e1 : frameS (spT s) = cat [spT s] := by simp [cat]
  have hf := frameS_len (bs := spT s) (by omega)
  have := frames_cat [spT s] (by intro p hp; rw [List.mem_singleton] at hp; subst hp; omega) (by rw [← e1]; omega)
  rw [← e1] at this
  unfold vwP
  rw [this]
  show (if endS [spT s] = (frameS (spT s)).length then snR (spT s) else none) = _
  rw [if_pos (by rw [hf]; simp [endS]), snR_lay h]
theorem vwP_nil : vwP [] = none := rfl
theorem pnew_ne : pfile ≠ pnew := by decide
theorem clrN_is {n k : Txt} {d : Dk} (hn : k ≠ n) (h : goes d) : (clrN n d).1 = 0 ∧ goes (clrN n d).2 ∧ getS (clrN n d).2.now k = getS d.now k := by
  unfold clrN
  split
  · rename_i hs
    rw [h.read] at hs
    have e : remE d n = 0 := (if_neg h.stop).trans (if_neg (by rw [Option.isSome_iff_ne_none] at hs; exact hs))
    rw [e]
    refine ⟨rfl, h.op', ?_⟩
    dsimp only
    rw [h.now]
    exact getS_del_ne hn _
  · exact ⟨rfl, h, rfl⟩
theorem openP_view {d : Dk} (h : goes d) : (openP d).1 = 0 ∧ (openP d).2.2 = viewP d.now := by
  obtain ⟨c1, c2, c3⟩ := clrN_is pnew_ne h
  unfold openP
  rw [if_neg (fun h => h c1), c2.read, c3]
  exact ⟨rfl, rfl⟩
def CrV {α : Type} (vw : Fs → α) (d : Dk) (cand : List α) : Prop := ∀ k, k ≤ d.ps.length → vw ((d.ps.take k).foldl doF d.S) ∈ cand ∧ ∀ n b, d.ps[k]? = some (.app n b) → ∀ t, t < b.length → vw (doF ((d.ps.take k).foldl doF d.S) (.app n (b.take t))) ∈ cand
section
variable {α : Type} {vw : Fs → α}
theorem CrV.sub {d : Dk} {c c' : List α} (h : CrV vw d c) (hs : ∀ x ∈ c, x ∈ c') : CrV vw d c' := fun k hk => ⟨hs _ (h k hk).1, fun n b hb t ht => hs _ ((h k hk).2 n b hb t ht)⟩
theorem CrV.op {d : Dk} {c : List α} {x : De} (g : goes d) (h : CrV vw d c) (hn : vw (doF d.now x) ∈ c) (ht : ∀ n b, x = .app n b → ∀ t, t < b.length → vw (doF d.now (.app n (b.take t))) ∈ c) : CrV vw (opD 0 d x) c := by
  rw [g.op]
  intro k hk
  change k ≤ (d.ps ++ [x]).length at hk
  rw [List.length_append, List.length_singleton] at hk
  show vw (((d.ps ++ [x]).take k).foldl doF d.S) ∈ c ∧ ∀ n b, (d.ps ++ [x])[k]? = some (.app n b) → _
  by_cases h1 : k ≤ d.ps.length
  · rw [List.take_append_of_le_length h1]
    refine ⟨(h k h1).1, fun n b hb t htb => ?_⟩
    by_cases h2 : k < d.ps.length
    · rw [List.getElem?_append_left h2] at hb
      have := (h k h1).2 n b hb t htb
      exact this
    · have e : k = d.ps.length := by omega
      subst e
      rw [List.getElem?_append_right (Nat.le_refl _), Nat.sub_self, List.getElem?_cons_zero] at hb
      have := ht n b (Option.some.inj hb) t htb
      show vw (doF ((d.ps.take d.ps.length).foldl doF d.S) (.app n (b.take t))) ∈ c
      rw [List.take_length]
      exact this
  · have e : k = d.ps.length + 1 := by omega
    subst e
    have e2 : (d.ps ++ [x]).take (d.ps.length + 1) = d.ps ++ [x] := List.take_of_length_le (by simp)
    rw [e2, List.foldl_append]
    refine ⟨hn, fun n b hb => ?_⟩
    rw [List.getElem?_eq_none (by simp)] at hb
    cases hb
theorem CrV.crash {d : Dk} {c : List α} (h : CrV vw d c) (keep torn : Int) : vw (crashD d keep torn).now ∈ c := by
  have hk : keepD d keep ≤ d.ps.length := by
    unfold keepD
    have h0 : 0 ≤ keep % ((d.ps.length + 1 : Nat) : Int) := Int.emod_nonneg _ (by omega)
    have h1 : keep % ((d.ps.length + 1 : Nat) : Int) < ((d.ps.length + 1 : Nat) : Int) := Int.emod_lt_of_pos _ (by omega)
    omega
  obtain ⟨h1, h2⟩ := h _ hk
  show vw (crashF d keep torn) ∈ c
  unfold crashF
  split
  · rename_i x hx
    unfold tornF
    split
    · rename_i n b
      split
      · rename_i hb
        refine h2 n b hx _ ?_
        have ht1 : torn % (b.length : Int) < (b.length : Int) := Int.emod_lt_of_pos _ (by omega)
        omega
      · exact h1
    · exact h1
  · exact h1
end
structure PI (d : Dk) (o : Option SnT) (cand : List (Option SnT)) : Prop where
  room : d.room = 1048576
  go : goes d
  now : d.now = onF pfile (o.map fun s => frameS (spT s))
  ok : ∀ s, o = some s → okP s ∧ s.2.2.2.length ≤ 200
  last : o ∈ cand
  crash : CrV viewP d cand
theorem PI.sub {d : Dk} {o : Option SnT} {c c' : List (Option SnT)} (h : PI d o c) (hs : ∀ x ∈ c, x ∈ c') : PI d o c' := ⟨h.1, h.2, h.3, h.4, hs _ h.5, h.6.sub hs⟩
theorem viewP_on (x : Option Txt) : viewP (onF pfile x) = vwP (x.getD []) := by
  unfold viewP fileD
  rw [onF_get]
theorem vwP_opt {o : Option SnT} (h : ∀ s, o = some s → okP s ∧ s.2.2.2.length ≤ 200) : vwP ((o.map fun s => frameS (spT s)).getD []) = o := by
  cases o with
  | none => rfl
  | some s => exact vwP_lay (h s rfl).1
theorem PI.view {d : Dk} {o : Option SnT} {c : List (Option SnT)} (h : PI d o c) : viewP d.now = o := by
  rw [h.now, viewP_on, vwP_opt h.ok]
theorem PI.new : PI (newD 1048576) none [none] := by
  refine ⟨rfl, ⟨rfl, rfl⟩, rfl, ?_, by simp, ?_⟩
  · intro s h
    cases h
  · intro k hk
    have : k = 0 := by
      change k ≤ 0 at hk
      omega
    subst this
    refine ⟨?_, fun n b hb => by cases hb⟩
    show viewP [] ∈ _
    simp [viewP, fileD, getS, vwP_nil]
theorem PI.old_len {d : Dk} {o : Option SnT} {c : List (Option SnT)} (h : PI d o c) : ((o.map fun s => frameS (spT s)).getD []).length ≤ 300 := by
  cases o with
  | none => exact Nat.zero_le _
  | some s =>
    obtain ⟨h1, h2⟩ := h.ok s rfl
    have := spT_len h1
    show (frameS (spT s)).length ≤ 300
    rw [frameS_len (by omega)]
    omega
theorem PI.clr {d : Dk} {o : Option SnT} {c : List (Option SnT)} (h : PI d o c) : clrN pnew d = (0, d) := by
  have : readD d pnew = none := by
    rw [h.go.read, h.now]
    cases o <;> rfl
  unfold clrN
  rw [this]
  rfl
theorem PI.save {d : Dk} {o : Option SnT} {c : List (Option SnT)} {s : SnT} (hi : PI d o c) (hs : okP s) (h200 : s.2.2.2.length ≤ 200) : (saveP d s.1 s.2.1 s.2.2.1 s.2.2.2).1 = 0 ∧ PI (saveP d s.1 s.2.1 s.2.2.1 s.2.2.2).2 (some s) (c ++ [some s]) ∧ (saveP d s.1 s.2.1 s.2.2.1 s.2.2.2).2.ps = d.ps ++ [.app pnew (frameS (spT s)), .ren pnew pfile] ∧ (saveP d s.1 s.2.1 s.2.2.1 s.2.2.2).2.S = d.S := by
  have hcl := hi.clr
  have hold := hi.old_len
  have hl := spT_len hs
  have hfl := frameS_len (bs := spT s) (by omega)
  have hi' := hi.sub (c' := c ++ [some s]) (fun x hx => List.mem_append_left _ hx)
  obtain ⟨x, hx⟩ : ∃ x, x = (o.map fun s => frameS (spT s)) := ⟨_, rfl⟩
  have hnow := hi.now
  rw [← hx] at hold hnow
  have e1 : appE d pnew (frameS (spT s)) = 0 := by
    refine (if_neg hi.go.stop).trans ((if_neg (by decide)).trans (if_neg ?_))
    rw [hi.room, hnow, onF_sum]
    have := onF_len pfile x
    rintro (h | ⟨_, h⟩) <;> omega
  have g2 := hi.go.op' (x := .app pnew (frameS (spT s)))
  have hn2 : ∀ f, doF d.now (.app pnew f) = onF pfile x ++ [(pnew, f)] := by
    intro f
    rw [hnow]
    cases x <;> rfl
  have hv2 : ∀ f, viewP (onF pfile x ++ [(pnew, f)]) = o := by
    intro f
    have : fileD (onF pfile x ++ [(pnew, f)]) pfile = x.getD [] := by
      cases x <;> rfl
    unfold viewP
    rw [this, hx, vwP_opt hi.ok]
  have hnow2 : (opD 0 d (.app pnew (frameS (spT s)))).now = onF pfile x ++ [(pnew, frameS (spT s))] := by
    rw [hi.go.now, hn2]
  have hr : renE (opD 0 d (.app pnew (frameS (spT s)))) pnew pfile = 0 := by
    refine (if_neg g2.stop).trans ((if_neg (by decide)).trans (if_neg ?_))
    rw [hnow2]
    intro h
    cases x <;> cases h
  have hn3 : doF (onF pfile x ++ [(pnew, frameS (spT s))]) (.ren pnew pfile) = onF pfile (some (frameS (spT s))) := by
    cases x <;> rfl
  have hc2 : CrV viewP (opD 0 d (.app pnew (frameS (spT s)))) (c ++ [some s]) := by
    refine hi'.crash.op hi.go ?_ ?_
    · rw [hn2, hv2]
      exact hi'.last
    · rintro n b' hb t ht
      cases hb
      rw [hn2, hv2]
      exact hi'.last
  have hE : saveP d s.1 s.2.1 s.2.2.1 s.2.2.2 = (0, opD 0 (opD 0 d (.app pnew (frameS (spT s)))) (.ren pnew pfile)) := by
    unfold saveP
    rw [if_neg (fun h => h hs), hcl, if_neg (fun h => h rfl)]
    change (if appE d pnew (frameS (spT s)) ≠ 0 then _ else (renE (opD 0 d (.app pnew (frameS (spT s)))) pnew pfile, opD (renE (opD 0 d (.app pnew (frameS (spT s)))) pnew pfile) (opD 0 d (.app pnew (frameS (spT s)))) (.ren pnew pfile))) = _
    rw [if_neg (fun h => h e1), hr]
  rw [hE]
  refine ⟨rfl, ⟨?_, g2.op', ?_, ?_, by simp, ?_⟩, ?_, ?_⟩
  · dsimp only
    rw [g2.op, hi.go.op]
    exact hi.room
  · dsimp only
    rw [g2.now, hnow2, hn3]
    rfl
  · intro s' h
    cases h
    exact ⟨hs, h200⟩
  · refine hc2.op g2 ?_ ?_
    · rw [hnow2, hn3, viewP_on]
      show vwP (frameS (spT s)) ∈ _
      rw [vwP_lay hs]
      simp
    · rintro n b' hb
      cases hb
  · dsimp only
    rw [g2.op, hi.go.op]
    simp
  · dsimp only
    rw [g2.op, hi.go.op]
theorem PI.sync {d : Dk} {o : Option SnT} {c : List (Option SnT)} (hi : PI d o c) : synE d = 0 ∧ PI (synD d) o [o] ∧ (synD d).ps = [] ∧ (synD d).S = d.now := by
  have hs : synD d = ⟨d.room, d.now, [], d.fuse, d.down⟩ := by
    unfold synD
    rw [if_neg hi.go.stop, hi.go.cnt]
  rw [hs]
  refine ⟨if_neg hi.go.stop, ⟨hi.room, hi.go, hi.now, hi.ok, by simp, ?_⟩, rfl, rfl⟩
  intro k hk
  have : k = 0 := by
    change k ≤ 0 at hk
    omega
  subst this
  refine ⟨?_, fun n b hb => by cases hb⟩
  show viewP d.now ∈ _
  rw [hi.view]
  simp
theorem PI.open {d : Dk} {o : Option SnT} {c : List (Option SnT)} (hi : PI d o c) : openP d = (0, d, o) := by
  have hv := hi.view
  unfold openP
  rw [hi.clr, if_neg (fun h => h rfl), hi.go.read]
  refine Prod.ext rfl (Prod.ext rfl ?_)
  exact hv
end Go.Sx
end
section
namespace Go.Sx
open Go.RowKit
variable {P : Program} {r : Option Nat} {n : Nat} {D : List Deferred} {L L' : Sl} {M : Mem} {H : Hp} {Q : Post}
theorem bytesWorld_heap {w : World} {e : TypeId} {s : ByteArray} (hh : Heap w M H) : Heap (Lib.bytesWorld w e s) M ((w.heap.size, .cells (Lib.bytesCells w e s) e ((Lib.bytesCells w e s).size, (Lib.bytesCells w e s).size + 1)) :: H) := by
  have h1 := (hh.drew).alloc (.cells (Lib.bytesCells w e s) e)
  have e1 : w.drew.heap.size = w.heap.size := rfl
  rw [e1] at h1
  refine h1.put (w' := Lib.bytesWorld w e s) (At.head _ _ _) (Lib.bytesWorld_at_new w e s) (fun k hk => ?_) rfl rfl
  unfold Lib.bytesWorld
  simp only [World.freeze, Nat.succ_ne_zero, if_false, Array.getElem?_modify]
  rw [if_neg (by simpa using Ne.symm hk)]
section
variable {d : Option Tmp} {ty : TypeId} {pos : String} {af : Array Edge} {ops : Array Oper} {rest : List Oper}
theorem R.toB {s t e : TypeId} {x : Operand} {a : Txt} {ds : TypeDesc} [hs : Und P s ds] [ht : Und P t (.slice e)] [he : Und P e (.int .u8)] (hx : ev L x = some (str a)) (hl : a.length ≤ 9223372036854775807) (hd : dok n d = true)
    (k : ∀ v M', M.le M' → PlB M' v a → R false P r n ops rest Q D (bnd d v L) M' H) : R false P r n ops (⟨d, .convert s t x, ty, pos, af, none⟩ :: rest) Q D L M H := by
  have hsz : (⟨a.toArray⟩ : ByteArray).size = a.length := str_size a
  refine R.world rfl (by intro c h; cases h) fun act w hf hh => ⟨.slice (some ⟨w.heap.size, 0, none⟩) a.length (grownCap w a.length 0 e), Lib.bytesWorld w e ⟨a.toArray⟩, .inl ?_, fun hf hh => ?_⟩
  · have h1 := Lib.run_convert_string_bytes (P := P) w s t e ⟨a.toArray⟩ hs.h ht.h he.h
    rw [hsz] at h1
    simp [execOp, hf.ev hx, str, h1]
  · have h2 := bytesWorld_heap (e := e) (s := ⟨a.toArray⟩) hh
    refine (R.ice (hp := [(w.heap.size, .cells (Lib.bytesCells w e ⟨a.toArray⟩) e ((Lib.bytesCells w e ⟨a.toArray⟩).size, (Lib.bytesCells w e ⟨a.toArray⟩).size + 1))]) (Arr.all _) fun M2 hM2 hin => k _ M2 hM2 ?_) _ _ (hf.put d hd _) h2
    refine ⟨_, _, rfl, grownCap_ge w a.length 0 e, ?_, ?_⟩
    · exact Nat.le_trans (grownCap_le_maxLen w a.length 0 e (by unfold maxLen; omega)) (by unfold maxLen; omega)
    · refine .inr ⟨w.heap.size, 0, _, _, _, rfl, hin.one, fun j u hj => ?_⟩
      rw [Nat.zero_add]
      have hjl : j < a.length := by
        have := (List.getElem?_eq_some_iff.1 hj).1
        rwa [List.length_map] at this
      unfold Lib.bytesCells
      rw [Array.getElem?_append_left (by simpa using hjl)]
      simpa [bv] using hj
variable {M : Mem} {H : Hp} {g : Option (Nat × Bool)} {t t' : TypeId} {x y : Operand}
end
end Go.Sx
end
section
namespace Go.Sx
open Go Go.Proofs Go.RowKit
attribute [local irreducible] C R Fin K Own OwnT Rd Pl Ok KOf RetOk OpsOf RP KP Res NoPanic KV KE MapS ItS EntS FsO FsR RowD PlD DkO RT KT OneT RS KS OneS PlB
variable {M M' : Mem} {H H1 H2 : Hp}
theorem snap_K {i t : Nat} {c : Int} {s : Txt} (hl : s.length ≤ 9223372036854775807) : K Try.prog 10 [.int .u64 (i : Int), .int .u64 (t : Int), .int .i64 c, str s] M H fun v' M' H' => ∃ vd, v' = .agg (snC i t c vd).toArray ∧ PlB M' vd s ∧ M.le M' ∧ H' = H := by
  refine K.enterM Try.func10 rfl rfl rfl ?_
  intro Q hNP hQ
  unfold snC at hQ
  (repeat' (first | refine a_go ?_ | (with_reducible apply Fin.thenK; assumption) | (with_reducible (first | apply C.seqK | apply C.regionK); intro _ _) | (apply R.buildSlice0; exact rfl; intro bz) | (apply R.box; exact rfl; (simp only [Value.cells]; rfl); exact rfl; intro bx) | (apply R.alloc; (simp only [Value.cells]; rfl); exact rfl; intro ba) | (apply R.buildSlice; (exact a_prt); exact rfl; exact rfl; (exact a_fills); exact rfl; intro bl) | (refine a_sp ?_ ?_; (intro h; skip; rotate_left; intro h; skip; rotate_left)) | fail))
  (apply R.toB; exact rfl; exact hl; exact rfl; intro vd M2 hM2 hpl)
  have hpl0 := hpl
  unfold PlB at hpl0
  obtain ⟨Ad, cd, rfl, k1, k2, k3⟩ := hpl0
  (repeat' (first | refine a_go ?_ | (with_reducible apply Fin.thenK; assumption) | (with_reducible (first | apply C.seqK | apply C.regionK); intro _ _) | (apply R.buildSlice0; exact rfl; intro bz) | (apply R.box; exact rfl; (simp only [Value.cells]; rfl); exact rfl; intro bx) | (apply R.alloc; (simp only [Value.cells]; rfl); exact rfl; intro ba) | (apply R.buildSlice; (exact a_prt); exact rfl; exact rfl; (exact a_fills); exact rfl; intro bl) | (refine a_sp ?_ ?_; (intro h; skip; rotate_left; intro h; skip; rotate_left)) | fail))
  (apply Fin.returnM (H2 := H); assumption; exact .inl rfl; exact rfl; exact Marks.nil _; (exact a_res); (simp only [retv]; rfl); (exact a_arr))
  exact ⟨_, rfl, hpl, hM2, rfl⟩
theorem pbase_eq (a b c a' b' c' : Int) (w : World) : (Op.equalIn 10000 28 (.agg #[.int .u64 a, .int .u64 b, .int .i64 c]) (.agg #[.int .u64 a', .int .u64 b', .int .i64 c'])).run Try.prog w = .ok (decide (a = a' ∧ b = b' ∧ c = c')) w := by
  have hf : Try.prog.fieldsOf 28 = #[{ name := "Index", type := 26, offset := 0, embedded := false, tag := "", pkgPath := "", byteOffset := 0 }, { name := "Term", type := 26, offset := 1, embedded := false, tag := "", pkgPath := "", byteOffset := 8 }, { name := "Conf", type := 3, offset := 2, embedded := false, tag := "", pkgPath := "", byteOffset := 16 }] := by kernel_rfl
  have hu : Try.prog.underlying 28 = some (.struct (Try.prog.fieldsOf 28)) := by kernel_rfl
  have hs : Try.prog.stoodInHeld 28 = false := by kernel_rfl
  rw [run_equalIn_struct w 9999 _ _ _ hu hs, hf]
  simp [Op.eqFields, part, run_isAgg (P := Try.prog) Try.underlying26, run_isAgg (P := Try.prog) Try.underlying3, aggD, run_equalIn_int w 9998 26 .u64 .u64 _ _ Try.underlying26, run_equalIn_int w 9998 3 .i64 .i64 _ _ Try.underlying3]
  by_cases h1 : a = a' <;> by_cases h2 : b = b' <;> by_cases h3 : c = c' <;> simp [h1, h2, h3]
theorem pbase_guard : Try.prog.eqGuardType Try.prog.depth 28 = false := by kernel_rfl
theorem psame_K {i t i' t' : Nat} {c c' : Int} {va vb : Value} {a b : Txt} (ha : PlB M va a) (hb : PlB M vb b) : K Try.prog 16 [.agg (snC i t c va).toArray, .agg (snC i' t' c' vb).toArray] M H fun v' M' H' => v' = .bool (decide ((i, t, c, a) = (i', t', c', b))) ∧ M' = M ∧ H' = H := by
  refine K.enterK Try.func16 rfl rfl rfl ?_
  intro Q hNP hQ
  unfold PlB at ha hb
  obtain ⟨A, ca, rfl, a1, a2, a3⟩ := ha
  obtain ⟨B, cb, rfl, b1, b2, b3⟩ := hb
  unfold snC
  by_cases hB : (i : Int) = (i' : Int) ∧ (t : Int) = (t' : Int) ∧ c = c'
  · have hT : ∀ w, (Op.equalIn 10000 28 (.agg #[.int .u64 (i : Int), .int .u64 (t : Int), .int .i64 c]) (.agg #[.int .u64 (i' : Int), .int .u64 (t' : Int), .int .i64 c'])).run Try.prog w = .ok true w := fun w => by rw [pbase_eq, decide_eq_true hB]
    have hE : decide ((i, t, c, a) = (i', t', c', b)) = decide (a = b) := by
      obtain ⟨h1, h2, h3⟩ := hB
      have h1' : i = i' := by omega
      have h2' : t = t' := by omega
      subst h1' h2' h3
      simp
    rw [hE] at hQ
    (repeat' (first | (apply R.step; (apply Ok.move; exact rfl); exact rfl) | (apply R.step; (first | (apply Ok.eqS; exact rfl; exact rfl; exact pbase_guard; exact hT) | (apply Ok.toT; exact rfl; exact Pl.rd a3) | (apply Ok.toT; exact rfl; exact Pl.rd b3) | (apply Ok.eqT; exact rfl; exact rfl)); exact rfl) | refine a_go ?_ | (with_reducible apply Fin.thenK; assumption) | (with_reducible (first | apply C.seqK | apply C.regionK); intro _ _) | (apply R.buildSlice0; exact rfl; intro bz) | (apply R.box; exact rfl; (simp only [Value.cells]; rfl); exact rfl; intro bx) | (apply R.alloc; (simp only [Value.cells]; rfl); exact rfl; intro ba) | (apply R.buildSlice; (exact a_prt); exact rfl; exact rfl; (exact a_fills); exact rfl; intro bl) | (refine a_sp ?_ ?_; (intro h; skip; rotate_left; intro h; skip; rotate_left)) | fail))
    (apply Fin.returnA (H2 := H); assumption; (first | exact .inl rfl | exact .inr rfl); exact rfl; (exact a_res); (simp only [retv]; rfl); (exact a_arr))
    exact ⟨rfl, rfl, rfl⟩
  · have hT : ∀ w, (Op.equalIn 10000 28 (.agg #[.int .u64 (i : Int), .int .u64 (t : Int), .int .i64 c]) (.agg #[.int .u64 (i' : Int), .int .u64 (t' : Int), .int .i64 c'])).run Try.prog w = .ok false w := fun w => by rw [pbase_eq, decide_eq_false hB]
    have hE : decide ((i, t, c, a) = (i', t', c', b)) = false := by
      refine decide_eq_false (fun h => hB ?_)
      cases h
      exact ⟨rfl, rfl, rfl⟩
    rw [hE] at hQ
    (repeat' (first | (apply R.step; (apply Ok.move; exact rfl); exact rfl) | (apply R.step; (first | (apply Ok.eqS; exact rfl; exact rfl; exact pbase_guard; exact hT)); exact rfl) | refine a_go ?_ | (with_reducible apply Fin.thenK; assumption) | (with_reducible (first | apply C.seqK | apply C.regionK); intro _ _) | (apply R.buildSlice0; exact rfl; intro bz) | (apply R.box; exact rfl; (simp only [Value.cells]; rfl); exact rfl; intro bx) | (apply R.alloc; (simp only [Value.cells]; rfl); exact rfl; intro ba) | (apply R.buildSlice; (exact a_prt); exact rfl; exact rfl; (exact a_fills); exact rfl; intro bl) | (refine a_sp ?_ ?_; (intro h; skip; rotate_left; intro h; skip; rotate_left)) | fail))
    (apply Fin.returnA (H2 := H); assumption; (first | exact .inl rfl | exact .inr rfl); exact rfl; (exact a_res); (simp only [retv]; rfl); (exact a_arr))
    exact ⟨rfl, rfl, rfl⟩
theorem psame_T {i t : Nat} {c : Int} {va vb : Value} {a : Txt} (ha : PlB M va a) (hb : PlB M vb a) : K Try.prog 16 [.agg (snC i t c va).toArray, .agg (snC i t c vb).toArray] M H fun v' M' H' => v' = .bool true ∧ M' = M ∧ H' = H := by
  have h := psame_K (i := i) (t := t) (c := c) (i' := i) (t' := t) (c' := c) (H := H) ha hb
  rw [decide_eq_true (rfl : (i, t, c, a) = (i, t, c, a))] at h
  exact h
theorem view_app (x : Option Txt) (f : Txt) : viewP (doF (onF pfile x) (.app pnew f)) = vwP (x.getD []) := by
  have : fileD (doF (onF pfile x) (.app pnew f)) pfile = x.getD [] := by cases x <;> rfl
  unfold viewP
  rw [this]
def sn1 : SnT := (4, 2, 14, [97, 98])
def sn2 : SnT := (5, 2, 14, [99])
theorem pknown_all : ∃ d1 d3 : Dk, saveP (newD 1048576) 4 2 14 [97, 98] = (0, d1) ∧ synE d1 = 0 ∧ saveP (synD d1) 5 2 14 [99] = (0, d3) ∧ openP d3 = (0, d3, some sn2) ∧ (openP (crashD d3 1 0)).1 = 0 ∧ (openP (crashD d3 1 0)).2.2 = some sn1 ∧ d1.ps.length ≤ 10 ∧ (synD d1).ps.length ≤ 10 ∧ d3.ps.length ≤ 10 := by
  have o1 : okP sn1 := by unfold okP; decide
  have o2 : okP sn2 := by unfold okP; decide
  obtain ⟨e1, h1, p1, s1⟩ := PI.new.save o1 (by decide)
  obtain ⟨e2, h2, p2, s2⟩ := h1.sync
  obtain ⟨e3, h3, p3, s3⟩ := h2.save o2 (by decide)
  obtain ⟨d1, hd1⟩ : ∃ d1, d1 = (saveP (newD 1048576) sn1.1 sn1.2.1 sn1.2.2.1 sn1.2.2.2).2 := ⟨_, rfl⟩
  rw [← hd1] at h1 p1 s1 e2 h2 p2 s2 e3 h3 p3 s3
  obtain ⟨d3, hd3⟩ : ∃ d3, d3 = (saveP (synD d1) sn2.1 sn2.2.1 sn2.2.2.1 sn2.2.2.2).2 := ⟨_, rfl⟩
  rw [← hd3] at h3 p3 s3
  rw [p2, List.nil_append] at p3
  have ho := h3.open
  obtain ⟨c1, c2⟩ := openP_view (crash_goes d3 1 0)
  have hk : keepD d3 1 = 1 := by
    unfold keepD
    rw [p3]
    rfl
  have hc : viewP (crashD d3 1 0).now = some sn1 := by
    show viewP (crashF d3 1 0) = _
    unfold crashF
    rw [hk, p3]
    show viewP (tornF (doF d3.S (.app pnew (frameS (spT sn2)))) (.ren pnew pfile) 0) = _
    have e : tornF (doF d3.S (.app pnew (frameS (spT sn2)))) (.ren pnew pfile) 0 = doF d3.S (.app pnew (frameS (spT sn2))) := rfl
    rw [e, s3, s2, h1.now, view_app]
    exact vwP_lay o1
  rw [hc] at c2
  refine ⟨d1, d3, Prod.ext e1 hd1.symm, e2, Prod.ext e3 hd3.symm, ho, c1, c2, ?_, ?_, ?_⟩
  · rw [p1]
    exact (by decide : 2 ≤ 10)
  · rw [p2]
    exact Nat.zero_le _
  · rw [p3]
    exact (by decide : 2 ≤ 10)
theorem pknown_K : K Try.prog 8 [] M H fun v' M' H' => v' = .bool true ∧ M.le M' ∧ H' = H := by
  refine K.enterK Try.func8 rfl rfl rfl ?_
  intro Q hNP hQ
  obtain ⟨d1, d3, e1, e2, e3, e4, e5, e6, p1, p2, p3⟩ := pknown_all
  (repeat' (first | refine a_go ?_ | (with_reducible apply Fin.thenK; assumption) | (with_reducible (first | apply C.seqK | apply C.regionK); intro _ _) | (apply R.buildSlice0; exact rfl; intro bz) | (apply R.box; exact rfl; (simp only [Value.cells]; rfl); exact rfl; intro bx) | (apply R.alloc; (simp only [Value.cells]; rfl); exact rfl; intro ba) | (apply R.buildSlice; (exact a_prt); exact rfl; exact rfl; (exact a_fills); exact rfl; intro bl) | (refine a_sp ?_ ?_; (intro h; skip; rotate_left; intro h; skip; rotate_left)) | fail))
  (apply R.call; (exact a_evs); exact rfl; exact new_K (room := 1048576) (by decide) (by decide); rintro _ M _ ⟨db, hp, rfl, rfl, ho, rfl⟩)
  (repeat' (first | refine a_go ?_ | (with_reducible apply Fin.thenK; assumption) | (with_reducible (first | apply C.seqK | apply C.regionK); intro _ _) | (apply R.buildSlice0; exact rfl; intro bz) | (apply R.box; exact rfl; (simp only [Value.cells]; rfl); exact rfl; intro bx) | (apply R.alloc; (simp only [Value.cells]; rfl); exact rfl; intro ba) | (apply R.buildSlice; (exact a_prt); exact rfl; exact rfl; (exact a_fills); exact rfl; intro bl) | (refine a_sp ?_ ?_; (intro h; skip; rotate_left; intro h; skip; rotate_left)) | fail))
  (apply R.call; (exact a_evs); exact rfl; exact snap_K (i := 4) (t := 2) (c := 14) (s := [97, 98]) (by decide); rintro _ M1 _ ⟨v1, rfl, hb1, hM1, rfl⟩)
  have hb1' := hb1
  unfold PlB at hb1'
  obtain ⟨A1, c1, rfl, _, _, q1⟩ := hb1'
  replace ho := ho.mono hM1
  (repeat' (first | refine a_go ?_ | (with_reducible apply Fin.thenK; assumption) | (with_reducible (first | apply C.seqK | apply C.regionK); intro _ _) | (apply R.buildSlice0; exact rfl; intro bz) | (apply R.box; exact rfl; (simp only [Value.cells]; rfl); exact rfl; intro bx) | (apply R.alloc; (simp only [Value.cells]; rfl); exact rfl; intro ba) | (apply R.buildSlice; (exact a_prt); exact rfl; exact rfl; (exact a_fills); exact rfl; intro bl) | (refine a_sp ?_ ?_; (intro h; skip; rotate_left; intro h; skip; rotate_left)) | fail))
  (apply R.call; (exact a_evs); exact rfl; exact psave_K (i := 4) (t := 2) (c := 14) (b := [97, 98]) ho (by decide) (by decide) (by decide) q1; rintro _ M2 _ ⟨rfl, hM2, hp1, ho1, rfl⟩)
  rw [e1] at ho1 ⊢
  dsimp only at ho1 ⊢
  (repeat' (first | refine a_go ?_ | (with_reducible apply Fin.thenK; assumption) | (with_reducible (first | apply C.seqK | apply C.regionK); intro _ _) | (apply R.buildSlice0; exact rfl; intro bz) | (apply R.box; exact rfl; (simp only [Value.cells]; rfl); exact rfl; intro bx) | (apply R.alloc; (simp only [Value.cells]; rfl); exact rfl; intro ba) | (apply R.buildSlice; (exact a_prt); exact rfl; exact rfl; (exact a_fills); exact rfl; intro bl) | (refine a_sp ?_ ?_; (intro h; skip; rotate_left; intro h; skip; rotate_left)) | fail))
  (apply R.call; (exact a_evs); exact rfl; exact sync_K ho1; rintro _ M2 _ ⟨rfl, rfl, hp2, ho2, rfl⟩)
  rw [e2]
  (repeat' (first | refine a_go ?_ | (with_reducible apply Fin.thenK; assumption) | (with_reducible (first | apply C.seqK | apply C.regionK); intro _ _) | (apply R.buildSlice0; exact rfl; intro bz) | (apply R.box; exact rfl; (simp only [Value.cells]; rfl); exact rfl; intro bx) | (apply R.alloc; (simp only [Value.cells]; rfl); exact rfl; intro ba) | (apply R.buildSlice; (exact a_prt); exact rfl; exact rfl; (exact a_fills); exact rfl; intro bl) | (refine a_sp ?_ ?_; (intro h; skip; rotate_left; intro h; skip; rotate_left)) | fail))
  (apply R.call; (exact a_evs); exact rfl; exact snap_K (i := 5) (t := 2) (c := 14) (s := [99]) (by decide); rintro _ M3 _ ⟨v3, rfl, hb3, hM3, rfl⟩)
  have hb3' := hb3
  unfold PlB at hb3'
  obtain ⟨A3, c3, rfl, _, _, q3⟩ := hb3'
  replace ho2 := ho2.mono hM3
  (repeat' (first | refine a_go ?_ | (with_reducible apply Fin.thenK; assumption) | (with_reducible (first | apply C.seqK | apply C.regionK); intro _ _) | (apply R.buildSlice0; exact rfl; intro bz) | (apply R.box; exact rfl; (simp only [Value.cells]; rfl); exact rfl; intro bx) | (apply R.alloc; (simp only [Value.cells]; rfl); exact rfl; intro ba) | (apply R.buildSlice; (exact a_prt); exact rfl; exact rfl; (exact a_fills); exact rfl; intro bl) | (refine a_sp ?_ ?_; (intro h; skip; rotate_left; intro h; skip; rotate_left)) | fail))
  (apply R.call; (exact a_evs); exact rfl; exact psave_K (i := 5) (t := 2) (c := 14) (b := [99]) ho2 (by omega) (by decide) (by decide) q3; rintro _ M4 _ ⟨rfl, hM4, hp3, ho3, rfl⟩)
  rw [e3] at ho3 ⊢
  dsimp only at ho3 ⊢
  (repeat' (first | refine a_go ?_ | (with_reducible apply Fin.thenK; assumption) | (with_reducible (first | apply C.seqK | apply C.regionK); intro _ _) | (apply R.buildSlice0; exact rfl; intro bz) | (apply R.box; exact rfl; (simp only [Value.cells]; rfl); exact rfl; intro bx) | (apply R.alloc; (simp only [Value.cells]; rfl); exact rfl; intro ba) | (apply R.buildSlice; (exact a_prt); exact rfl; exact rfl; (exact a_fills); exact rfl; intro bl) | (refine a_sp ?_ ?_; (intro h; skip; rotate_left; intro h; skip; rotate_left)) | fail))
  (apply R.call; (exact a_evs); exact rfl; exact popen_K ho3 (by omega); rintro _ M5 _ ⟨vd5, rfl, hb5, hM5, hp4, ho4, rfl⟩)
  rw [e4] at ho4 hb5 ⊢
  dsimp only at ho4
  change PlB M5 vd5 [99] at hb5
  have hb5' := hb5
  unfold PlB at hb5'
  obtain ⟨A5, c5, rfl, _, _, _⟩ := hb5'
  rw [show snV (sn0 ((0 : Int), d3, some sn2).2.2) (.slice A5 [(99 : UInt8)].length c5) = .agg #[.int .u64 5, .int .u64 2, .int .i64 14, .slice A5 1 c5] from rfl]
  (repeat' (first | (apply R.step; (exact a_ok); exact rfl) | (first | (with_reducible first | apply R.nil | apply C.ret | apply C.block | apply C.skip | apply C.exit | apply Fin.thenRet | apply Fin.thenExit | apply Fin.blockNormal | apply Fin.blockRet | apply Fin.blockExit) | (with_reducible apply Fin.thenK; assumption) | (with_reducible apply C.seqK; intro _ _) | (with_reducible apply C.regionK; intro _ _) | (with_reducible apply Fin.blockOther; exact rfl)) | (apply R.store; exact rfl; exact rfl; exact rfl; (exact a_at); (exact a_blit); exact rfl; (focus (simp [Value.oneCell']; done))) | (first | (apply R.guardT; assumption; exact rfl; exact rfl; exact rfl) | (apply R.guardF; assumption; exact rfl; exact rfl; exact rfl; exact rfl; exact rfl) | (apply R.guardU; assumption; exact rfl; exact rfl; exact rfl; exact rfl) | (apply R.guardDec; assumption; exact rfl; exact rfl; (intro h; skip; rotate_left; intro h; skip; rotate_left)) | (apply R.guardBeq; assumption; exact rfl; exact rfl; (intro h; skip; rotate_left; intro h; skip; rotate_left)) | (apply R.guardBne; assumption; exact rfl; exact rfl; (intro h; skip; rotate_left; intro h; skip; rotate_left)) | (apply R.guardNDec; assumption; exact rfl; exact rfl; (intro h; skip; rotate_left; intro h; skip; rotate_left)) | (apply R.guardNot; assumption; exact rfl; exact rfl; (intro h; skip; rotate_left; intro h; skip; rotate_left)) | (apply R.guardC; assumption; exact rfl; exact rfl; (intro h; skip; rotate_left; intro h; skip; rotate_left))) | (first | (apply C.condT; exact rfl) | (apply C.condF; exact rfl) | (apply C.condDec; exact rfl; (intro h; skip; rotate_left; intro h; skip; rotate_left)) | (apply C.condBeq; exact rfl; (intro h; skip; rotate_left; intro h; skip; rotate_left)) | (apply C.condBne; exact rfl; (intro h; skip; rotate_left; intro h; skip; rotate_left)) | (apply C.condNDec; exact rfl; (intro h; skip; rotate_left; intro h; skip; rotate_left)) | (apply C.condNot; exact rfl; (intro h; skip; rotate_left; intro h; skip; rotate_left)) | (apply C.cond; exact rfl; (intro h; skip; rotate_left; intro h; skip; rotate_left)))))
  ((apply R.alloc; (simp only [Value.cells]; rfl); exact rfl); intro ba)
  (repeat' (first | refine a_go ?_ | (with_reducible apply Fin.thenK; assumption) | (with_reducible (first | apply C.seqK | apply C.regionK); intro _ _) | (apply R.buildSlice0; exact rfl; intro bz) | (apply R.box; exact rfl; (simp only [Value.cells]; rfl); exact rfl; intro bx) | (apply R.alloc; (simp only [Value.cells]; rfl); exact rfl; intro ba) | (apply R.buildSlice; (exact a_prt); exact rfl; exact rfl; (exact a_fills); exact rfl; intro bl) | (refine a_sp ?_ ?_; (intro h; skip; rotate_left; intro h; skip; rotate_left)) | fail))
  apply R.arr (H2 := hp4 ++ ((ba, .cells #[.int .u64 5, .int .u64 2, .int .i64 14, .slice A5 1 c5] 31 (0, 0)) :: H)) (by ((try simp only [List.append_assoc, List.cons_append, List.nil_append, List.append_nil]); exact a_arr))
  (apply R.call; (exact a_evs); exact rfl; exact crash_K (keep := 1) (torn := 0) ho4 (by omega); rintro _ M6 _ ⟨rfl, hM6, hp5, ho5, rfl⟩)
  (repeat' (first | refine a_go ?_ | (with_reducible apply Fin.thenK; assumption) | (with_reducible (first | apply C.seqK | apply C.regionK); intro _ _) | (apply R.buildSlice0; exact rfl; intro bz) | (apply R.box; exact rfl; (simp only [Value.cells]; rfl); exact rfl; intro bx) | (apply R.alloc; (simp only [Value.cells]; rfl); exact rfl; intro ba) | (apply R.buildSlice; (exact a_prt); exact rfl; exact rfl; (exact a_fills); exact rfl; intro bl) | (refine a_sp ?_ ?_; (intro h; skip; rotate_left; intro h; skip; rotate_left)) | fail))
  (apply R.call; (exact a_evs); exact rfl; exact popen_K ho5 (Nat.zero_le _); rintro _ M7 _ ⟨vd7, rfl, hb7, hM7, hp6, ho6, rfl⟩)
  rw [e6] at hb7 ⊢
  rw [e5]
  change PlB M7 vd7 [97, 98] at hb7
  have hb7' := hb7
  unfold PlB at hb7'
  obtain ⟨A7, c7, rfl, _, _, _⟩ := hb7'
  rw [show snV (sn0 (some sn1)) (.slice A7 [(97 : UInt8), 98].length c7) = .agg #[.int .u64 4, .int .u64 2, .int .i64 14, .slice A7 2 c7] from rfl]
  (repeat' (first | (apply R.step; (exact a_ok); exact rfl) | (first | (with_reducible first | apply R.nil | apply C.ret | apply C.block | apply C.skip | apply C.exit | apply Fin.thenRet | apply Fin.thenExit | apply Fin.blockNormal | apply Fin.blockRet | apply Fin.blockExit) | (with_reducible apply Fin.thenK; assumption) | (with_reducible apply C.seqK; intro _ _) | (with_reducible apply C.regionK; intro _ _) | (with_reducible apply Fin.blockOther; exact rfl)) | (apply R.store; exact rfl; exact rfl; exact rfl; (exact a_at); (exact a_blit); exact rfl; (focus (simp [Value.oneCell']; done))) | (first | (apply R.guardT; assumption; exact rfl; exact rfl; exact rfl) | (apply R.guardF; assumption; exact rfl; exact rfl; exact rfl; exact rfl; exact rfl) | (apply R.guardU; assumption; exact rfl; exact rfl; exact rfl; exact rfl) | (apply R.guardDec; assumption; exact rfl; exact rfl; (intro h; skip; rotate_left; intro h; skip; rotate_left)) | (apply R.guardBeq; assumption; exact rfl; exact rfl; (intro h; skip; rotate_left; intro h; skip; rotate_left)) | (apply R.guardBne; assumption; exact rfl; exact rfl; (intro h; skip; rotate_left; intro h; skip; rotate_left)) | (apply R.guardNDec; assumption; exact rfl; exact rfl; (intro h; skip; rotate_left; intro h; skip; rotate_left)) | (apply R.guardNot; assumption; exact rfl; exact rfl; (intro h; skip; rotate_left; intro h; skip; rotate_left)) | (apply R.guardC; assumption; exact rfl; exact rfl; (intro h; skip; rotate_left; intro h; skip; rotate_left))) | (first | (apply C.condT; exact rfl) | (apply C.condF; exact rfl) | (apply C.condDec; exact rfl; (intro h; skip; rotate_left; intro h; skip; rotate_left)) | (apply C.condBeq; exact rfl; (intro h; skip; rotate_left; intro h; skip; rotate_left)) | (apply C.condBne; exact rfl; (intro h; skip; rotate_left; intro h; skip; rotate_left)) | (apply C.condNDec; exact rfl; (intro h; skip; rotate_left; intro h; skip; rotate_left)) | (apply C.condNot; exact rfl; (intro h; skip; rotate_left; intro h; skip; rotate_left)) | (apply C.cond; exact rfl; (intro h; skip; rotate_left; intro h; skip; rotate_left)))))
  ((apply R.alloc; (simp only [Value.cells]; rfl); exact rfl); intro bb)
  (repeat' (first | refine a_go ?_ | (with_reducible apply Fin.thenK; assumption) | (with_reducible (first | apply C.seqK | apply C.regionK); intro _ _) | (apply R.buildSlice0; exact rfl; intro bz) | (apply R.box; exact rfl; (simp only [Value.cells]; rfl); exact rfl; intro bx) | (apply R.alloc; (simp only [Value.cells]; rfl); exact rfl; intro ba) | (apply R.buildSlice; (exact a_prt); exact rfl; exact rfl; (exact a_fills); exact rfl; intro bl) | (refine a_sp ?_ ?_; (intro h; skip; rotate_left; intro h; skip; rotate_left)) | fail))
  (apply C.regionT (t := .free 0 (.free 1 (.free 2 (.free 3 (.free 4 (.free 5 (.free 6 (.one 7 (.one 8 (.free 9 (.free 10 (.free 11 (.free 12 (.free 13 (.free 14 (.free 15 (.free 16 (.free 17 (.free 18 (.one 19 (.one 20 (.free 21 (.free 22 .nil))))))))))))))))))))))) (Hs := [(bb, .cells #[.int .u64 4, .int .u64 2, .int .i64 14, .slice A7 2 c7] 31 (0, 0)), (ba, .cells #[.int .u64 5, .int .u64 2, .int .i64 14, .slice A5 1 c5] 31 (0, 0))]); exact Mix.h; (first | exact Arr.all _ | (exact a_arr) | ((try simp only [List.append_assoc, List.cons_append, List.nil_append, List.append_nil]); exact a_arr)); (exact a_np); kernel_rfl)
  (repeat' (first | (apply RT.step; exact rfl; intro _ _ _; (exact a_ok); exact rfl) | (apply RT.stepT; exact rfl; exact rfl; exact rfl; exact rfl; intro _ _ _; (exact a_ok); exact rfl) | (apply RT.stepF; exact rfl; exact rfl; exact rfl; exact rfl; exact rfl; exact rfl) | (apply RT.stepU; exact rfl; exact rfl; exact rfl; exact rfl; exact rfl) | (apply RT.one; apply OneT.effF; exact rfl; exact rfl; exact rfl; exact rfl; exact rfl; exact rfl) | (apply RT.one; apply OneT.effU; exact rfl; exact rfl; exact rfl; exact rfl; exact rfl)))
  (apply RT.one; apply OneT.effT; exact rfl; exact rfl; exact rfl; exact rfl; intro Kc hKc ops0)
  (apply R.call; (exact a_evs); exact rfl; exact snap_K (i := 5) (t := 2) (c := 14) (s := [99]) (by decide); rintro _ M8 _ ⟨v8, rfl, hb8, hM8, rfl⟩)
  have hb8' := hb8
  unfold PlB at hb8'
  obtain ⟨A8, c8, rfl, _, _, _⟩ := hb8'
  (apply R.nil; apply Fin.kt (Hx := hp6 ++ H) hKc; exact hM8; ((try simp only [List.append_assoc, List.cons_append, List.nil_append, List.append_nil]); exact a_arr))
  (repeat' (first | (apply RT.step; exact rfl; intro _ _ _; (exact a_ok); exact rfl) | (apply RT.stepT; exact rfl; exact rfl; exact rfl; exact rfl; intro _ _ _; (exact a_ok); exact rfl) | (apply RT.stepF; exact rfl; exact rfl; exact rfl; exact rfl; exact rfl; exact rfl) | (apply RT.stepU; exact rfl; exact rfl; exact rfl; exact rfl; exact rfl) | (apply RT.one; apply OneT.effF; exact rfl; exact rfl; exact rfl; exact rfl; exact rfl; exact rfl) | (apply RT.one; apply OneT.effU; exact rfl; exact rfl; exact rfl; exact rfl; exact rfl)))
  (apply RT.one; apply OneT.effT; exact rfl; exact rfl; exact rfl; exact rfl; intro Kc hKc ops0)
  (apply R.call; (exact a_evs); exact rfl; exact psame_T (i := 5) (t := 2) (c := 14) (a := [99]) (((hb5.mono hM6).mono hM7).mono hM8) hb8; rintro _ M8 _ ⟨rfl, rfl, rfl⟩)
  (apply R.nil; apply Fin.kt (Hx := hp6 ++ H) hKc; exact hM8; ((try simp only [List.append_assoc, List.cons_append, List.nil_append, List.append_nil]); exact a_arr))
  (repeat' (first | (apply RT.step; exact rfl; intro _ _ _; (exact a_ok); exact rfl) | (apply RT.stepT; exact rfl; exact rfl; exact rfl; exact rfl; intro _ _ _; (exact a_ok); exact rfl) | (apply RT.stepF; exact rfl; exact rfl; exact rfl; exact rfl; exact rfl; exact rfl) | (apply RT.stepU; exact rfl; exact rfl; exact rfl; exact rfl; exact rfl) | (apply RT.one; apply OneT.effF; exact rfl; exact rfl; exact rfl; exact rfl; exact rfl; exact rfl) | (apply RT.one; apply OneT.effU; exact rfl; exact rfl; exact rfl; exact rfl; exact rfl)))
  (apply RT.one; apply OneT.effT; exact rfl; exact rfl; exact rfl; exact rfl; intro Kc hKc ops0)
  (apply R.call; (exact a_evs); exact rfl; exact snap_K (i := 4) (t := 2) (c := 14) (s := [97, 98]) (by decide); rintro _ M9 _ ⟨v9, rfl, hb9, hM9, rfl⟩)
  have hb9' := hb9
  unfold PlB at hb9'
  obtain ⟨A9, c9, rfl, _, _, _⟩ := hb9'
  (apply R.nil; apply Fin.kt (Hx := hp6 ++ H) hKc; exact hM8.trans_ hM9; ((try simp only [List.append_assoc, List.cons_append, List.nil_append, List.append_nil]); exact a_arr))
  (repeat' (first | (apply RT.step; exact rfl; intro _ _ _; (exact a_ok); exact rfl) | (apply RT.stepT; exact rfl; exact rfl; exact rfl; exact rfl; intro _ _ _; (exact a_ok); exact rfl) | (apply RT.stepF; exact rfl; exact rfl; exact rfl; exact rfl; exact rfl; exact rfl) | (apply RT.stepU; exact rfl; exact rfl; exact rfl; exact rfl; exact rfl) | (apply RT.one; apply OneT.effF; exact rfl; exact rfl; exact rfl; exact rfl; exact rfl; exact rfl) | (apply RT.one; apply OneT.effU; exact rfl; exact rfl; exact rfl; exact rfl; exact rfl)))
  (apply RT.one; apply OneT.effT; exact rfl; exact rfl; exact rfl; exact rfl; intro Kc hKc ops0)
  (apply R.call; (exact a_evs); exact rfl; exact psame_T (i := 4) (t := 2) (c := 14) (a := [97, 98]) ((hb7.mono hM8).mono hM9) hb9; rintro _ M9 _ ⟨rfl, rfl, rfl⟩)
  (apply R.nil; apply Fin.kt (Hx := hp6 ++ H) hKc; exact hM8.trans_ hM9; ((try simp only [List.append_assoc, List.cons_append, List.nil_append, List.append_nil]); exact a_arr))
  (repeat' (first | (apply RT.step; exact rfl; intro _ _ _; (exact a_ok); exact rfl) | (apply RT.stepT; exact rfl; exact rfl; exact rfl; exact rfl; intro _ _ _; (exact a_ok); exact rfl) | (apply RT.stepF; exact rfl; exact rfl; exact rfl; exact rfl; exact rfl; exact rfl) | (apply RT.stepU; exact rfl; exact rfl; exact rfl; exact rfl; exact rfl) | (apply RT.one; apply OneT.effF; exact rfl; exact rfl; exact rfl; exact rfl; exact rfl; exact rfl) | (apply RT.one; apply OneT.effU; exact rfl; exact rfl; exact rfl; exact rfl; exact rfl)))
  apply RT.nil
  (repeat' (first | refine a_go ?_ | (with_reducible apply Fin.thenK; assumption) | (with_reducible (first | apply C.seqK | apply C.regionK); intro _ _) | (apply R.buildSlice0; exact rfl; intro bz) | (apply R.box; exact rfl; (simp only [Value.cells]; rfl); exact rfl; intro bx) | (apply R.alloc; (simp only [Value.cells]; rfl); exact rfl; intro ba) | (apply R.buildSlice; (exact a_prt); exact rfl; exact rfl; (exact a_fills); exact rfl; intro bl) | (refine a_sp ?_ ?_; (intro h; skip; rotate_left; intro h; skip; rotate_left)) | fail))
  (apply Fin.returnA (H2 := H); assumption; (first | exact .inl rfl | exact .inr rfl); exact rfl; (exact a_res); (simp only [retv]; rfl); (exact a_arr))
  exact ⟨rfl, hM1.trans_ (hM2.trans_ (hM3.trans_ (hM4.trans_ (hM5.trans_ (hM6.trans_ (hM7.trans_ (hM8.trans_ hM9))))))), rfl⟩
end Go.Sx
end
section
namespace Go.Sx
open Go Go.Proofs Go.RowKit
attribute [local irreducible] C R Fin K Own OwnT Rd Pl Ok KOf RetOk OpsOf RP KP Res NoPanic KV KE MapS ItS EntS FsO FsR RowD PlD DkO
variable {M M' : Mem} {H H1 H2 : Hp}
structure FE where
  n : Txt
  v : Value
  b : Txt
def feC (e : FE) : List Value := [str e.n, e.v]
def feP (e : FE) : Txt × Txt := (e.n, e.b)
def EsOk (M : Mem) (es : List FE) : Prop := ∀ e ∈ es, PlB M e.v e.b
theorem EsOk.mono {es : List FE} (hM : M.le M') (h : EsOk M es) : EsOk M' es := fun e he => (h e he).mono hM
def PlFs (M : Mem) (v : Value) (F : Fs) : Prop := ∃ A cap es, v = .slice A es.length cap ∧ es.length ≤ cap ∧ cap ≤ 9223372036854775807 ∧ Pl M A (es.map feC).flatten ∧ EsOk M es ∧ es.map feP = F
theorem PlFs.mono {v : Value} {F : Fs} (hM : M.le M') (h : PlFs M v F) : PlFs M' v F := by
  obtain ⟨A, cap, es, h1, h2, h3, h4, h5, h6⟩ := h
  exact ⟨A, cap, es, h1, h2, h3, h4.mono hM, h5.mono hM, h6⟩
theorem PlFs.nil : PlFs M (.slice none 0 0) [] := ⟨none, 0, [], rfl, Nat.le_refl _, by omega, Pl.nil, fun _ h => absurd h List.not_mem_nil, rfl⟩
theorem feC_all (es : List FE) : ∀ c ∈ es.map feC, c.length = 2 := by
  intro c hc
  obtain ⟨e, _, rfl⟩ := List.mem_map.1 hc
  rfl
theorem feC_len (es : List FE) : (es.map feC).flatten.length = es.length * 2 := by
  rw [rows_len (feC_all es), List.length_map]
theorem feC_take (es : List FE) (k : Nat) : (es.map feC).flatten.take (k * 2) = ((es.take k).map feC).flatten := by
  rw [rows_take (feC_all es), List.map_take]
theorem feC_drop (es : List FE) (k : Nat) : (es.map feC).flatten.drop (k * 2) = ((es.drop k).map feC).flatten := by
  rw [rows_drop (feC_all es), List.map_drop]
theorem feC_snoc (es : List FE) (e : FE) : ((es ++ [e]).map feC).flatten = (es.map feC).flatten ++ feC e := by
  rw [List.map_append, List.flatten_append]
  rfl
theorem feC_one {es : List FE} (h : EsOk M es) : ∀ u ∈ (es.map feC).flatten, u.oneCell' = true := by
  intro u hu
  obtain ⟨c, hc, huc⟩ := List.mem_flatten.1 hu
  obtain ⟨e, he, rfl⟩ := List.mem_map.1 hc
  obtain ⟨A, cap, h1, _⟩ := h e he
  unfold feC at huc
  rw [h1] at huc
  simp only [List.mem_cons, List.not_mem_nil, or_false] at huc
  rcases huc with rfl | rfl <;> rfl
theorem fe_at {A : Option Addr} {es : List FE} {k : Nat} (hp : Pl M A (es.map feC).flatten) (hk : k < es.length) :
    ∃ b o c e fr, A = some ⟨b, o, none⟩ ∧ M.at_ b = some (.cells c e fr) ∧ c[o + k * 2 + 0]? = some (str es[k].n) ∧ c[o + k * 2 + 1]? = some es[k].v := by
  have hkm : k < (es.map feC).length := by rw [List.length_map]; exact hk
  have hfl : ∀ (q : Nat) u, (feC es[k])[q]? = some u → (es.map feC).flatten[k * 2 + q]? = some u := fun q u hq => rows_get (feC_all es) hkm (by rw [List.getElem_map]; exact hq)
  obtain ⟨b, o, c, e, fr, g1, g2, g3⟩ := hp.get (hfl 0 _ rfl)
  obtain ⟨b', o', c', e', fr', g1', g2', g3'⟩ := hp.get (hfl 1 _ rfl)
  rw [g1] at g1'
  cases g1'
  rw [g2] at g2'
  cases g2'
  exact ⟨b, o, c, e, fr, g1, g2, by rw [show o + k * 2 + 0 = o + (k * 2 + 0) by omega]; exact g3, by rw [show o + k * 2 + 1 = o + (k * 2 + 1) by omega]; exact g3'⟩
def findI : Fs → Txt → Int → Int
  | [], _, _ => -1
  | p :: F, n, i => if p.1 = n then i else findI F n (i + 1)
theorem findI_spec : ∀ (F : Fs) (n : Txt) (i : Int), (findI F n i = -1 ∧ getS F n = none) ∨ ∃ j b, findI F n i = i + (j : Nat) ∧ F[j]? = some (n, b) ∧ getS F n = some b
  | [], _, _ => .inl ⟨rfl, rfl⟩
  | p :: F, n, i => by
    unfold findI getS
    by_cases h : p.1 = n
    · refine .inr ⟨0, p.2, ?_, ?_, ?_⟩
      · rw [if_pos h]; omega
      · rw [List.getElem?_cons_zero, ← h]
      · rw [List.find?_cons_of_pos (by simp [h])]; rfl
    · rw [if_neg h, List.find?_cons_of_neg (by simp [h])]
      rcases findI_spec F n (i + 1) with ⟨h1, h2⟩ | ⟨j, b, h1, h2, h3⟩
      · exact .inl ⟨h1, h2⟩
      · refine .inr ⟨j + 1, b, by rw [h1]; omega, by rw [List.getElem?_cons_succ]; exact h2, h3⟩
theorem findI_cons (p : Txt × Txt) (F : Fs) (n : Txt) (i : Int) : findI (p :: F) n i = if p.1 = n then i else findI F n (i + 1) := rfl
theorem take_snocE {α : Type} {l : List α} {i : Nat} (h : i < l.length) : l.take (i + 1) = l.take i ++ [l[i]] := List.take_succ_eq_append_getElem h
structure FiX where
  i : Nat
  ii : Int
theorem rfind_K {v : Value} {F : Fs} {n : Txt} (hf : PlFs M v F) (hl : F.length ≤ 1000000) : K Try.prog 70 [v, str n] M H fun v' M' H' => v' = .int .i64 (findI F n 0) ∧ M' = M ∧ H' = H := by
  obtain ⟨A, cap, es, rfl, h1, h2, h3, h4, rfl⟩ := hf
  rw [List.length_map] at hl
  refine K.enterK Try.func70 rfl rfl rfl ?_
  intro Q hNP hQ
  (repeat' (first | refine a_go ?_ | (with_reducible apply Fin.thenK; assumption) | (with_reducible (first | apply C.seqK | apply C.regionK); intro _ _) | (apply R.buildSlice0; exact rfl; intro bz) | (apply R.box; exact rfl; (simp only [Value.cells]; rfl); exact rfl; intro bx) | (apply R.alloc; (simp only [Value.cells]; rfl); exact rfl; intro ba) | (apply R.buildSlice; (exact a_prt); exact rfl; exact rfl; (exact a_fills); exact rfl; intro bl) | (refine a_sp ?_ ?_; (intro h; skip; rotate_left; intro h; skip; rotate_left)) | fail))
  apply C.loop (fun y : FiX => (y.i : Int) = y.ii ∧ y.i ≤ es.length ∧ findI (es.map feP) n 0 = findI ((es.drop y.i).map feP) n y.ii)
    (fun y => [(0, .slice A es.length cap), (1, str n), (5, .int .i64 y.ii)]) (fun _ => M) (fun _ => H) (fun y => es.length - y.i) ⟨0, 0⟩
  · exact ⟨rfl, Nat.zero_le _, rfl⟩
  · (exact a_subs)
  · exact rfl
  · exact rfl
  rintro ⟨i, ii⟩ ⟨hii, hi, hf⟩
  dsimp only at hii hi hf ⊢
  by_cases hix : i < es.length
  · obtain ⟨b, o, c, e, fr, rfl, hM, hc0, hc1⟩ := fe_at h3 hix
    rw [show o + i * 2 = o + ii.toNat * 2 by omega] at hc0 hc1
    rw [List.drop_eq_getElem_cons hix, List.map_cons, findI_cons] at hf
    (repeat' (first | (apply R.step; (apply Ok.move; exact rfl); exact rfl) | (apply R.step; (first | (apply Ok.loadP; exact rfl; exact rfl; exact hM; exact hc0) | (apply Ok.eqT; exact rfl; exact rfl)); exact rfl) | refine a_go ?_ | (with_reducible apply Fin.thenK; assumption) | (with_reducible (first | apply C.seqK | apply C.regionK); intro _ _) | (apply R.buildSlice0; exact rfl; intro bz) | (apply R.box; exact rfl; (simp only [Value.cells]; rfl); exact rfl; intro bx) | (apply R.alloc; (simp only [Value.cells]; rfl); exact rfl; intro ba) | (apply R.buildSlice; (exact a_prt); exact rfl; exact rfl; (exact a_fills); exact rfl; intro bl) | (refine a_sp ?_ ?_; (intro h; skip; rotate_left; intro h; skip; rotate_left)) | fail))
    · have he : es[i].n = n := by assumption
      have hf : findI (es.map feP) n 0 = ii := hf.trans (if_pos he)
      (refine Fin.rt ?_)
      exact ⟨by rw [hf], rfl, rfl⟩
    · have he : ¬ es[i].n = n := by assumption
      have hf : findI (es.map feP) n 0 = findI ((es.drop (i + 1)).map feP) n (ii + 1) := hf.trans (if_neg he)
      refine Fin.again (⟨i + 1, ii + 1⟩ : FiX) ⟨by dsimp only; omega, by dsimp only; omega, hf⟩ (by dsimp only; omega) ?_ rfl rfl
      (exact a_subs)
    all_goals (exfalso; omega)
  have hie : i = es.length := by omega
  subst hie
  rw [List.drop_length] at hf
  (repeat' (first | refine a_go ?_ | (with_reducible apply Fin.thenK; assumption) | (with_reducible (first | apply C.seqK | apply C.regionK); intro _ _) | (apply R.buildSlice0; exact rfl; intro bz) | (apply R.box; exact rfl; (simp only [Value.cells]; rfl); exact rfl; intro bx) | (apply R.alloc; (simp only [Value.cells]; rfl); exact rfl; intro ba) | (apply R.buildSlice; (exact a_prt); exact rfl; exact rfl; (exact a_fills); exact rfl; intro bl) | (refine a_sp ?_ ?_; (intro h; skip; rotate_left; intro h; skip; rotate_left)) | fail))
  any_goals (exfalso; omega)
  (refine Fin.rt ?_)
  exact ⟨by rw [hf]; rfl, rfl, rfl⟩
structure WoX where
  i : Nat
  ii : Int
  os : List FE
  ov : Value
  ho : Hp
theorem rwithout_K {v : Value} {F : Fs} {n : Txt} (hf : PlFs M v F) (hl : F.length ≤ 1000000) : K Try.prog 84 [v, str n] M H fun v' M' H' => PlFs M' v' (delS F n) ∧ M.le M' ∧ H' = H := by
  obtain ⟨A, cap, es, rfl, h1, h2, h3, h4, rfl⟩ := hf
  rw [List.length_map] at hl
  refine K.enterK Try.func84 rfl rfl rfl ?_
  intro Q hNP hQ
  (repeat' (first | refine a_go ?_ | (with_reducible apply Fin.thenK; assumption) | (with_reducible (first | apply C.seqK | apply C.regionK); intro _ _) | (apply R.buildSlice0; exact rfl; intro bz) | (apply R.box; exact rfl; (simp only [Value.cells]; rfl); exact rfl; intro bx) | (apply R.alloc; (simp only [Value.cells]; rfl); exact rfl; intro ba) | (apply R.buildSlice; (exact a_prt); exact rfl; exact rfl; (exact a_fills); exact rfl; intro bl) | (refine a_sp ?_ ?_; (intro h; skip; rotate_left; intro h; skip; rotate_left)) | fail))
  apply C.loop (fun y : WoX => (y.i : Int) = y.ii ∧ y.i ≤ es.length ∧ y.os.length ≤ y.i ∧ EsOk M y.os ∧ y.os.map feP = delS ((es.take y.i).map feP) n ∧ Own 50 2 y.ov y.os.length (y.os.map feC).flatten y.ho)
    (fun y => [(0, .slice A es.length cap), (1, str n), (5, y.ov), (6, .int .i64 y.ii)]) (fun _ => M) (fun y => y.ho ++ H) (fun y => es.length - y.i) ⟨0, 0, [], .slice none 0 0, []⟩
  · exact ⟨rfl, Nat.zero_le _, Nat.le_refl _, fun _ h => absurd h List.not_mem_nil, rfl, Own.nil _ _⟩
  · (exact a_subs)
  · exact rfl
  · exact rfl
  rintro ⟨i, ii, os, ov, ho⟩ ⟨hii, hi, hol, hok, hos, hown⟩
  dsimp only at hii hi hol hok hos hown ⊢
  obtain ⟨AO, co, rfl, k1, k2⟩ := hown.form
  by_cases hix : i < es.length
  · obtain ⟨b, o, c, e, fr, hA, hM, hc0, hc1⟩ := fe_at h3 hix
    subst hA
    rw [show o + i * 2 = o + ii.toNat * 2 by omega] at hc0 hc1
    have hei := h4 _ (List.getElem_mem hix)
    have htk : (es.take (i + 1)).map feP = (es.take i).map feP ++ [feP es[i]] := by rw [take_snocE hix, List.map_append]; rfl
    (repeat' (first | (apply R.step; (apply Ok.move; exact rfl); exact rfl) | (apply R.step; (first | (apply Ok.loadP; exact rfl; exact rfl; exact hM; exact hc0) | (apply Ok.neT; exact rfl; exact rfl)); exact rfl) | refine a_go ?_ | (with_reducible apply Fin.thenK; assumption) | (with_reducible (first | apply C.seqK | apply C.regionK); intro _ _) | (apply R.buildSlice0; exact rfl; intro bz) | (apply R.box; exact rfl; (simp only [Value.cells]; rfl); exact rfl; intro bx) | (apply R.alloc; (simp only [Value.cells]; rfl); exact rfl; intro ba) | (apply R.buildSlice; (exact a_prt); exact rfl; exact rfl; (exact a_fills); exact rfl; intro bl) | (refine a_sp ?_ ?_; (intro h; skip; rotate_left; intro h; skip; rotate_left)) | fail))
    · have he : ¬ es[i].n = n := by assumption
      obtain ⟨Ai, ci, hvi, _⟩ := hei
      rw [hvi] at hc1
      have hagg : ∀ j u, [str es[i].n, Value.slice Ai es[i].b.length ci][j]? = some u → c[o + ii.toNat * 2 + j]? = some u := by
        intro j u hj
        match j, hj with
        | 0, hj => cases hj; exact hc0
        | 1, hj => cases hj; exact hc1
      (repeat' (first | (apply R.step; (apply Ok.move; exact rfl); exact rfl) | (apply R.step; (apply Ok.loadAggP (vs := [str es[i].n, .slice Ai es[i].b.length ci]); exact rfl; exact rfl; exact hM; exact rfl; exact hagg); exact rfl) | refine a_go ?_ | (with_reducible apply Fin.thenK; assumption) | (with_reducible (first | apply C.seqK | apply C.regionK); intro _ _) | (apply R.buildSlice0; exact rfl; intro bz) | (apply R.box; exact rfl; (simp only [Value.cells]; rfl); exact rfl; intro bx) | (apply R.alloc; (simp only [Value.cells]; rfl); exact rfl; intro ba) | (apply R.buildSlice; (exact a_prt); exact rfl; exact rfl; (exact a_fills); exact rfl; intro bl) | (refine a_sp ?_ ?_; (intro h; skip; rotate_left; intro h; skip; rotate_left)) | fail))
      (apply R.append (news := [str es[i].n, .slice Ai es[i].b.length ci]) (k := 1); exact rfl; exact rfl; exact hown; (exact a_tk); exact Rd.at_ (l := [str es[i].n, .slice Ai es[i].b.length ci]) (by (exact a_at)) (fun j x h => by rw [Nat.zero_add]; exact h); exact rfl; (intro u hu; simp only [List.mem_cons, List.not_mem_nil, or_false] at hu; rcases hu with rfl | rfl <;> rfl); omega; exact rfl; decide; decide; exact rfl; rintro v3 hp3 ho3)
      (repeat' (first | refine a_go ?_ | (with_reducible apply Fin.thenK; assumption) | (with_reducible (first | apply C.seqK | apply C.regionK); intro _ _) | (apply R.buildSlice0; exact rfl; intro bz) | (apply R.box; exact rfl; (simp only [Value.cells]; rfl); exact rfl; intro bx) | (apply R.alloc; (simp only [Value.cells]; rfl); exact rfl; intro ba) | (apply R.buildSlice; (exact a_prt); exact rfl; exact rfl; (exact a_fills); exact rfl; intro bl) | (refine a_sp ?_ ?_; (intro h; skip; rotate_left; intro h; skip; rotate_left)) | fail))
      (apply Fin.arr (H2 := hp3 ++ H); ((try simp only [List.append_assoc, List.cons_append, List.nil_append, List.append_nil]); exact a_arr))
      refine Fin.again (⟨i + 1, ii + 1, os ++ [es[i]], v3, hp3⟩ : WoX) ⟨by dsimp only; omega, by dsimp only; omega, by dsimp only; rw [List.length_append]; show _ + 1 ≤ _; omega, ?_, ?_, ?_⟩ (by dsimp only; omega) ?_ rfl rfl
      · intro e he
        rcases List.mem_append.1 he with he | he
        · exact hok e he
        · rw [List.mem_singleton] at he
          rw [he]
          exact h4 _ (List.getElem_mem hix)
      · dsimp only
        rw [htk, List.map_append, hos]
        unfold delS
        rw [List.filter_append, List.filter_cons_of_pos (by simp [feP, he])]
        rfl
      · dsimp only
        rw [feC_snoc, List.length_append]
        unfold feC
        rw [hvi]
        exact ho3
      · (exact a_subs)
    · have he : es[i].n = n := by assumption
      refine Fin.again (⟨i + 1, ii + 1, os, _, ho⟩ : WoX) ⟨by dsimp only; omega, by dsimp only; omega, by dsimp only; omega, hok, ?_, hown⟩ (by dsimp only; omega) ?_ rfl rfl
      · dsimp only
        rw [htk, hos]
        unfold delS
        rw [List.filter_append, List.filter_cons_of_neg (by simp [feP, he])]
        simp
      · (exact a_subs)
    all_goals (exfalso; omega)
  have hie : i = es.length := by omega
  subst hie
  rw [List.take_length] at hos
  (repeat' (first | refine a_go ?_ | (with_reducible apply Fin.thenK; assumption) | (with_reducible (first | apply C.seqK | apply C.regionK); intro _ _) | (apply R.buildSlice0; exact rfl; intro bz) | (apply R.box; exact rfl; (simp only [Value.cells]; rfl); exact rfl; intro bx) | (apply R.alloc; (simp only [Value.cells]; rfl); exact rfl; intro ba) | (apply R.buildSlice; (exact a_prt); exact rfl; exact rfl; (exact a_fills); exact rfl; intro bl) | (refine a_sp ?_ ?_; (intro h; skip; rotate_left; intro h; skip; rotate_left)) | fail))
  any_goals (exfalso; omega)
  (apply Fin.ice (hp := ho) (H1 := H) (by (exact a_arr)); intro M2 hM2 hin2)
  (apply Fin.returnA (H2 := H); assumption; (first | exact .inl rfl | exact .inr rfl); exact rfl; (exact a_res); (simp only [retv]; rfl); (exact a_arr))
  exact ⟨⟨AO, co, os, rfl, k1, by unfold maxLen at k2; omega, hown.plIn hin2, hok.mono hM2, hos⟩, hM2, rfl⟩
def insF : Fs → Txt × Txt → Fs
  | [], p => [p]
  | q :: F, p => if Op.bytesLess q.1 p.1 then q :: insF F p else p :: q :: F
theorem insF_cons (q : Txt × Txt) (F : Fs) (p : Txt × Txt) : insF (q :: F) p = if Op.bytesLess q.1 p.1 then q :: insF F p else p :: q :: F := rfl
def insE : List FE → FE → List FE
  | [], p => [p]
  | q :: F, p => if Op.bytesLess q.n p.n then q :: insE F p else p :: q :: F
theorem insE_map : ∀ (es : List FE) (e : FE), (insE es e).map feP = insF (es.map feP) (feP e)
  | [], _ => rfl
  | q :: es, e => by
    unfold insE
    rw [List.map_cons, insF_cons]
    show (if Op.bytesLess q.n e.n then q :: insE es e else e :: q :: es).map feP = if Op.bytesLess q.n e.n then feP q :: insF (es.map feP) (feP e) else feP e :: feP q :: es.map feP
    split
    · rw [List.map_cons, insE_map es e]
    · rfl
structure WiX where
  v : Value
  b : Nat
  hp : Hp
theorem rwith_K {v fv : Value} {F : Fs} {n b : Txt} (hf : PlFs M v F) (hb : PlB M fv b) (hl : F.length ≤ 1000000) : K Try.prog 83 [v, .agg #[str n, fv]] M H fun v' M' H' => PlFs M' v' (insF (delS F n) (n, b)) ∧ M.le M' ∧ H' = H := by
  refine K.enterK Try.func83 rfl rfl rfl ?_
  intro Q hNP hQ
  have hb0 := hb
  obtain ⟨Ab, cb, rfl, hb1, hb2, hb3⟩ := hb0
  (repeat' (first | refine a_go ?_ | (with_reducible apply Fin.thenK; assumption) | (with_reducible (first | apply C.seqK | apply C.regionK); intro _ _) | (apply R.buildSlice0; exact rfl; intro bz) | (apply R.box; exact rfl; (simp only [Value.cells]; rfl); exact rfl; intro bx) | (apply R.alloc; (simp only [Value.cells]; rfl); exact rfl; intro ba) | (apply R.buildSlice; (exact a_prt); exact rfl; exact rfl; (exact a_fills); exact rfl; intro bl) | (refine a_sp ?_ ?_; (intro h; skip; rotate_left; intro h; skip; rotate_left)) | fail))
  (apply R.call; (exact a_evs); exact rfl; exact rwithout_K (n := n) hf hl; rintro v1 M1 _ ⟨hf1, hM1, rfl⟩)
  replace hb := hb.mono hM1
  have hl1 : (delS F n).length ≤ 1000000 := Nat.le_trans (List.length_filter_le _ _) hl
  generalize delS F n = G at hf1 hQ hl1
  obtain ⟨A, cap, es, rfl, h1, h2, h3, h4, rfl⟩ := hf1
  rw [List.length_map] at hl1
  (repeat' (first | (apply R.step; (exact a_ok); exact rfl) | (first | (with_reducible first | apply R.nil | apply C.ret | apply C.block | apply C.skip | apply C.exit | apply Fin.thenRet | apply Fin.thenExit | apply Fin.blockNormal | apply Fin.blockRet | apply Fin.blockExit) | (with_reducible apply Fin.thenK; assumption) | (with_reducible apply C.seqR; intro _ _) | (with_reducible apply C.regionK; intro _ _) | (with_reducible apply Fin.blockOther; exact rfl)) | (first | (apply R.store; exact rfl; exact rfl; exact rfl; (exact a_at); (exact a_blit); exact rfl; (focus (simp [Value.oneCell']; done))) | (apply R.buildSlice0; exact rfl; intro bz) | (apply R.box; exact rfl; (simp only [Value.cells]; rfl); exact rfl; intro bx) | (apply R.alloc; (simp only [Value.cells]; rfl); exact rfl; intro ba) | (apply R.buildSlice; (exact a_prt); exact rfl; exact rfl; (exact a_fills); exact rfl; intro bl)) | (first | (apply R.guardT; assumption; exact rfl; exact rfl; exact rfl) | (apply R.guardF; assumption; exact rfl; exact rfl; exact rfl; exact rfl; exact rfl) | (apply R.guardU; assumption; exact rfl; exact rfl; exact rfl; exact rfl) | (apply R.guardDec; assumption; exact rfl; exact rfl; (intro h; skip; rotate_left; intro h; skip; rotate_left)) | (apply R.guardBeq; assumption; exact rfl; exact rfl; (intro h; skip; rotate_left; intro h; skip; rotate_left)) | (apply R.guardBne; assumption; exact rfl; exact rfl; (intro h; skip; rotate_left; intro h; skip; rotate_left)) | (apply R.guardNDec; assumption; exact rfl; exact rfl; (intro h; skip; rotate_left; intro h; skip; rotate_left)) | (apply R.guardNot; assumption; exact rfl; exact rfl; (intro h; skip; rotate_left; intro h; skip; rotate_left)) | (apply R.guardC; assumption; exact rfl; exact rfl; (intro h; skip; rotate_left; intro h; skip; rotate_left)))))
  apply C.seqCut (fun y : FiX => (y.i : Int) = y.ii ∧ y.i ≤ es.length ∧ insE es ⟨n, .slice Ab b.length cb, b⟩ = es.take y.i ++ ⟨n, .slice Ab b.length cb, b⟩ :: es.drop y.i)
    (fun y => [(0, .slice A es.length cap), (3, .pointer (some ⟨bx, 0, none⟩)), (5, .int .i64 y.ii)]) (fun _ => M1) (fun _ => (bx, .cells #[str n, .slice Ab b.length cb] 50 (0, 0)) :: H)
  · (repeat' (first | refine a_go ?_ | (with_reducible apply Fin.thenK; assumption) | (with_reducible (first | apply C.seqK | apply C.regionK); intro _ _) | (apply R.buildSlice0; exact rfl; intro bz) | (apply R.box; exact rfl; (simp only [Value.cells]; rfl); exact rfl; intro bx) | (apply R.alloc; (simp only [Value.cells]; rfl); exact rfl; intro ba) | (apply R.buildSlice; (exact a_prt); exact rfl; exact rfl; (exact a_fills); exact rfl; intro bl) | (refine a_sp ?_ ?_; (intro h; skip; rotate_left; intro h; skip; rotate_left)) | fail))
    apply C.loop (fun y : FiX => (y.i : Int) = y.ii ∧ y.i ≤ es.length ∧ insE es ⟨n, .slice Ab b.length cb, b⟩ = es.take y.i ++ insE (es.drop y.i) ⟨n, .slice Ab b.length cb, b⟩)
      (fun y => [(0, .slice A es.length cap), (3, .pointer (some ⟨bx, 0, none⟩)), (5, .int .i64 y.ii)]) (fun _ => M1) (fun _ => (bx, .cells #[str n, .slice Ab b.length cb] 50 (0, 0)) :: H) (fun y => es.length - y.i) ⟨0, 0⟩
    · exact ⟨rfl, Nat.zero_le _, rfl⟩
    · (exact a_subs)
    · exact rfl
    · exact rfl
    rintro ⟨i, ii⟩ ⟨hii, hi, hins⟩
    dsimp only at hii hi hins ⊢
    by_cases hix : i < es.length
    · obtain ⟨bb, o, c, e, fr, hA, hM, hc0, hc1⟩ := fe_at h3 hix
      subst hA
      rw [show o + i * 2 = o + ii.toNat * 2 by omega] at hc0 hc1
      have hdr := List.drop_eq_getElem_cons hix
      rw [hdr] at hins
      change _ = _ ++ if Op.bytesLess es[i].n n then _ else _ at hins
      (repeat' (first | refine a_go ?_ | (with_reducible apply Fin.thenK; assumption) | (with_reducible (first | apply C.seqK | apply C.regionK); intro _ _) | (apply R.buildSlice0; exact rfl; intro bz) | (apply R.box; exact rfl; (simp only [Value.cells]; rfl); exact rfl; intro bx) | (apply R.alloc; (simp only [Value.cells]; rfl); exact rfl; intro ba) | (apply R.buildSlice; (exact a_prt); exact rfl; exact rfl; (exact a_fills); exact rfl; intro bl) | (refine a_sp ?_ ?_; (intro h; skip; rotate_left; intro h; skip; rotate_left)) | fail))
      (apply C.regionO (ks := [1, 1, 1, 1, 1, 1, 1, 1, 1, 1, 1, 1, 1, 1]) (is := [0, 1, 2, 3, 4, 5, 6, 7, 8, 9, 10, 11, 12, 13]) (Hs := [(bx, .cells #[str n, .slice Ab b.length cb] 50 (0, 0))]); exact Mix.h; (first | exact Arr.all _ | (exact a_arr)); (exact a_np); (exact a_picked); kernel_rfl; intro _ e; subst e)
      (repeat' (first | (apply RP.step; intro _ _ _; (apply Ok.move; exact rfl); exact rfl) | (apply RP.step; intro _ _ hMx; (apply Ok.ltTr; exact rfl; exact rfl; omega); exact rfl) | (apply RP.stepT; exact rfl; exact rfl; exact rfl; intro _ _ hMx; (first | (apply Ok.loadP; exact rfl; exact rfl; exact hMx.2.2 _ _ hM; exact hc0) | (apply Ok.ltT; exact rfl; exact rfl)); exact rfl) | (first | (apply RP.step; intro _ _ _; (exact a_ok); exact rfl) | (apply RP.stepT; exact rfl; exact rfl; exact rfl; intro _ _ _; (exact a_ok); exact rfl) | (apply RP.stepF; exact rfl; exact rfl; exact rfl; exact rfl; exact rfl) | (apply RP.effF; exact rfl; exact rfl; exact rfl; exact rfl; exact rfl)) | (apply RP.callQ; (exact a_evs); exact rfl)))
      (first | apply RP.nil0 | apply RP.nil)
      cases hlt : Op.bytesLess es[i].n n with
      | true =>
        rw [if_pos hlt] at hins
        (repeat' (first | refine a_go ?_ | (with_reducible apply Fin.thenK; assumption) | (with_reducible (first | apply C.seqK | apply C.regionK); intro _ _) | (apply R.buildSlice0; exact rfl; intro bz) | (apply R.box; exact rfl; (simp only [Value.cells]; rfl); exact rfl; intro bx) | (apply R.alloc; (simp only [Value.cells]; rfl); exact rfl; intro ba) | (apply R.buildSlice; (exact a_prt); exact rfl; exact rfl; (exact a_fills); exact rfl; intro bl) | (refine a_sp ?_ ?_; (intro h; skip; rotate_left; intro h; skip; rotate_left)) | fail))
        refine Fin.again (⟨i + 1, ii + 1⟩ : FiX) ⟨by dsimp only; omega, by dsimp only; omega, ?_⟩ (by dsimp only; omega) ?_ rfl rfl
        · dsimp only
          rw [take_snocE hix, List.append_assoc]
          exact hins
        · (exact a_subs)
      | false =>
        rw [if_neg (by rw [hlt]; decide)] at hins
        (repeat' (first | refine a_go ?_ | (with_reducible apply Fin.thenK; assumption) | (with_reducible (first | apply C.seqK | apply C.regionK); intro _ _) | (apply R.buildSlice0; exact rfl; intro bz) | (apply R.box; exact rfl; (simp only [Value.cells]; rfl); exact rfl; intro bx) | (apply R.alloc; (simp only [Value.cells]; rfl); exact rfl; intro ba) | (apply R.buildSlice; (exact a_prt); exact rfl; exact rfl; (exact a_fills); exact rfl; intro bl) | (refine a_sp ?_ ?_; (intro h; skip; rotate_left; intro h; skip; rotate_left)) | fail))
        refine Fin.join (⟨i, ii⟩ : FiX) ⟨hii, hi, ?_⟩ ?_ rfl rfl
        · dsimp only
          rw [hdr]
          exact hins
        · (exact a_subs)
    have hie : i = es.length := by omega
    subst hie
    (repeat' (first | refine a_go ?_ | (with_reducible apply Fin.thenK; assumption) | (with_reducible (first | apply C.seqK | apply C.regionK); intro _ _) | (apply R.buildSlice0; exact rfl; intro bz) | (apply R.box; exact rfl; (simp only [Value.cells]; rfl); exact rfl; intro bx) | (apply R.alloc; (simp only [Value.cells]; rfl); exact rfl; intro ba) | (apply R.buildSlice; (exact a_prt); exact rfl; exact rfl; (exact a_fills); exact rfl; intro bl) | (refine a_sp ?_ ?_; (intro h; skip; rotate_left; intro h; skip; rotate_left)) | fail))
    (apply C.regionO (ks := [1, 1, 1, 1, 1, 1, 1, 1, 1, 1, 1, 1, 1, 1]) (is := [0, 1, 2, 3, 4, 5, 6, 7, 8, 9, 10, 11, 12, 13]) (Hs := [(bx, .cells #[str n, .slice Ab b.length cb] 50 (0, 0))]); exact Mix.h; (first | exact Arr.all _ | (exact a_arr)); (exact a_np); (exact a_picked); kernel_rfl; intro _ e; subst e)
    (repeat' (first | (apply RP.step; intro _ _ _; (apply Ok.move; exact rfl); exact rfl) | (apply RP.step; intro _ _ hMx; (apply Ok.ltF; exact rfl; exact rfl; omega); exact rfl) | (first | (apply RP.step; intro _ _ _; (exact a_ok); exact rfl) | (apply RP.stepT; exact rfl; exact rfl; exact rfl; intro _ _ _; (exact a_ok); exact rfl) | (apply RP.stepF; exact rfl; exact rfl; exact rfl; exact rfl; exact rfl) | (apply RP.effF; exact rfl; exact rfl; exact rfl; exact rfl; exact rfl)) | (apply RP.callQ; (exact a_evs); exact rfl)))
    (first | apply RP.nil0 | apply RP.nil)
    (repeat' (first | refine a_go ?_ | (with_reducible apply Fin.thenK; assumption) | (with_reducible (first | apply C.seqK | apply C.regionK); intro _ _) | (apply R.buildSlice0; exact rfl; intro bz) | (apply R.box; exact rfl; (simp only [Value.cells]; rfl); exact rfl; intro bx) | (apply R.alloc; (simp only [Value.cells]; rfl); exact rfl; intro ba) | (apply R.buildSlice; (exact a_prt); exact rfl; exact rfl; (exact a_fills); exact rfl; intro bl) | (refine a_sp ?_ ?_; (intro h; skip; rotate_left; intro h; skip; rotate_left)) | fail))
    refine Fin.join (⟨es.length, ii⟩ : FiX) ⟨hii, hi, ?_⟩ ?_ rfl rfl
    · dsimp only
      rw [List.drop_length] at hins ⊢
      exact hins
    · (exact a_subs)
  rintro ⟨i, ii⟩ ⟨hii, hi, hins⟩
  dsimp only at hii hi hins ⊢
  have hpt : Pl M1 A ((es.take i).map feC).flatten := by rw [← feC_take]; exact h3.take _
  have hpd : Pl M1 (adv A i 2 cap) ((es.drop i).map feC).flatten := by rw [← feC_drop]; exact h3.cut (by rw [feC_len]; omega)
  have hone1 := feC_one (es := es.take i) (fun e he => h4 e (List.mem_of_mem_take he))
  have hone2 := feC_one (es := es.drop i) (fun e he => h4 e (List.mem_of_mem_drop he))
  have hlt : ((es.take i).map feC).flatten.length = i * 2 := by rw [feC_len, List.length_take]; omega
  have hld : ((es.drop i).map feC).flatten.length = (es.length - i) * 2 := by rw [feC_len, List.length_drop]
  subst hii
  (repeat' (first | refine a_go ?_ | (with_reducible apply Fin.thenK; assumption) | (with_reducible (first | apply C.seqK | apply C.regionK); intro _ _) | (apply R.buildSlice0; exact rfl; intro bz) | (apply R.box; exact rfl; (simp only [Value.cells]; rfl); exact rfl; intro bx) | (apply R.alloc; (simp only [Value.cells]; rfl); exact rfl; intro ba) | (apply R.buildSlice; (exact a_prt); exact rfl; exact rfl; (exact a_fills); exact rfl; intro bl) | (refine a_sp ?_ ?_; (intro h; skip; rotate_left; intro h; skip; rotate_left)) | fail))
  (apply C.regionO (ks := [1, 1, 1, 1, 1, 1, 1, 1, 2, 2, 0, 0, 1]) (is := [0, 1, 2, 3, 5, 8, 9, 10, 4, 6, 7, 11, 12]) (Hs := [(bx, .cells #[str n, .slice Ab b.length cb] 50 (0, 0))]); exact Mix.h; (first | exact Arr.all _ | (exact a_arr)); (exact a_np); (exact a_picked); kernel_rfl; intro _ e; subst e)
  (repeat' (first | (apply RP.step; intro _ _ _; (apply Ok.move; exact rfl); exact rfl) | (apply RP.step; intro _ _ hMx; (first | (apply Ok.sliceHi; exact rfl; exact rfl; omega; omega) | (apply Ok.sliceLo; exact rfl; exact rfl; omega; omega)); exact rfl) | (first | (apply RP.step; intro _ _ _; (exact a_ok); exact rfl) | (apply RP.stepT; exact rfl; exact rfl; exact rfl; intro _ _ _; (exact a_ok); exact rfl) | (apply RP.stepF; exact rfl; exact rfl; exact rfl; exact rfl; exact rfl) | (apply RP.effF; exact rfl; exact rfl; exact rfl; exact rfl; exact rfl)) | (apply RP.callQ; (exact a_evs); exact rfl)))
  apply RP.pair (I := fun y : WiX => Own 50 2 y.v i ((es.take i).map feC).flatten y.hp) (Lf := fun y => [(31, y.v), (33, .slice (some ⟨y.b, 0, none⟩) 1 1), (37, .slice (adv A i 2 cap) (es.length - i) (cap - i))]) (Mf := fun _ => M1) (Hf := fun y => y.hp ++ ((y.b, .cells [str n, .slice Ab b.length cb].toArray 50 (0, 0)) :: H))
  · intro Kc hKc ops0
    (apply R.append (news := ((es.take i).map feC).flatten) (k := i); exact rfl; exact rfl; exact Own.nil _ _; exact Tk.none _; exact hpt.rd; exact hlt; exact hone1; omega; exact rfl; decide; decide; exact rfl; rintro w1 hw1 ho1)
    rw [Nat.zero_add, List.nil_append] at ho1
    apply R.nil
    apply Fin.ke hKc (Hx := hw1 ++ H) (Mem.le_refl _) (by (exact a_arr))
    intro ops1
    (apply R.buildSlice; (exact a_prt); exact rfl; exact rfl; (exact a_fills); exact rfl; intro bl)
    apply R.nil
    apply Fin.meet (⟨w1, bl, hw1⟩ : WiX) ho1 (Mem.le_refl _) ?_ rfl (by (exact a_arr))
    dsimp only
    (exact a_subs)
  · intro Kc hKc ops0
    (apply R.buildSlice; (exact a_prt); exact rfl; exact rfl; (exact a_fills); exact rfl; intro bl)
    apply R.nil
    apply Fin.ke hKc (Hx := (bl, .cells [str n, .slice Ab b.length cb].toArray 50 (0, 0)) :: H) (Mem.le_refl _) (by (exact a_arr))
    intro ops1
    (apply R.append (news := ((es.take i).map feC).flatten) (k := i); exact rfl; exact rfl; exact Own.nil _ _; exact Tk.none _; exact hpt.rd; exact hlt; exact hone1; omega; exact rfl; decide; decide; exact rfl; rintro w1 hw1 ho1)
    rw [Nat.zero_add, List.nil_append] at ho1
    apply R.nil
    apply Fin.meet (⟨w1, bl, hw1⟩ : WiX) ho1 (Mem.le_refl _) ?_ rfl (by (exact a_arr))
    dsimp only
    (exact a_subs)
  rintro ⟨w1, bl, hw1⟩ ho1
  dsimp only at ho1 ⊢
  obtain ⟨A1, c1, rfl, _, _⟩ := ho1.form
  (apply RP.eff; intro Kc hKc ops0)
  (apply R.append (news := [str n, .slice Ab b.length cb]) (k := 1); exact rfl; exact rfl; exact ho1; (exact a_tk); exact Rd.at_ (l := [str n, .slice Ab b.length cb]) (by (exact a_at)) (fun j x h => by rw [Nat.zero_add]; exact h); exact rfl; (intro u hu; simp only [List.mem_cons, List.not_mem_nil, or_false] at hu; rcases hu with rfl | rfl <;> rfl); omega; exact rfl; decide; decide; exact rfl; rintro w2 hw2 ho2)
  obtain ⟨A2, c2, rfl, _, _⟩ := ho2.form
  (apply R.nil; apply Fin.kp (Hx := hw2 ++ H) hKc; exact Mem.le_refl _; ((try simp only [List.append_assoc, List.cons_append, List.nil_append, List.append_nil]); exact a_arr))
  (apply RP.eff; intro Kc hKc ops0)
  (apply R.append (news := ((es.drop i).map feC).flatten) (k := es.length - i); exact rfl; exact rfl; exact ho2; (exact a_tk); exact hpd.rd; exact hld; exact hone2; omega; exact rfl; decide; decide; exact rfl; rintro w3 hw3 ho3)
  obtain ⟨A3, c3, rfl, k1, k2⟩ := ho3.form
  (apply R.nil; apply Fin.kp (Hx := hw3 ++ H) hKc; exact Mem.le_refl _; ((try simp only [List.append_assoc, List.cons_append, List.nil_append, List.append_nil]); exact a_arr))
  (repeat' (first | (first | (apply RP.step; intro _ _ _; (exact a_ok); exact rfl) | (apply RP.stepT; exact rfl; exact rfl; exact rfl; intro _ _ _; (exact a_ok); exact rfl) | (apply RP.stepF; exact rfl; exact rfl; exact rfl; exact rfl; exact rfl) | (apply RP.effF; exact rfl; exact rfl; exact rfl; exact rfl; exact rfl)) | (apply RP.callQ; (exact a_evs); exact rfl)))
  (first | apply RP.nil0 | apply RP.nil)
  (repeat' (first | refine a_go ?_ | (with_reducible apply Fin.thenK; assumption) | (with_reducible (first | apply C.seqK | apply C.regionK); intro _ _) | (apply R.buildSlice0; exact rfl; intro bz) | (apply R.box; exact rfl; (simp only [Value.cells]; rfl); exact rfl; intro bx) | (apply R.alloc; (simp only [Value.cells]; rfl); exact rfl; intro ba) | (apply R.buildSlice; (exact a_prt); exact rfl; exact rfl; (exact a_fills); exact rfl; intro bl) | (refine a_sp ?_ ?_; (intro h; skip; rotate_left; intro h; skip; rotate_left)) | fail))
  have hE : ((es.take i).map feC).flatten ++ [str n, .slice Ab b.length cb] ++ ((es.drop i).map feC).flatten = ((insE es ⟨n, .slice Ab b.length cb, b⟩).map feC).flatten := by
    rw [hins, List.map_append, List.map_cons, List.flatten_append, List.flatten_cons, List.append_assoc]
    rfl
  have hL : (insE es ⟨n, .slice Ab b.length cb, b⟩).length = i + 1 + (es.length - i) := by
    rw [hins, List.length_append, List.length_cons, List.length_take, List.length_drop]
    omega
  rw [hE] at ho3
  (apply Fin.ice (hp := hw3) (H1 := H) (by (exact a_arr)); intro M2 hM2 hin2)
  (apply Fin.returnA (H2 := H); assumption; (first | exact .inl rfl | exact .inr rfl); exact rfl; (exact a_res); (simp only [retv]; rfl); (exact a_arr))
  refine ⟨⟨A3, c3, insE es ⟨n, .slice Ab b.length cb, b⟩, by rw [hL], by rw [hL]; exact k1, by unfold maxLen at k2; omega, ho3.plIn hin2, ?_, insE_map _ _⟩, hM1.trans_ hM2, rfl⟩
  intro e he
  rw [hins] at he
  rcases List.mem_append.1 he with he | he
  · exact (h4 e (List.mem_of_mem_take he)).mono hM2
  · rcases List.mem_cons.1 he with rfl | he
    · exact hb.mono hM2
    · exact (h4 e (List.mem_of_mem_drop he)).mono hM2
end Go.Sx
end
