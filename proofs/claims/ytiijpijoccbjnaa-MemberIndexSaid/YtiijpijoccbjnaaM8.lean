/- What most of them have: the law, and Index. -/
import Derived.Test.YtiijpijoccbjnaaM7
namespace Go.Sx
open Go.Proofs Go.RowKit
attribute [local irreducible] C R Fin K Own Rd Pl Ok KOf RetOk OpsOf RP KP Res NoPanic KV
variable {M : Mem} {H : Hp}
def cnt (l : List Nat) (y : Nat) : Nat := l.countP fun x => decide (y ≤ x)
def IsIdx (l : List Nat) (x : Nat) : Prop := (x = 0 ∨ l.length < 2 * cnt l x) ∧ ∀ y, x < y → 2 * cnt l y ≤ l.length
theorem IsIdx.unique {l : List Nat} {x y : Nat} (hx : IsIdx l x) (hy : IsIdx l y) : x = y := by
  rcases Nat.lt_trichotomy x y with h | h | h
  · have h1 := hx.2 y h
    rcases hy.1 with h2 | h2 <;> omega
  · exact h
  · have h1 := hy.2 x h
    rcases hx.1 with h2 | h2 <;> omega
theorem IsIdx.nil : IsIdx [] 0 := ⟨.inl rfl, fun y _ => by simp [cnt]⟩
theorem cnt_perm {l k : List Nat} (h : l.Perm k) (y : Nat) : cnt l y = cnt k y := h.countP_eq _
theorem IsIdx.perm {l k : List Nat} (h : l.Perm k) {x : Nat} (hx : IsIdx l x) : IsIdx k x := by
  obtain ⟨h1, h2⟩ := hx
  rw [h.length_eq, cnt_perm h] at h1
  refine ⟨h1, fun y hy => ?_⟩
  have := h2 y hy
  rwa [h.length_eq, cnt_perm h] at this
theorem getD_mem_drop {l : List Nat} {x : Nat} (c : Nat) (h : x ∈ l.drop c) : ∃ a, c ≤ a ∧ a < l.length ∧ l.getD a 0 = x := by
  obtain ⟨i, hi, he⟩ := List.mem_iff_getElem.1 h
  rw [List.length_drop] at hi
  refine ⟨c + i, by omega, by omega, ?_⟩
  rw [List.getElem_drop] at he
  simp [List.getD_eq_getElem?_getD, List.getElem?_eq_getElem (show c + i < l.length by omega), he]
theorem getD_mem_take {l : List Nat} {x : Nat} (c : Nat) (h : x ∈ l.take c) : ∃ a, a < c ∧ a < l.length ∧ l.getD a 0 = x := by
  obtain ⟨i, hi, he⟩ := List.mem_iff_getElem.1 h
  rw [List.length_take] at hi
  refine ⟨i, by omega, by omega, ?_⟩
  rw [List.getElem_take] at he
  simp [List.getD_eq_getElem?_getD, List.getElem?_eq_getElem (show i < l.length by omega), he]
theorem Sorted.le {ys : List Nat} (hs : Sorted ys ys.length) {a b : Nat} (hab : a ≤ b) (hb : b < ys.length) : ys.getD a 0 ≤ ys.getD b 0 := by
  rcases Nat.lt_or_ge a b with h | h
  · exact hs a b h hb
  · rw [show a = b by omega]; exact Nat.le_refl _
theorem median {ys : List Nat} (hs : Sorted ys ys.length) (h0 : 0 < ys.length) : IsIdx ys (ys.getD ((ys.length - 1) / 2) 0) := by
  generalize hc : (ys.length - 1) / 2 = c
  have hcl : c < ys.length := by omega
  constructor
  · right
    have h1 : (ys.drop c).countP (fun x => decide (ys.getD c 0 ≤ x)) = (ys.drop c).length := by
      rw [List.countP_eq_length]
      intro x hx
      obtain ⟨a, h1, h2, rfl⟩ := getD_mem_drop c hx
      exact decide_eq_true (hs.le h1 h2)
    have h2 : cnt ys (ys.getD c 0) = (ys.take c).countP (fun x => decide (ys.getD c 0 ≤ x)) + (ys.drop c).countP (fun x => decide (ys.getD c 0 ≤ x)) := by
      unfold cnt
      rw [← List.countP_append, List.take_append_drop]
    rw [h2, h1, List.length_drop]
    omega
  · intro y hy
    have h1 : (ys.take (c + 1)).countP (fun x => decide (y ≤ x)) = 0 := by
      rw [List.countP_eq_zero]
      intro x hx
      obtain ⟨a, h1, h2, rfl⟩ := getD_mem_take (c + 1) hx
      have := hs.le (show a ≤ c by omega) hcl
      simp only [decide_eq_true_eq]
      omega
    have h2 : cnt ys y = (ys.take (c + 1)).countP (fun x => decide (y ≤ x)) + (ys.drop (c + 1)).countP (fun x => decide (y ≤ x)) := by
      unfold cnt
      rw [← List.countP_append, List.take_append_drop]
    have h3 := List.countP_le_length (p := fun x => decide (y ≤ x)) (l := ys.drop (c + 1))
    rw [List.length_drop] at h3
    omega
def vals (z : Int) (ms : List Nat) : List Nat := (nodesS z).map fun n => ms.getD n 0
structure IxS where
  vs : List Nat
  ov : Value
  hrow : Hp
def ISt (ms : List Nat) (s : IxS) (r : Nat) (b : Bool) (s1 : IxS) : Prop := b = true ∧ s1.vs = s.vs ++ [ms.getD r 0] ∧ Own 41 1 s1.ov s1.vs.length (s1.vs.map uv) s1.hrow
theorem told_i {ms : List Nat} {pre : List Nat} {s : IxS} (h : ToldG (ISt ms) ⟨[], .slice none 0 0, []⟩ pre s) : s.vs = pre.map (fun n => ms.getD n 0) ∧ Own 41 1 s.ov s.vs.length (s.vs.map uv) s.hrow := by
  induction h with
  | nil => exact ⟨rfl, Own.nil _ 1⟩
  | more _ hs ih => exact ⟨by rw [hs.2.1, ih.1, List.map_append]; rfl, hs.2.2⟩
theorem index_K {z : Int} {A : Option Addr} {cap : Nat} {ms : List Nat} (hpl : Pl M A (ms.map uv)) (hml : ms.length ≤ 140737488351232) : K Try.prog 26 [.int .i64 z, .slice A ms.length cap] M H fun v M' H' => (∃ x, v = uv x ∧ IsIdx (vals z ms) x) ∧ M' = M ∧ H' = H := by
  refine K.enterM Try.func26 rfl rfl rfl ?_
  intro Q hNP hQ
  (repeat' (first | (apply R.step; (exact a_ok); exact rfl) | (first | (with_reducible first | apply R.nil | apply C.ret | apply C.block | apply C.skip | apply C.exit | apply Fin.thenRet | apply Fin.thenExit | apply Fin.blockNormal | apply Fin.blockRet | apply Fin.blockExit) | (with_reducible apply Fin.thenK; assumption) | (with_reducible apply C.seqK; intro _ _) | (with_reducible apply C.regionK; intro _ _) | (with_reducible apply Fin.blockOther; exact rfl)) | (first | (apply R.store; exact rfl; exact rfl; exact rfl; (exact a_at); (exact a_blit); exact rfl; (focus (simp [Value.oneCell']; done))) | (apply R.buildSlice0; exact rfl; intro bz) | (apply R.box; exact rfl; (simp only [Value.cells]; rfl); exact rfl; intro bx) | (apply R.alloc; (simp only [Value.cells]; rfl); exact rfl; intro ba) | (apply R.buildSlice; (exact a_prt); exact rfl; exact rfl; (exact a_fills); exact rfl; intro bl)) | (first | (apply R.guardT; assumption; exact rfl; exact rfl; exact rfl) | (apply R.guardF; assumption; exact rfl; exact rfl; exact rfl; exact rfl; exact rfl) | (apply R.guardU; assumption; exact rfl; exact rfl; exact rfl; exact rfl) | (apply R.guardDec; assumption; exact rfl; exact rfl; (intro h; skip; rotate_left; intro h; skip; rotate_left)) | (apply R.guardBeq; assumption; exact rfl; exact rfl; (intro h; skip; rotate_left; intro h; skip; rotate_left)) | (apply R.guardBne; assumption; exact rfl; exact rfl; (intro h; skip; rotate_left; intro h; skip; rotate_left)) | (apply R.guardNDec; assumption; exact rfl; exact rfl; (intro h; skip; rotate_left; intro h; skip; rotate_left)) | (apply R.guardNot; assumption; exact rfl; exact rfl; (intro h; skip; rotate_left; intro h; skip; rotate_left)) | (apply R.guardC; assumption; exact rfl; exact rfl; (intro h; skip; rotate_left; intro h; skip; rotate_left))) | (first | (apply C.condT; exact rfl) | (apply C.condF; exact rfl) | (apply C.condDec; exact rfl; (intro h; skip; rotate_left; intro h; skip; rotate_left)) | (apply C.condBeq; exact rfl; (intro h; skip; rotate_left; intro h; skip; rotate_left)) | (apply C.condBne; exact rfl; (intro h; skip; rotate_left; intro h; skip; rotate_left)) | (apply C.condNDec; exact rfl; (intro h; skip; rotate_left; intro h; skip; rotate_left)) | (apply C.condNot; exact rfl; (intro h; skip; rotate_left; intro h; skip; rotate_left)) | (apply C.cond; exact rfl; (intro h; skip; rotate_left; intro h; skip; rotate_left)))))
  (apply R.call; (exact a_evs); exact rfl); exact mall_K; rintro _ M H' ⟨bz, rfl, rfl, rfl⟩
  (repeat' (first | (apply R.step; (exact a_ok); exact rfl) | (first | (with_reducible first | apply R.nil | apply C.ret | apply C.block | apply C.skip | apply C.exit | apply Fin.thenRet | apply Fin.thenExit | apply Fin.blockNormal | apply Fin.blockRet | apply Fin.blockExit) | (with_reducible apply Fin.thenK; assumption) | (with_reducible apply C.seqK; intro _ _) | (with_reducible apply C.regionK; intro _ _) | (with_reducible apply Fin.blockOther; exact rfl)) | (first | (apply R.store; exact rfl; exact rfl; exact rfl; (exact a_at); (exact a_blit); exact rfl; (focus (simp [Value.oneCell']; done))) | (apply R.buildSlice0; exact rfl; intro bz) | (apply R.box; exact rfl; (simp only [Value.cells]; rfl); exact rfl; intro bx) | (apply R.alloc; (simp only [Value.cells]; rfl); exact rfl; intro ba) | (apply R.buildSlice; (exact a_prt); exact rfl; exact rfl; (exact a_fills); exact rfl; intro bl)) | (first | (apply R.guardT; assumption; exact rfl; exact rfl; exact rfl) | (apply R.guardF; assumption; exact rfl; exact rfl; exact rfl; exact rfl; exact rfl) | (apply R.guardU; assumption; exact rfl; exact rfl; exact rfl; exact rfl) | (apply R.guardDec; assumption; exact rfl; exact rfl; (intro h; skip; rotate_left; intro h; skip; rotate_left)) | (apply R.guardBeq; assumption; exact rfl; exact rfl; (intro h; skip; rotate_left; intro h; skip; rotate_left)) | (apply R.guardBne; assumption; exact rfl; exact rfl; (intro h; skip; rotate_left; intro h; skip; rotate_left)) | (apply R.guardNDec; assumption; exact rfl; exact rfl; (intro h; skip; rotate_left; intro h; skip; rotate_left)) | (apply R.guardNot; assumption; exact rfl; exact rfl; (intro h; skip; rotate_left; intro h; skip; rotate_left)) | (apply R.guardC; assumption; exact rfl; exact rfl; (intro h; skip; rotate_left; intro h; skip; rotate_left))) | (first | (apply C.condT; exact rfl) | (apply C.condF; exact rfl) | (apply C.condDec; exact rfl; (intro h; skip; rotate_left; intro h; skip; rotate_left)) | (apply C.condBeq; exact rfl; (intro h; skip; rotate_left; intro h; skip; rotate_left)) | (apply C.condBne; exact rfl; (intro h; skip; rotate_left; intro h; skip; rotate_left)) | (apply C.condNDec; exact rfl; (intro h; skip; rotate_left; intro h; skip; rotate_left)) | (apply C.condNot; exact rfl; (intro h; skip; rotate_left; intro h; skip; rotate_left)) | (apply C.cond; exact rfl; (intro h; skip; rotate_left; intro h; skip; rotate_left)))))
  apply C.rangeO (gf := 33) (pl := [10]) (cs := [.pointer (some ⟨bz, 0, none⟩)]); exact rfl
  intro fn tmps bD l o ho hfr
  have hJ : ∃ J : IxS → Hp, J = fun s : IxS => (l, o .ready none) :: (bD, .deferred (some [])) :: (ba, .cells #[s.ov] 40 (0, 0)) :: (bx, .cells #[.slice A ms.length cap] 40 (0, 0)) :: s.hrow := ⟨_, rfl⟩
  obtain ⟨J, hJ⟩ := hJ
  refine (K.arr (H2 := J ⟨[], .slice none 0 0, []⟩ ++ ((bz, .cells #[.int .i64 z] 3 (0, 0)) :: H)) ?_ (mall1_K (J := J) (St := ISt ms) ⟨[], .slice none 0 0, []⟩ ?_)).mono ?_
  · rw [hJ]
    show Arr _ ((l, o .ready none) :: (bD, .deferred (some [])) :: (ba, .cells #[.slice none 0 0] 40 (0, 0)) :: (bx, .cells #[.slice A ms.length cap] 40 (0, 0)) :: (bz, .cells #[.int .i64 z] 3 (0, 0)) :: H)
    (exact a_arr)
  · intro pre r rest s H2 hsp htold hr1 hr7
    obtain ⟨hvs, how⟩ := told_i htold
    have hvl : s.vs.length ≤ 8 := by
      have h1 := nodesS_len z
      rw [hsp, List.length_append] at h1
      rw [hvs, List.length_map]
      omega
    obtain ⟨AO, capO, hov, _, _⟩ := how.form
    refine KV.perm (H' := (l, o .ready none) :: (bD, .deferred (some [])) :: (ba, .cells #[s.ov] 40 (0, 0)) :: (bx, .cells #[.slice A ms.length cap] 40 (0, 0)) :: (s.hrow ++ H2)) ?_ ?_
    · rw [hJ]
      exact Arr.all _
    rw [hov] at how ⊢
    subst ho
    refine KV.roundL (pl := [10]) (vs := [.int .i64 (r : Int)]) (At.head _ _ _) rfl (by decide) hfr ?_
    intro Q2 hNP2 hAsg
    (repeat' (first | (apply R.step; (exact a_ok); exact rfl) | (first | (with_reducible first | apply R.nil | apply C.ret | apply C.block | apply C.skip | apply C.exit | apply Fin.thenRet | apply Fin.thenExit | apply Fin.blockNormal | apply Fin.blockRet | apply Fin.blockExit) | (with_reducible apply Fin.thenK; assumption) | (with_reducible apply C.seqK; intro _ _) | (with_reducible apply C.regionK; intro _ _) | (with_reducible apply Fin.blockOther; exact rfl)) | (first | (apply R.store; exact rfl; exact rfl; exact rfl; (exact a_at); (exact a_blit); exact rfl; (focus (simp [Value.oneCell']; done))) | (apply R.buildSlice0; exact rfl; intro bz) | (apply R.box; exact rfl; (simp only [Value.cells]; rfl); exact rfl; intro bx) | (apply R.alloc; (simp only [Value.cells]; rfl); exact rfl; intro ba) | (apply R.buildSlice; (exact a_prt); exact rfl; exact rfl; (exact a_fills); exact rfl; intro bl)) | (first | (apply R.guardT; assumption; exact rfl; exact rfl; exact rfl) | (apply R.guardF; assumption; exact rfl; exact rfl; exact rfl; exact rfl; exact rfl) | (apply R.guardU; assumption; exact rfl; exact rfl; exact rfl; exact rfl) | (apply R.guardDec; assumption; exact rfl; exact rfl; (intro h; skip; rotate_left; intro h; skip; rotate_left)) | (apply R.guardBeq; assumption; exact rfl; exact rfl; (intro h; skip; rotate_left; intro h; skip; rotate_left)) | (apply R.guardBne; assumption; exact rfl; exact rfl; (intro h; skip; rotate_left; intro h; skip; rotate_left)) | (apply R.guardNDec; assumption; exact rfl; exact rfl; (intro h; skip; rotate_left; intro h; skip; rotate_left)) | (apply R.guardNot; assumption; exact rfl; exact rfl; (intro h; skip; rotate_left; intro h; skip; rotate_left)) | (apply R.guardC; assumption; exact rfl; exact rfl; (intro h; skip; rotate_left; intro h; skip; rotate_left))) | (first | (apply C.condT; exact rfl) | (apply C.condF; exact rfl) | (apply C.condDec; exact rfl; (intro h; skip; rotate_left; intro h; skip; rotate_left)) | (apply C.condBeq; exact rfl; (intro h; skip; rotate_left; intro h; skip; rotate_left)) | (apply C.condBne; exact rfl; (intro h; skip; rotate_left; intro h; skip; rotate_left)) | (apply C.condNDec; exact rfl; (intro h; skip; rotate_left; intro h; skip; rotate_left)) | (apply C.condNot; exact rfl; (intro h; skip; rotate_left; intro h; skip; rotate_left)) | (apply C.cond; exact rfl; (intro h; skip; rotate_left; intro h; skip; rotate_left)))))
    refine hAsg _ _ _ _ _ (At.head _ _ _) ?_
    intro Q3 hR
    have hNP3 := hR.np
    (repeat' (first | (apply R.step; (exact a_ok); exact rfl) | (first | (with_reducible first | apply R.nil | apply C.ret | apply C.block | apply C.skip | apply C.exit | apply Fin.thenRet | apply Fin.thenExit | apply Fin.blockNormal | apply Fin.blockRet | apply Fin.blockExit) | (with_reducible apply Fin.thenK; assumption) | (with_reducible apply C.seqK; intro _ _) | (with_reducible apply C.regionK; intro _ _) | (with_reducible apply Fin.blockOther; exact rfl)) | (first | (apply R.store; exact rfl; exact rfl; exact rfl; (exact a_at); (exact a_blit); exact rfl; (focus (simp [Value.oneCell']; done))) | (apply R.buildSlice0; exact rfl; intro bz) | (apply R.box; exact rfl; (simp only [Value.cells]; rfl); exact rfl; intro bx) | (apply R.alloc; (simp only [Value.cells]; rfl); exact rfl; intro ba) | (apply R.buildSlice; (exact a_prt); exact rfl; exact rfl; (exact a_fills); exact rfl; intro bl)) | (first | (apply R.guardT; assumption; exact rfl; exact rfl; exact rfl) | (apply R.guardF; assumption; exact rfl; exact rfl; exact rfl; exact rfl; exact rfl) | (apply R.guardU; assumption; exact rfl; exact rfl; exact rfl; exact rfl) | (apply R.guardDec; assumption; exact rfl; exact rfl; (intro h; skip; rotate_left; intro h; skip; rotate_left)) | (apply R.guardBeq; assumption; exact rfl; exact rfl; (intro h; skip; rotate_left; intro h; skip; rotate_left)) | (apply R.guardBne; assumption; exact rfl; exact rfl; (intro h; skip; rotate_left; intro h; skip; rotate_left)) | (apply R.guardNDec; assumption; exact rfl; exact rfl; (intro h; skip; rotate_left; intro h; skip; rotate_left)) | (apply R.guardNot; assumption; exact rfl; exact rfl; (intro h; skip; rotate_left; intro h; skip; rotate_left)) | (apply R.guardC; assumption; exact rfl; exact rfl; (intro h; skip; rotate_left; intro h; skip; rotate_left))) | (first | (apply C.condT; exact rfl) | (apply C.condF; exact rfl) | (apply C.condDec; exact rfl; (intro h; skip; rotate_left; intro h; skip; rotate_left)) | (apply C.condBeq; exact rfl; (intro h; skip; rotate_left; intro h; skip; rotate_left)) | (apply C.condBne; exact rfl; (intro h; skip; rotate_left; intro h; skip; rotate_left)) | (apply C.condNDec; exact rfl; (intro h; skip; rotate_left; intro h; skip; rotate_left)) | (apply C.condNot; exact rfl; (intro h; skip; rotate_left; intro h; skip; rotate_left)) | (apply C.cond; exact rfl; (intro h; skip; rotate_left; intro h; skip; rotate_left)))))
    · have hrl : (r : Int) < (ms.length : Int) := by assumption
      have hra : r < ms.length := by omega
      have hmg : (ms.map uv)[r]? = some (uv (ms.getD r 0)) := by
        rw [List.getElem?_map, List.getElem?_eq_getElem hra]
        simp [List.getD_eq_getElem?_getD, List.getElem?_eq_getElem hra]
      obtain ⟨bm, om, cm, em, fm, hA, hMm, hcm⟩ := hpl.get hmg
      subst hA
      have e1 : om + (r : Int).toNat * 1 = om + r := by omega
      (repeat' (first | (apply R.step; (apply Ok.move; exact rfl); exact rfl) | (apply R.step; (first | (apply Ok.indexAddr; exact rfl; exact rfl; omega; omega) | (apply Ok.loadP; exact rfl; exact rfl; exact hMm; rw [e1]; exact hcm)); exact rfl) | (apply R.step; (exact a_ok); exact rfl) | (first | (with_reducible first | apply R.nil | apply C.ret | apply C.block | apply C.skip | apply C.exit | apply Fin.thenRet | apply Fin.thenExit | apply Fin.blockNormal | apply Fin.blockRet | apply Fin.blockExit) | (with_reducible apply Fin.thenK; assumption) | (with_reducible apply C.seqK; intro _ _) | (with_reducible apply C.regionK; intro _ _) | (with_reducible apply Fin.blockOther; exact rfl)) | (first | (apply R.store; exact rfl; exact rfl; exact rfl; (exact a_at); (exact a_blit); exact rfl; (focus (simp [Value.oneCell']; done))) | (apply R.buildSlice0; exact rfl; intro bz) | (apply R.box; exact rfl; (simp only [Value.cells]; rfl); exact rfl; intro bx) | (apply R.alloc; (simp only [Value.cells]; rfl); exact rfl; intro ba) | (apply R.buildSlice; (exact a_prt); exact rfl; exact rfl; (exact a_fills); exact rfl; intro bl)) | (first | (apply R.guardT; assumption; exact rfl; exact rfl; exact rfl) | (apply R.guardF; assumption; exact rfl; exact rfl; exact rfl; exact rfl; exact rfl) | (apply R.guardU; assumption; exact rfl; exact rfl; exact rfl; exact rfl) | (apply R.guardDec; assumption; exact rfl; exact rfl; (intro h; skip; rotate_left; intro h; skip; rotate_left)) | (apply R.guardBeq; assumption; exact rfl; exact rfl; (intro h; skip; rotate_left; intro h; skip; rotate_left)) | (apply R.guardBne; assumption; exact rfl; exact rfl; (intro h; skip; rotate_left; intro h; skip; rotate_left)) | (apply R.guardNDec; assumption; exact rfl; exact rfl; (intro h; skip; rotate_left; intro h; skip; rotate_left)) | (apply R.guardNot; assumption; exact rfl; exact rfl; (intro h; skip; rotate_left; intro h; skip; rotate_left)) | (apply R.guardC; assumption; exact rfl; exact rfl; (intro h; skip; rotate_left; intro h; skip; rotate_left))) | (first | (apply C.condT; exact rfl) | (apply C.condF; exact rfl) | (apply C.condDec; exact rfl; (intro h; skip; rotate_left; intro h; skip; rotate_left)) | (apply C.condBeq; exact rfl; (intro h; skip; rotate_left; intro h; skip; rotate_left)) | (apply C.condBne; exact rfl; (intro h; skip; rotate_left; intro h; skip; rotate_left)) | (apply C.condNDec; exact rfl; (intro h; skip; rotate_left; intro h; skip; rotate_left)) | (apply C.condNot; exact rfl; (intro h; skip; rotate_left; intro h; skip; rotate_left)) | (apply C.cond; exact rfl; (intro h; skip; rotate_left; intro h; skip; rotate_left)))))
      (apply R.append (news := [uv (ms.getD r 0)]); exact rfl; exact rfl; exact how; (exact a_tk); exact Rd.at_ (l := [uv (ms.getD r 0)]) (by (exact a_at)) (fun j u h => by rw [Nat.zero_add]; exact h); exact rfl; (intro u hu; simp only [List.mem_singleton] at hu; subst hu; rfl); omega; exact rfl; decide; decide; exact rfl; rintro ov1 hrow1 how1)
      obtain ⟨AP, capP, rfl, _, _⟩ := how1.form
      (repeat' (first | (apply R.step; (exact a_ok); exact rfl) | (first | (with_reducible first | apply R.nil | apply C.ret | apply C.block | apply C.skip | apply C.exit | apply Fin.thenRet | apply Fin.thenExit | apply Fin.blockNormal | apply Fin.blockRet | apply Fin.blockExit) | (with_reducible apply Fin.thenK; assumption) | (with_reducible apply C.seqK; intro _ _) | (with_reducible apply C.regionK; intro _ _) | (with_reducible apply Fin.blockOther; exact rfl)) | (first | (apply R.store; exact rfl; exact rfl; exact rfl; (exact a_at); (exact a_blit); exact rfl; (focus (simp [Value.oneCell']; done))) | (apply R.buildSlice0; exact rfl; intro bz) | (apply R.box; exact rfl; (simp only [Value.cells]; rfl); exact rfl; intro bx) | (apply R.alloc; (simp only [Value.cells]; rfl); exact rfl; intro ba) | (apply R.buildSlice; (exact a_prt); exact rfl; exact rfl; (exact a_fills); exact rfl; intro bl)) | (first | (apply R.guardT; assumption; exact rfl; exact rfl; exact rfl) | (apply R.guardF; assumption; exact rfl; exact rfl; exact rfl; exact rfl; exact rfl) | (apply R.guardU; assumption; exact rfl; exact rfl; exact rfl; exact rfl) | (apply R.guardDec; assumption; exact rfl; exact rfl; (intro h; skip; rotate_left; intro h; skip; rotate_left)) | (apply R.guardBeq; assumption; exact rfl; exact rfl; (intro h; skip; rotate_left; intro h; skip; rotate_left)) | (apply R.guardBne; assumption; exact rfl; exact rfl; (intro h; skip; rotate_left; intro h; skip; rotate_left)) | (apply R.guardNDec; assumption; exact rfl; exact rfl; (intro h; skip; rotate_left; intro h; skip; rotate_left)) | (apply R.guardNot; assumption; exact rfl; exact rfl; (intro h; skip; rotate_left; intro h; skip; rotate_left)) | (apply R.guardC; assumption; exact rfl; exact rfl; (intro h; skip; rotate_left; intro h; skip; rotate_left))) | (first | (apply C.condT; exact rfl) | (apply C.condF; exact rfl) | (apply C.condDec; exact rfl; (intro h; skip; rotate_left; intro h; skip; rotate_left)) | (apply C.condBeq; exact rfl; (intro h; skip; rotate_left; intro h; skip; rotate_left)) | (apply C.condBne; exact rfl; (intro h; skip; rotate_left; intro h; skip; rotate_left)) | (apply C.condNDec; exact rfl; (intro h; skip; rotate_left; intro h; skip; rotate_left)) | (apply C.condNot; exact rfl; (intro h; skip; rotate_left; intro h; skip; rotate_left)) | (apply C.cond; exact rfl; (intro h; skip; rotate_left; intro h; skip; rotate_left)))))
      apply Fin.arr (H2 := (l, _) :: (bD, .deferred (some [])) :: (ba, .cells #[.slice AP (s.vs.length + 1) capP] 40 (0, 0)) :: (bx, .cells #[.slice (some ⟨bm, om, none⟩) ms.length cap] 40 (0, 0)) :: (hrow1 ++ H2)) (by (exact a_arr))
      refine hR.normal _ _ _ _ _ _ (At.head _ _ _) ?_
      refine ⟨true, ⟨s.vs ++ [ms.getD r 0], .slice AP (s.vs.length + 1) capP, hrow1⟩, rfl, rfl, ?_, rfl, rfl, ?_⟩
      · rw [hJ]
        rfl
      · have h7 := how1
        simpa using h7
    · have hrl : ¬ (r : Int) < (ms.length : Int) := by assumption
      have hg0 : ms.getD r 0 = 0 := by rw [List.getD_eq_getElem?_getD, List.getElem?_eq_none (by omega)]; rfl
      (apply R.append (news := [uv 0]); exact rfl; exact rfl; exact how; (exact a_tk); exact Rd.at_ (l := [uv 0]) (by (exact a_at)) (fun j u h => by rw [Nat.zero_add]; exact h); exact rfl; (intro u hu; simp only [List.mem_singleton] at hu; subst hu; rfl); omega; exact rfl; decide; decide; exact rfl; rintro ov1 hrow1 how1)
      rw [← hg0] at how1
      obtain ⟨AP, capP, rfl, _, _⟩ := how1.form
      (repeat' (first | (apply R.step; (exact a_ok); exact rfl) | (first | (with_reducible first | apply R.nil | apply C.ret | apply C.block | apply C.skip | apply C.exit | apply Fin.thenRet | apply Fin.thenExit | apply Fin.blockNormal | apply Fin.blockRet | apply Fin.blockExit) | (with_reducible apply Fin.thenK; assumption) | (with_reducible apply C.seqK; intro _ _) | (with_reducible apply C.regionK; intro _ _) | (with_reducible apply Fin.blockOther; exact rfl)) | (first | (apply R.store; exact rfl; exact rfl; exact rfl; (exact a_at); (exact a_blit); exact rfl; (focus (simp [Value.oneCell']; done))) | (apply R.buildSlice0; exact rfl; intro bz) | (apply R.box; exact rfl; (simp only [Value.cells]; rfl); exact rfl; intro bx) | (apply R.alloc; (simp only [Value.cells]; rfl); exact rfl; intro ba) | (apply R.buildSlice; (exact a_prt); exact rfl; exact rfl; (exact a_fills); exact rfl; intro bl)) | (first | (apply R.guardT; assumption; exact rfl; exact rfl; exact rfl) | (apply R.guardF; assumption; exact rfl; exact rfl; exact rfl; exact rfl; exact rfl) | (apply R.guardU; assumption; exact rfl; exact rfl; exact rfl; exact rfl) | (apply R.guardDec; assumption; exact rfl; exact rfl; (intro h; skip; rotate_left; intro h; skip; rotate_left)) | (apply R.guardBeq; assumption; exact rfl; exact rfl; (intro h; skip; rotate_left; intro h; skip; rotate_left)) | (apply R.guardBne; assumption; exact rfl; exact rfl; (intro h; skip; rotate_left; intro h; skip; rotate_left)) | (apply R.guardNDec; assumption; exact rfl; exact rfl; (intro h; skip; rotate_left; intro h; skip; rotate_left)) | (apply R.guardNot; assumption; exact rfl; exact rfl; (intro h; skip; rotate_left; intro h; skip; rotate_left)) | (apply R.guardC; assumption; exact rfl; exact rfl; (intro h; skip; rotate_left; intro h; skip; rotate_left))) | (first | (apply C.condT; exact rfl) | (apply C.condF; exact rfl) | (apply C.condDec; exact rfl; (intro h; skip; rotate_left; intro h; skip; rotate_left)) | (apply C.condBeq; exact rfl; (intro h; skip; rotate_left; intro h; skip; rotate_left)) | (apply C.condBne; exact rfl; (intro h; skip; rotate_left; intro h; skip; rotate_left)) | (apply C.condNDec; exact rfl; (intro h; skip; rotate_left; intro h; skip; rotate_left)) | (apply C.condNot; exact rfl; (intro h; skip; rotate_left; intro h; skip; rotate_left)) | (apply C.cond; exact rfl; (intro h; skip; rotate_left; intro h; skip; rotate_left)))))
      apply Fin.arr (H2 := (l, _) :: (bD, .deferred (some [])) :: (ba, .cells #[.slice AP (s.vs.length + 1) capP] 40 (0, 0)) :: (bx, .cells #[.slice A ms.length cap] 40 (0, 0)) :: (hrow1 ++ H2)) (by (exact a_arr))
      refine hR.normal _ _ _ _ _ _ (At.head _ _ _) ?_
      refine ⟨true, ⟨s.vs ++ [ms.getD r 0], .slice AP (s.vs.length + 1) capP, hrow1⟩, rfl, rfl, ?_, rfl, rfl, ?_⟩
      · rw [hJ]
        rfl
      · have h7 := how1
        simpa using h7
  · rintro v M' H2 ⟨s', rfl, rfl, hend⟩
    have htold : ToldG (ISt ms) ⟨[], .slice none 0 0, []⟩ (nodesS z) s' := by
      rcases hend with h | ⟨_, _, _, _, _, _, h⟩
      · exact h
      · exact absurd h.1 (by simp)
    obtain ⟨hvs, how⟩ := told_i htold
    obtain ⟨vs, ov, hrow⟩ := s'
    dsimp only at hvs how
    have hvl : vs.length ≤ 8 := by rw [hvs, List.length_map]; exact nodesS_len z
    obtain ⟨AO, capO, rfl, _, _⟩ := how.form
    rw [hJ]
    refine ⟨.ready, none, _, by simp, At.head _ _ _, ?_⟩
    dsimp only
    apply Fin.arr (H2 := (bD, .deferred (some [])) :: (ba, .cells #[.slice AO vs.length capO] 40 (0, 0)) :: (hrow ++ H))
    · show Arr ((l, o .exhausted none) :: (bD, .deferred (some [])) :: (ba, .cells #[.slice AO vs.length capO] 40 (0, 0)) :: (bx, .cells #[.slice A ms.length cap] 40 (0, 0)) :: (hrow ++ ((bz, .cells #[.int .i64 z] 3 (0, 0)) :: H))) _
      (exact a_arr)
    (repeat' (first | (apply R.step; (exact a_ok); exact rfl) | (first | (with_reducible first | apply R.nil | apply C.ret | apply C.block | apply C.skip | apply C.exit | apply Fin.thenRet | apply Fin.thenExit | apply Fin.blockNormal | apply Fin.blockRet | apply Fin.blockExit) | (with_reducible apply Fin.thenK; assumption) | (with_reducible apply C.seqK; intro _ _) | (with_reducible apply C.regionK; intro _ _) | (with_reducible apply Fin.blockOther; exact rfl)) | (first | (apply R.store; exact rfl; exact rfl; exact rfl; (exact a_at); (exact a_blit); exact rfl; (focus (simp [Value.oneCell']; done))) | (apply R.buildSlice0; exact rfl; intro bz) | (apply R.box; exact rfl; (simp only [Value.cells]; rfl); exact rfl; intro bx) | (apply R.alloc; (simp only [Value.cells]; rfl); exact rfl; intro ba) | (apply R.buildSlice; (exact a_prt); exact rfl; exact rfl; (exact a_fills); exact rfl; intro bl)) | (first | (apply R.guardT; assumption; exact rfl; exact rfl; exact rfl) | (apply R.guardF; assumption; exact rfl; exact rfl; exact rfl; exact rfl; exact rfl) | (apply R.guardU; assumption; exact rfl; exact rfl; exact rfl; exact rfl) | (apply R.guardDec; assumption; exact rfl; exact rfl; (intro h; skip; rotate_left; intro h; skip; rotate_left)) | (apply R.guardBeq; assumption; exact rfl; exact rfl; (intro h; skip; rotate_left; intro h; skip; rotate_left)) | (apply R.guardBne; assumption; exact rfl; exact rfl; (intro h; skip; rotate_left; intro h; skip; rotate_left)) | (apply R.guardNDec; assumption; exact rfl; exact rfl; (intro h; skip; rotate_left; intro h; skip; rotate_left)) | (apply R.guardNot; assumption; exact rfl; exact rfl; (intro h; skip; rotate_left; intro h; skip; rotate_left)) | (apply R.guardC; assumption; exact rfl; exact rfl; (intro h; skip; rotate_left; intro h; skip; rotate_left))) | (first | (apply C.condT; exact rfl) | (apply C.condF; exact rfl) | (apply C.condDec; exact rfl; (intro h; skip; rotate_left; intro h; skip; rotate_left)) | (apply C.condBeq; exact rfl; (intro h; skip; rotate_left; intro h; skip; rotate_left)) | (apply C.condBne; exact rfl; (intro h; skip; rotate_left; intro h; skip; rotate_left)) | (apply C.condNDec; exact rfl; (intro h; skip; rotate_left; intro h; skip; rotate_left)) | (apply C.condNot; exact rfl; (intro h; skip; rotate_left; intro h; skip; rotate_left)) | (apply C.cond; exact rfl; (intro h; skip; rotate_left; intro h; skip; rotate_left)))))
    · have h0 : (vs.length : Int) = 0 := by assumption
      have hv0 : vs = [] := List.eq_nil_of_length_eq_zero (by omega)
      (apply Fin.returnM (H2 := H); assumption; exact .inl rfl; exact rfl; exact Marks.cons (At.head _ _ _) (Marks.nil _); (exact a_res); (simp only [retv]; rfl); (exact a_arr))
      refine ⟨⟨0, rfl, ?_⟩, rfl, rfl⟩
      show IsIdx (vals z ms) 0
      unfold vals
      rw [← hvs, hv0]
      exact IsIdx.nil
    have h0 : (vs.length : Int) ≠ 0 := by assumption
    (apply R.call; (exact a_evs); exact rfl; (apply K.arr (h := sort_K (xs := vs) how rfl (by omega) (by omega))); (exact a_arr); rintro _ M _ ⟨ys, hp2, how2, hperm, hso, rfl, rfl⟩)
    have hyl : ys.length = vs.length := hperm.length_eq
    obtain ⟨b2, cap2, tl, hv2, rfl, _, _⟩ := how2.split (by omega)
    cases hv2
    apply R.arr (H2 := (bD, .deferred (some [])) :: (ba, .cells #[.slice (some ⟨b2, 0, none⟩) vs.length capO] 40 (0, 0)) :: (b2, .cells (ys.map uv ++ tl).toArray 41 (0, 0)) :: H) (by (exact a_arr))
    have e1 : Unit → 0 + (((vs.length : Int) - 1) / 2).toNat * 1 = (ys.length - 1) / 2 := fun _ => by rw [hyl]; omega
    have hcl : (ys.length - 1) / 2 < ys.length := by omega
    (repeat' (first | (apply R.step; (apply Ok.move; exact rfl); exact rfl) | (apply R.step; (first | (apply Ok.indexAddr; exact rfl; exact rfl; omega; omega) | (apply Ok.load; exact rfl; exact rfl; (exact a_at); rw [e1 ()]; exact row_get hcl)); exact rfl) | (apply R.step; (exact a_ok); exact rfl) | (first | (with_reducible first | apply R.nil | apply C.ret | apply C.block | apply C.skip | apply C.exit | apply Fin.thenRet | apply Fin.thenExit | apply Fin.blockNormal | apply Fin.blockRet | apply Fin.blockExit) | (with_reducible apply Fin.thenK; assumption) | (with_reducible apply C.seqK; intro _ _) | (with_reducible apply C.regionK; intro _ _) | (with_reducible apply Fin.blockOther; exact rfl)) | (first | (apply R.store; exact rfl; exact rfl; exact rfl; (exact a_at); (exact a_blit); exact rfl; (focus (simp [Value.oneCell']; done))) | (apply R.buildSlice0; exact rfl; intro bz) | (apply R.box; exact rfl; (simp only [Value.cells]; rfl); exact rfl; intro bx) | (apply R.alloc; (simp only [Value.cells]; rfl); exact rfl; intro ba) | (apply R.buildSlice; (exact a_prt); exact rfl; exact rfl; (exact a_fills); exact rfl; intro bl)) | (first | (apply R.guardT; assumption; exact rfl; exact rfl; exact rfl) | (apply R.guardF; assumption; exact rfl; exact rfl; exact rfl; exact rfl; exact rfl) | (apply R.guardU; assumption; exact rfl; exact rfl; exact rfl; exact rfl) | (apply R.guardDec; assumption; exact rfl; exact rfl; (intro h; skip; rotate_left; intro h; skip; rotate_left)) | (apply R.guardBeq; assumption; exact rfl; exact rfl; (intro h; skip; rotate_left; intro h; skip; rotate_left)) | (apply R.guardBne; assumption; exact rfl; exact rfl; (intro h; skip; rotate_left; intro h; skip; rotate_left)) | (apply R.guardNDec; assumption; exact rfl; exact rfl; (intro h; skip; rotate_left; intro h; skip; rotate_left)) | (apply R.guardNot; assumption; exact rfl; exact rfl; (intro h; skip; rotate_left; intro h; skip; rotate_left)) | (apply R.guardC; assumption; exact rfl; exact rfl; (intro h; skip; rotate_left; intro h; skip; rotate_left))) | (first | (apply C.condT; exact rfl) | (apply C.condF; exact rfl) | (apply C.condDec; exact rfl; (intro h; skip; rotate_left; intro h; skip; rotate_left)) | (apply C.condBeq; exact rfl; (intro h; skip; rotate_left; intro h; skip; rotate_left)) | (apply C.condBne; exact rfl; (intro h; skip; rotate_left; intro h; skip; rotate_left)) | (apply C.condNDec; exact rfl; (intro h; skip; rotate_left; intro h; skip; rotate_left)) | (apply C.condNot; exact rfl; (intro h; skip; rotate_left; intro h; skip; rotate_left)) | (apply C.cond; exact rfl; (intro h; skip; rotate_left; intro h; skip; rotate_left)))))
    (apply Fin.returnM (H2 := H); assumption; exact .inl rfl; exact rfl; exact Marks.cons (At.head _ _ _) (Marks.nil _); (exact a_res); (simp only [retv]; rfl); (exact a_arr))
    refine ⟨⟨_, rfl, ?_⟩, rfl, rfl⟩
    unfold vals
    rw [← hvs]
    rw [← hyl] at hso
    exact (median hso (by omega)).perm hperm
end Go.Sx
