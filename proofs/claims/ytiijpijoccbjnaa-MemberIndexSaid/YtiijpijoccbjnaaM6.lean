/- Sorting a few numbers: cmp.Less, the insertion sort, slices.Sort. -/
import Derived.Test.YtiijpijoccbjnaaM5
namespace Go.Sx
open Go.Proofs Go.RowKit
attribute [local irreducible] C R Fin K Own Rd Pl Ok KOf RetOk OpsOf RP KP Res NoPanic KV
variable {M : Mem} {H : Hp}
theorem isNaN_K {p : Int} : K Try.prog 54 [.int .u64 p] M H fun v M' H' => v = .bool false ∧ M' = M ∧ H' = H := by
  refine K.enterK Try.func54 rfl rfl rfl ?_
  intro Q hNP hQ
  (repeat' (first | (apply R.step; (apply Ok.move; exact rfl); exact rfl) | (apply R.step; (apply Ok.neIS; exact rfl; exact rfl); exact rfl) | (apply R.step; (exact a_ok); exact rfl) | (first | (with_reducible first | apply R.nil | apply C.ret | apply C.block | apply C.skip | apply C.exit | apply Fin.thenRet | apply Fin.thenExit | apply Fin.blockNormal | apply Fin.blockRet | apply Fin.blockExit) | (with_reducible apply Fin.thenK; assumption) | (with_reducible apply C.seqK; intro _ _) | (with_reducible apply C.regionK; intro _ _) | (with_reducible apply Fin.blockOther; exact rfl)) | (first | (apply R.store; exact rfl; exact rfl; exact rfl; (exact a_at); (exact a_blit); exact rfl; (focus (simp [Value.oneCell']; done))) | (apply R.buildSlice0; exact rfl; intro bz) | (apply R.box; exact rfl; (simp only [Value.cells]; rfl); exact rfl; intro bx) | (apply R.alloc; (simp only [Value.cells]; rfl); exact rfl; intro ba) | (apply R.buildSlice; (exact a_prt); exact rfl; exact rfl; (exact a_fills); exact rfl; intro bl)) | (first | (apply R.guardT; assumption; exact rfl; exact rfl; exact rfl) | (apply R.guardF; assumption; exact rfl; exact rfl; exact rfl; exact rfl; exact rfl) | (apply R.guardU; assumption; exact rfl; exact rfl; exact rfl; exact rfl) | (apply R.guardDec; assumption; exact rfl; exact rfl; (intro h; skip; rotate_left; intro h; skip; rotate_left)) | (apply R.guardBeq; assumption; exact rfl; exact rfl; (intro h; skip; rotate_left; intro h; skip; rotate_left)) | (apply R.guardBne; assumption; exact rfl; exact rfl; (intro h; skip; rotate_left; intro h; skip; rotate_left)) | (apply R.guardNDec; assumption; exact rfl; exact rfl; (intro h; skip; rotate_left; intro h; skip; rotate_left)) | (apply R.guardNot; assumption; exact rfl; exact rfl; (intro h; skip; rotate_left; intro h; skip; rotate_left)) | (apply R.guardC; assumption; exact rfl; exact rfl; (intro h; skip; rotate_left; intro h; skip; rotate_left))) | (first | (apply C.condT; exact rfl) | (apply C.condF; exact rfl) | (apply C.condDec; exact rfl; (intro h; skip; rotate_left; intro h; skip; rotate_left)) | (apply C.condBeq; exact rfl; (intro h; skip; rotate_left; intro h; skip; rotate_left)) | (apply C.condBne; exact rfl; (intro h; skip; rotate_left; intro h; skip; rotate_left)) | (apply C.condNDec; exact rfl; (intro h; skip; rotate_left; intro h; skip; rotate_left)) | (apply C.condNot; exact rfl; (intro h; skip; rotate_left; intro h; skip; rotate_left)) | (apply C.cond; exact rfl; (intro h; skip; rotate_left; intro h; skip; rotate_left)))))
  (refine Fin.rt ?_)
  exact ⟨rfl, rfl, rfl⟩
theorem less_K {p q : Int} : K Try.prog 44 [.int .u64 p, .int .u64 q] M H fun v M' H' => v = .bool (decide (p < q)) ∧ M' = M ∧ H' = H := by
  refine K.enterK Try.func44 rfl rfl rfl ?_
  intro Q hNP hQ
  (repeat' (first | (apply R.step; (exact a_ok); exact rfl) | (first | (with_reducible first | apply R.nil | apply C.ret | apply C.block | apply C.skip | apply C.exit | apply Fin.thenRet | apply Fin.thenExit | apply Fin.blockNormal | apply Fin.blockRet | apply Fin.blockExit) | (with_reducible apply Fin.thenK; assumption) | (with_reducible apply C.seqK; intro _ _) | (with_reducible apply C.regionK; intro _ _) | (with_reducible apply Fin.blockOther; exact rfl)) | (first | (apply R.store; exact rfl; exact rfl; exact rfl; (exact a_at); (exact a_blit); exact rfl; (focus (simp [Value.oneCell']; done))) | (apply R.buildSlice0; exact rfl; intro bz) | (apply R.box; exact rfl; (simp only [Value.cells]; rfl); exact rfl; intro bx) | (apply R.alloc; (simp only [Value.cells]; rfl); exact rfl; intro ba) | (apply R.buildSlice; (exact a_prt); exact rfl; exact rfl; (exact a_fills); exact rfl; intro bl)) | (first | (apply R.guardT; assumption; exact rfl; exact rfl; exact rfl) | (apply R.guardF; assumption; exact rfl; exact rfl; exact rfl; exact rfl; exact rfl) | (apply R.guardU; assumption; exact rfl; exact rfl; exact rfl; exact rfl) | (apply R.guardDec; assumption; exact rfl; exact rfl; (intro h; skip; rotate_left; intro h; skip; rotate_left)) | (apply R.guardBeq; assumption; exact rfl; exact rfl; (intro h; skip; rotate_left; intro h; skip; rotate_left)) | (apply R.guardBne; assumption; exact rfl; exact rfl; (intro h; skip; rotate_left; intro h; skip; rotate_left)) | (apply R.guardNDec; assumption; exact rfl; exact rfl; (intro h; skip; rotate_left; intro h; skip; rotate_left)) | (apply R.guardNot; assumption; exact rfl; exact rfl; (intro h; skip; rotate_left; intro h; skip; rotate_left)) | (apply R.guardC; assumption; exact rfl; exact rfl; (intro h; skip; rotate_left; intro h; skip; rotate_left))) | (first | (apply C.condT; exact rfl) | (apply C.condF; exact rfl) | (apply C.condDec; exact rfl; (intro h; skip; rotate_left; intro h; skip; rotate_left)) | (apply C.condBeq; exact rfl; (intro h; skip; rotate_left; intro h; skip; rotate_left)) | (apply C.condBne; exact rfl; (intro h; skip; rotate_left; intro h; skip; rotate_left)) | (apply C.condNDec; exact rfl; (intro h; skip; rotate_left; intro h; skip; rotate_left)) | (apply C.condNot; exact rfl; (intro h; skip; rotate_left; intro h; skip; rotate_left)) | (apply C.cond; exact rfl; (intro h; skip; rotate_left; intro h; skip; rotate_left)))))
  (apply R.call; (exact a_evs); exact rfl); exact isNaN_K; rintro _ M H ⟨rfl, rfl, rfl⟩
  (repeat' (first | (apply R.step; (exact a_ok); exact rfl) | (first | (with_reducible first | apply R.nil | apply C.ret | apply C.block | apply C.skip | apply C.exit | apply Fin.thenRet | apply Fin.thenExit | apply Fin.blockNormal | apply Fin.blockRet | apply Fin.blockExit) | (with_reducible apply Fin.thenK; assumption) | (with_reducible apply C.seqK; intro _ _) | (with_reducible apply C.regionK; intro _ _) | (with_reducible apply Fin.blockOther; exact rfl)) | (first | (apply R.store; exact rfl; exact rfl; exact rfl; (exact a_at); (exact a_blit); exact rfl; (focus (simp [Value.oneCell']; done))) | (apply R.buildSlice0; exact rfl; intro bz) | (apply R.box; exact rfl; (simp only [Value.cells]; rfl); exact rfl; intro bx) | (apply R.alloc; (simp only [Value.cells]; rfl); exact rfl; intro ba) | (apply R.buildSlice; (exact a_prt); exact rfl; exact rfl; (exact a_fills); exact rfl; intro bl)) | (first | (apply R.guardT; assumption; exact rfl; exact rfl; exact rfl) | (apply R.guardF; assumption; exact rfl; exact rfl; exact rfl; exact rfl; exact rfl) | (apply R.guardU; assumption; exact rfl; exact rfl; exact rfl; exact rfl) | (apply R.guardDec; assumption; exact rfl; exact rfl; (intro h; skip; rotate_left; intro h; skip; rotate_left)) | (apply R.guardBeq; assumption; exact rfl; exact rfl; (intro h; skip; rotate_left; intro h; skip; rotate_left)) | (apply R.guardBne; assumption; exact rfl; exact rfl; (intro h; skip; rotate_left; intro h; skip; rotate_left)) | (apply R.guardNDec; assumption; exact rfl; exact rfl; (intro h; skip; rotate_left; intro h; skip; rotate_left)) | (apply R.guardNot; assumption; exact rfl; exact rfl; (intro h; skip; rotate_left; intro h; skip; rotate_left)) | (apply R.guardC; assumption; exact rfl; exact rfl; (intro h; skip; rotate_left; intro h; skip; rotate_left))) | (first | (apply C.condT; exact rfl) | (apply C.condF; exact rfl) | (apply C.condDec; exact rfl; (intro h; skip; rotate_left; intro h; skip; rotate_left)) | (apply C.condBeq; exact rfl; (intro h; skip; rotate_left; intro h; skip; rotate_left)) | (apply C.condBne; exact rfl; (intro h; skip; rotate_left; intro h; skip; rotate_left)) | (apply C.condNDec; exact rfl; (intro h; skip; rotate_left; intro h; skip; rotate_left)) | (apply C.condNot; exact rfl; (intro h; skip; rotate_left; intro h; skip; rotate_left)) | (apply C.cond; exact rfl; (intro h; skip; rotate_left; intro h; skip; rotate_left)))))
  (refine Fin.rt ?_)
  exact ⟨rfl, rfl, rfl⟩
def uv (n : Nat) : Value := .int .u64 (n : Int)
/-- the j-th and the one ahead of it change places -/
def sw (xs : List Nat) (j : Nat) : List Nat := (xs.set j (xs.getD (j - 1) 0)).set (j - 1) (xs.getD j 0)
theorem sw_len (xs : List Nat) (j : Nat) : (sw xs j).length = xs.length := by simp [sw]
theorem sw_get {xs : List Nat} {j : Nat} (hj : 0 < j) (hl : j < xs.length) (a : Nat) : (sw xs j).getD a 0 = if a = j - 1 then xs.getD j 0 else if a = j then xs.getD (j - 1) 0 else xs.getD a 0 := by
  unfold sw
  simp only [List.getD_eq_getElem?_getD, List.getElem?_set, List.length_set]
  by_cases h1 : a = j - 1
  · subst h1
    rw [if_pos rfl, if_pos (by omega), if_pos rfl]
    rfl
  · rw [if_neg (by omega), if_neg h1]
    by_cases h2 : a = j
    · subst h2
      rw [if_pos rfl, if_pos hl, if_pos rfl]
      rfl
    · rw [if_neg (by omega), if_neg h2]
theorem sw_perm {xs : List Nat} {j : Nat} (hj : 0 < j) (hl : j < xs.length) : (sw xs j).Perm xs := by
  unfold sw
  have h : ((xs.set j (xs[j - 1]'(by omega))).set (j - 1) xs[j]).Perm xs := List.set_set_perm hl (by omega)
  have e1 : xs.getD (j - 1) 0 = xs[j - 1]'(by omega) := by simp [List.getD_eq_getElem?_getD, List.getElem?_eq_getElem (show j - 1 < xs.length by omega)]
  have e2 : xs.getD j 0 = xs[j] := by simp [List.getD_eq_getElem?_getD, List.getElem?_eq_getElem hl]
  rw [e1, e2]
  exact h
/-- all but the j-th are in order up to i, and the j-th is at most what stands behind it -/
def Near (xs : List Nat) (i j : Nat) : Prop := (∀ a b, a < b → b ≤ i → a ≠ j → b ≠ j → xs.getD a 0 ≤ xs.getD b 0) ∧ ∀ b, j < b → b ≤ i → xs.getD j 0 ≤ xs.getD b 0
def Sorted (xs : List Nat) (i : Nat) : Prop := ∀ a b, a < b → b < i → xs.getD a 0 ≤ xs.getD b 0
theorem Near.start {xs : List Nat} {i : Nat} (h : Sorted xs i) : Near xs i i := ⟨fun a b h1 h2 _ h4 => h a b h1 (by omega), fun b h1 h2 => by omega⟩
theorem Near.stop {xs : List Nat} {i j : Nat} (h : Near xs i j) (hj : j ≤ i) (hs : j = 0 ∨ xs.getD (j - 1) 0 ≤ xs.getD j 0) : Sorted xs (i + 1) := by
  intro a b h1 h2
  by_cases hb : b = j
  · subst hb
    rcases hs with hs | hs
    · omega
    · by_cases ha : a = b - 1
      · rw [ha]; exact hs
      · exact Nat.le_trans (h.1 a (b - 1) (by omega) (by omega) (by omega) (by omega)) hs
  · by_cases ha : a = j
    · subst ha; exact h.2 b h1 (by omega)
    · exact h.1 a b h1 (by omega) ha hb
theorem Near.swap {xs : List Nat} {i j : Nat} (h : Near xs i j) (hj : 0 < j) (hji : j ≤ i) (hl : i < xs.length) (hs : xs.getD j 0 < xs.getD (j - 1) 0) : Near (sw xs j) i (j - 1) := by
  have hg := sw_get (xs := xs) hj (by omega)
  refine ⟨fun a b h1 h2 h3 h4 => ?_, fun b h1 h2 => ?_⟩
  · rw [hg, hg, if_neg h3, if_neg h4]
    by_cases ha : a = j
    · subst ha
      rw [if_pos rfl, if_neg (by omega)]
      exact h.1 (a - 1) b (by omega) h2 (by omega) (by omega)
    · rw [if_neg ha]
      by_cases hb : b = j
      · subst hb
        rw [if_pos rfl]
        exact h.1 a (b - 1) (by omega) (by omega) ha (by omega)
      · rw [if_neg hb]
        exact h.1 a b h1 h2 ha hb
  · rw [hg, hg, if_pos rfl, if_neg (by omega)]
    by_cases hb : b = j
    · subst hb
      rw [if_pos rfl]
      omega
    · rw [if_neg hb]
      exact h.2 b (by omega) h2
structure SoX where
  i : Nat
  ii : Int
  xs : List Nat
  j : Nat
  jj : Int
def rowV (b : Nat) (xs : List Nat) (tl : List Value) : Nat × Obj := (b, .cells (xs.map uv ++ tl).toArray 41 (0, 0))
theorem row_get {xs : List Nat} {tl : List Value} {a : Nat} (h : a < xs.length) : (xs.map uv ++ tl)[a]? = some (uv (xs.getD a 0)) := by
  rw [List.getElem?_append_left (by simpa using h), List.getElem?_map, List.getElem?_eq_getElem h]
  simp [List.getD_eq_getElem?_getD, List.getElem?_eq_getElem h]
theorem row_set {xs : List Nat} {tl : List Value} {a v : Nat} (h : a < xs.length) : (xs.map uv ++ tl).set a (uv v) = (xs.set a v).map uv ++ tl := by
  rw [List.set_append_left _ _ (by simpa using h), List.map_set]
theorem isort_K {b cap m : Nat} {xs : List Nat} {tl : List Value} (hm : xs.length = m) (hl : m ≤ 1000) : K Try.prog 38 [.slice (some ⟨b, 0, none⟩) m cap, .int .i64 0, .int .i64 (m : Int)] M (rowV b xs tl :: H) fun _ M' H' =>
    ∃ ys, ys.Perm xs ∧ Sorted ys m ∧ M' = M ∧ H' = rowV b ys tl :: H := by
  refine K.enterK Try.func38 rfl rfl rfl ?_
  intro Q hNP hQ
  (repeat' (first | (apply R.step; (exact a_ok); exact rfl) | (first | (with_reducible first | apply R.nil | apply C.ret | apply C.block | apply C.skip | apply C.exit | apply Fin.thenRet | apply Fin.thenExit | apply Fin.blockNormal | apply Fin.blockRet | apply Fin.blockExit) | (with_reducible apply Fin.thenK; assumption) | (with_reducible apply C.seqK; intro _ _) | (with_reducible apply C.regionK; intro _ _) | (with_reducible apply Fin.blockOther; exact rfl)) | (first | (apply R.store; exact rfl; exact rfl; exact rfl; (exact a_at); (exact a_blit); exact rfl; (focus (simp [Value.oneCell']; done))) | (apply R.buildSlice0; exact rfl; intro bz) | (apply R.box; exact rfl; (simp only [Value.cells]; rfl); exact rfl; intro bx) | (apply R.alloc; (simp only [Value.cells]; rfl); exact rfl; intro ba) | (apply R.buildSlice; (exact a_prt); exact rfl; exact rfl; (exact a_fills); exact rfl; intro bl)) | (first | (apply R.guardT; assumption; exact rfl; exact rfl; exact rfl) | (apply R.guardF; assumption; exact rfl; exact rfl; exact rfl; exact rfl; exact rfl) | (apply R.guardU; assumption; exact rfl; exact rfl; exact rfl; exact rfl) | (apply R.guardDec; assumption; exact rfl; exact rfl; (intro h; skip; rotate_left; intro h; skip; rotate_left)) | (apply R.guardBeq; assumption; exact rfl; exact rfl; (intro h; skip; rotate_left; intro h; skip; rotate_left)) | (apply R.guardBne; assumption; exact rfl; exact rfl; (intro h; skip; rotate_left; intro h; skip; rotate_left)) | (apply R.guardNDec; assumption; exact rfl; exact rfl; (intro h; skip; rotate_left; intro h; skip; rotate_left)) | (apply R.guardNot; assumption; exact rfl; exact rfl; (intro h; skip; rotate_left; intro h; skip; rotate_left)) | (apply R.guardC; assumption; exact rfl; exact rfl; (intro h; skip; rotate_left; intro h; skip; rotate_left))) | (first | (apply C.condT; exact rfl) | (apply C.condF; exact rfl) | (apply C.condDec; exact rfl; (intro h; skip; rotate_left; intro h; skip; rotate_left)) | (apply C.condBeq; exact rfl; (intro h; skip; rotate_left; intro h; skip; rotate_left)) | (apply C.condBne; exact rfl; (intro h; skip; rotate_left; intro h; skip; rotate_left)) | (apply C.condNDec; exact rfl; (intro h; skip; rotate_left; intro h; skip; rotate_left)) | (apply C.condNot; exact rfl; (intro h; skip; rotate_left; intro h; skip; rotate_left)) | (apply C.cond; exact rfl; (intro h; skip; rotate_left; intro h; skip; rotate_left)))))
  apply C.loop (fun x : SoX => (x.i : Int) = x.ii ∧ 1 ≤ x.i ∧ x.xs.Perm xs ∧ Sorted x.xs (min x.i m))
    (fun x => [(0, .slice (some ⟨b, 0, none⟩) m cap), (1, .int .i64 0), (2, .int .i64 (m : Int)), (6, .int .i64 x.ii)]) (fun _ => M) (fun x => rowV b x.xs tl :: H) (fun x => m - x.i) ⟨1, 1, xs, 0, 0⟩
  · exact ⟨rfl, Nat.le_refl _, List.Perm.refl _, fun a b h1 h2 => by dsimp only at h2; omega⟩
  · (exact a_subs)
  · exact rfl
  · exact rfl
  rintro ⟨i, ii, ys, _, _⟩ ⟨hii, hi1, hperm, hso⟩
  dsimp only at hii hi1 hperm hso ⊢
  have hyl : ys.length = m := by rw [hperm.length_eq, hm]
  (repeat' (first | (apply R.step; (exact a_ok); exact rfl) | (first | (with_reducible first | apply R.nil | apply C.ret | apply C.block | apply C.skip | apply C.exit | apply Fin.thenRet | apply Fin.thenExit | apply Fin.blockNormal | apply Fin.blockRet | apply Fin.blockExit) | (with_reducible apply Fin.thenK; assumption) | (with_reducible apply C.seqK; intro _ _) | (with_reducible apply C.regionK; intro _ _) | (with_reducible apply Fin.blockOther; exact rfl)) | (first | (apply R.store; exact rfl; exact rfl; exact rfl; (exact a_at); (exact a_blit); exact rfl; (focus (simp [Value.oneCell']; done))) | (apply R.buildSlice0; exact rfl; intro bz) | (apply R.box; exact rfl; (simp only [Value.cells]; rfl); exact rfl; intro bx) | (apply R.alloc; (simp only [Value.cells]; rfl); exact rfl; intro ba) | (apply R.buildSlice; (exact a_prt); exact rfl; exact rfl; (exact a_fills); exact rfl; intro bl)) | (first | (apply R.guardT; assumption; exact rfl; exact rfl; exact rfl) | (apply R.guardF; assumption; exact rfl; exact rfl; exact rfl; exact rfl; exact rfl) | (apply R.guardU; assumption; exact rfl; exact rfl; exact rfl; exact rfl) | (apply R.guardDec; assumption; exact rfl; exact rfl; (intro h; skip; rotate_left; intro h; skip; rotate_left)) | (apply R.guardBeq; assumption; exact rfl; exact rfl; (intro h; skip; rotate_left; intro h; skip; rotate_left)) | (apply R.guardBne; assumption; exact rfl; exact rfl; (intro h; skip; rotate_left; intro h; skip; rotate_left)) | (apply R.guardNDec; assumption; exact rfl; exact rfl; (intro h; skip; rotate_left; intro h; skip; rotate_left)) | (apply R.guardNot; assumption; exact rfl; exact rfl; (intro h; skip; rotate_left; intro h; skip; rotate_left)) | (apply R.guardC; assumption; exact rfl; exact rfl; (intro h; skip; rotate_left; intro h; skip; rotate_left))) | (first | (apply C.condT; exact rfl) | (apply C.condF; exact rfl) | (apply C.condDec; exact rfl; (intro h; skip; rotate_left; intro h; skip; rotate_left)) | (apply C.condBeq; exact rfl; (intro h; skip; rotate_left; intro h; skip; rotate_left)) | (apply C.condBne; exact rfl; (intro h; skip; rotate_left; intro h; skip; rotate_left)) | (apply C.condNDec; exact rfl; (intro h; skip; rotate_left; intro h; skip; rotate_left)) | (apply C.condNot; exact rfl; (intro h; skip; rotate_left; intro h; skip; rotate_left)) | (apply C.cond; exact rfl; (intro h; skip; rotate_left; intro h; skip; rotate_left)))))
  · have hlt : ii < (m : Int) := by assumption
    rw [Nat.min_eq_left (by omega)] at hso
    apply C.loop (fun x : SoX => (x.j : Int) = x.jj ∧ x.j ≤ i ∧ x.xs.Perm xs ∧ Near x.xs i x.j)
      (fun x => [(0, .slice (some ⟨b, 0, none⟩) m cap), (1, .int .i64 0), (2, .int .i64 (m : Int)), (6, .int .i64 ii), (7, .int .i64 x.jj)]) (fun _ => M) (fun x => rowV b x.xs tl :: H) (fun x => x.j) ⟨0, 0, ys, i, ii⟩
    · exact ⟨hii, Nat.le_refl _, hperm, Near.start hso⟩
    · (exact a_subs)
    · exact rfl
    · exact rfl
    rintro ⟨_, _, zs, j, jj⟩ ⟨hjj, hji, hpz, hnear⟩
    dsimp only at hjj hji hpz hnear ⊢
    have hzl : zs.length = m := by rw [hpz.length_eq, hm]
    have hil : i < zs.length := by omega
    (repeat' (first | (apply R.step; (exact a_ok); exact rfl) | (first | (with_reducible first | apply R.nil | apply C.ret | apply C.block | apply C.skip | apply C.exit | apply Fin.thenRet | apply Fin.thenExit | apply Fin.blockNormal | apply Fin.blockRet | apply Fin.blockExit) | (with_reducible apply Fin.thenK; assumption) | (with_reducible apply C.seqK; intro _ _) | (with_reducible apply C.regionK; intro _ _) | (with_reducible apply Fin.blockOther; exact rfl)) | (first | (apply R.store; exact rfl; exact rfl; exact rfl; (exact a_at); (exact a_blit); exact rfl; (focus (simp [Value.oneCell']; done))) | (apply R.buildSlice0; exact rfl; intro bz) | (apply R.box; exact rfl; (simp only [Value.cells]; rfl); exact rfl; intro bx) | (apply R.alloc; (simp only [Value.cells]; rfl); exact rfl; intro ba) | (apply R.buildSlice; (exact a_prt); exact rfl; exact rfl; (exact a_fills); exact rfl; intro bl)) | (first | (apply R.guardT; assumption; exact rfl; exact rfl; exact rfl) | (apply R.guardF; assumption; exact rfl; exact rfl; exact rfl; exact rfl; exact rfl) | (apply R.guardU; assumption; exact rfl; exact rfl; exact rfl; exact rfl) | (apply R.guardDec; assumption; exact rfl; exact rfl; (intro h; skip; rotate_left; intro h; skip; rotate_left)) | (apply R.guardBeq; assumption; exact rfl; exact rfl; (intro h; skip; rotate_left; intro h; skip; rotate_left)) | (apply R.guardBne; assumption; exact rfl; exact rfl; (intro h; skip; rotate_left; intro h; skip; rotate_left)) | (apply R.guardNDec; assumption; exact rfl; exact rfl; (intro h; skip; rotate_left; intro h; skip; rotate_left)) | (apply R.guardNot; assumption; exact rfl; exact rfl; (intro h; skip; rotate_left; intro h; skip; rotate_left)) | (apply R.guardC; assumption; exact rfl; exact rfl; (intro h; skip; rotate_left; intro h; skip; rotate_left))) | (first | (apply C.condT; exact rfl) | (apply C.condF; exact rfl) | (apply C.condDec; exact rfl; (intro h; skip; rotate_left; intro h; skip; rotate_left)) | (apply C.condBeq; exact rfl; (intro h; skip; rotate_left; intro h; skip; rotate_left)) | (apply C.condBne; exact rfl; (intro h; skip; rotate_left; intro h; skip; rotate_left)) | (apply C.condNDec; exact rfl; (intro h; skip; rotate_left; intro h; skip; rotate_left)) | (apply C.condNot; exact rfl; (intro h; skip; rotate_left; intro h; skip; rotate_left)) | (apply C.cond; exact rfl; (intro h; skip; rotate_left; intro h; skip; rotate_left)))))
    (apply C.regionO (ks := [true, true, true, true, true, true, true, true, true, true, true, true, true, false, true]) (is := [0, 1, 2, 3, 4, 5, 6, 7, 8, 9, 10, 11, 12, 13, 14]) (Hs := [_]); exact Mix.h; (first | exact Arr.all _ | (exact a_arr)); (exact a_np); (exact a_picked); kernel_rfl; intro _ e; subst e)
    (repeat' (first | (first | (apply RP.step; intro _ _ _; (exact a_ok); exact rfl) | (apply RP.stepT; exact rfl; exact rfl; exact rfl; intro _ _ _; (exact a_ok); exact rfl) | (apply RP.stepF; exact rfl; exact rfl; exact rfl; exact rfl; exact rfl) | (apply RP.effF; exact rfl; exact rfl; exact rfl; exact rfl; exact rfl)) | (apply RP.callQ; (exact a_evs); exact rfl)))
    apply RP.case 19; exact rfl
    · intro hb
      have hj0 : 0 < jj := of_decide_eq_true hb
      clear hb
      have hjl : j < zs.length := by omega
      have hjl1 : j - 1 < zs.length := by omega
      have e1 : Unit → 0 + jj.toNat * 1 = j := fun _ => by omega
      have e2 : Unit → 0 + (jj - 1).toNat * 1 = j - 1 := fun _ => by omega
      (repeat' (first | (apply RP.step; intro _ _ _; (apply Ok.move; exact rfl); exact rfl) | (apply RP.stepT; exact rfl; exact rfl; exact rfl; intro _ _ hM; (first | (apply Ok.indexAddr; exact rfl; exact rfl; omega; omega) | (apply Ok.load; exact rfl; exact rfl; exact At.head _ _ _; rw [e1 ()]; exact row_get hjl) | (apply Ok.load; exact rfl; exact rfl; exact At.head _ _ _; rw [e2 ()]; exact row_get hjl1)); exact rfl) | (first | (apply RP.step; intro _ _ _; (exact a_ok); exact rfl) | (apply RP.stepT; exact rfl; exact rfl; exact rfl; intro _ _ _; (exact a_ok); exact rfl) | (apply RP.stepF; exact rfl; exact rfl; exact rfl; exact rfl; exact rfl) | (apply RP.effF; exact rfl; exact rfl; exact rfl; exact rfl; exact rfl)) | (apply RP.callQ; (exact a_evs); exact rfl)))
      (apply RP.effT; exact rfl; exact rfl; exact rfl; intro Kc hKc ops0)
      (apply R.call; (exact a_evs); exact rfl); exact less_K; rintro _ M _ ⟨rfl, rfl, rfl⟩
      (apply R.nil; apply Fin.kp hKc; exact Mem.le_refl _; exact Arr.all _)
      (repeat' (first | (first | (apply RP.step; intro _ _ _; (exact a_ok); exact rfl) | (apply RP.stepT; exact rfl; exact rfl; exact rfl; intro _ _ _; (exact a_ok); exact rfl) | (apply RP.stepF; exact rfl; exact rfl; exact rfl; exact rfl; exact rfl) | (apply RP.effF; exact rfl; exact rfl; exact rfl; exact rfl; exact rfl)) | (apply RP.callQ; (exact a_evs); exact rfl)))
      apply RP.nil
      (repeat' (first | (apply R.step; (exact a_ok); exact rfl) | (first | (with_reducible first | apply R.nil | apply C.ret | apply C.block | apply C.skip | apply C.exit | apply Fin.thenRet | apply Fin.thenExit | apply Fin.blockNormal | apply Fin.blockRet | apply Fin.blockExit) | (with_reducible apply Fin.thenK; assumption) | (with_reducible apply C.seqK; intro _ _) | (with_reducible apply C.regionK; intro _ _) | (with_reducible apply Fin.blockOther; exact rfl)) | (first | (apply R.store; exact rfl; exact rfl; exact rfl; (exact a_at); (exact a_blit); exact rfl; (focus (simp [Value.oneCell']; done))) | (apply R.buildSlice0; exact rfl; intro bz) | (apply R.box; exact rfl; (simp only [Value.cells]; rfl); exact rfl; intro bx) | (apply R.alloc; (simp only [Value.cells]; rfl); exact rfl; intro ba) | (apply R.buildSlice; (exact a_prt); exact rfl; exact rfl; (exact a_fills); exact rfl; intro bl)) | (first | (apply R.guardT; assumption; exact rfl; exact rfl; exact rfl) | (apply R.guardF; assumption; exact rfl; exact rfl; exact rfl; exact rfl; exact rfl) | (apply R.guardU; assumption; exact rfl; exact rfl; exact rfl; exact rfl) | (apply R.guardDec; assumption; exact rfl; exact rfl; (intro h; skip; rotate_left; intro h; skip; rotate_left)) | (apply R.guardBeq; assumption; exact rfl; exact rfl; (intro h; skip; rotate_left; intro h; skip; rotate_left)) | (apply R.guardBne; assumption; exact rfl; exact rfl; (intro h; skip; rotate_left; intro h; skip; rotate_left)) | (apply R.guardNDec; assumption; exact rfl; exact rfl; (intro h; skip; rotate_left; intro h; skip; rotate_left)) | (apply R.guardNot; assumption; exact rfl; exact rfl; (intro h; skip; rotate_left; intro h; skip; rotate_left)) | (apply R.guardC; assumption; exact rfl; exact rfl; (intro h; skip; rotate_left; intro h; skip; rotate_left))) | (first | (apply C.condT; exact rfl) | (apply C.condF; exact rfl) | (apply C.condDec; exact rfl; (intro h; skip; rotate_left; intro h; skip; rotate_left)) | (apply C.condBeq; exact rfl; (intro h; skip; rotate_left; intro h; skip; rotate_left)) | (apply C.condBne; exact rfl; (intro h; skip; rotate_left; intro h; skip; rotate_left)) | (apply C.condNDec; exact rfl; (intro h; skip; rotate_left; intro h; skip; rotate_left)) | (apply C.condNot; exact rfl; (intro h; skip; rotate_left; intro h; skip; rotate_left)) | (apply C.cond; exact rfl; (intro h; skip; rotate_left; intro h; skip; rotate_left)))))
      · have hlt2 : ((zs.getD j 0 : Nat) : Int) < ((zs.getD (j - 1) 0 : Nat) : Int) := by assumption
        (apply C.regionB (isF := [2, 3, 4, 10, 11, 12]) (isA := [0, 1, 5, 6, 7, 8, 9, 13]) (isB := [14, 15, 16, 17]) (ksB := [true, false, true, false]); exact Mix.h; (exact a_np); (exact a_picked); (exact a_picked); (exact a_picked); kernel_rfl; intro _ e; subst e)
        (repeat' (first | (apply FZ.step; intro _ _; (apply Ok.move; exact rfl); exact rfl) | (apply FZ.step; intro _ _; (apply Ok.indexAddr; exact rfl; exact rfl; omega; omega); exact rfl) | (apply FZ.step; intro _ _; (exact a_ok); exact rfl)))
        apply FZ.nil
        (repeat' (first | (apply RZ.step; (apply Ok.move; exact rfl); exact rfl) | (apply RZ.step; (first | (apply Ok.indexAddr; exact rfl; exact rfl; omega; omega) | (apply Ok.load; exact rfl; exact rfl; exact At.head _ _ _; rw [e1 ()]; exact row_get hjl) | (apply Ok.load; exact rfl; exact rfl; exact At.head _ _ _; rw [e2 ()]; exact row_get hjl1)); exact rfl) | (apply RZ.step; (exact a_ok); exact rfl) | (apply RZ.stepT; exact rfl; exact rfl; exact rfl; (exact a_ok); exact rfl) | (apply RZ.stepF; exact rfl; exact rfl; exact rfl; exact rfl; exact rfl)))
        apply RZ.nil
        (repeat' (first | (apply RP.step; intro _ _ _; (apply Ok.move; exact rfl); exact rfl) | (apply RP.step; intro _ _ hM; (apply Ok.indexAddr; exact rfl; exact rfl; omega; omega); exact rfl) | (first | (apply RP.step; intro _ _ _; (exact a_ok); exact rfl) | (apply RP.stepT; exact rfl; exact rfl; exact rfl; intro _ _ _; (exact a_ok); exact rfl) | (apply RP.stepF; exact rfl; exact rfl; exact rfl; exact rfl; exact rfl) | (apply RP.effF; exact rfl; exact rfl; exact rfl; exact rfl; exact rfl)) | (apply RP.callQ; (exact a_evs); exact rfl)))
        (apply RP.eff; intro Kc hKc ops0)
        rw [e1 ()]
        (apply R.storeI (v := uv (zs.getD (j - 1) 0)); exact rfl; exact rfl; exact rfl; exact At.head _ _ _; (simp; omega); exact rfl)
        rw [row_set hjl]
        (apply R.nil; apply Fin.kp hKc; exact Mem.le_refl _; exact Arr.all _)
        (repeat' (first | (apply RP.step; intro _ _ _; (apply Ok.move; exact rfl); exact rfl) | (apply RP.step; intro _ _ hM; (apply Ok.indexAddr; exact rfl; exact rfl; omega; omega); exact rfl) | (first | (apply RP.step; intro _ _ _; (exact a_ok); exact rfl) | (apply RP.stepT; exact rfl; exact rfl; exact rfl; intro _ _ _; (exact a_ok); exact rfl) | (apply RP.stepF; exact rfl; exact rfl; exact rfl; exact rfl; exact rfl) | (apply RP.effF; exact rfl; exact rfl; exact rfl; exact rfl; exact rfl)) | (apply RP.callQ; (exact a_evs); exact rfl)))
        (apply RP.eff; intro Kc hKc ops0)
        rw [e2 ()]
        (apply R.storeI (v := uv (zs.getD j 0)); exact rfl; exact rfl; exact rfl; exact At.head _ _ _; (simp; omega); exact rfl)
        rw [row_set (by rw [List.length_set]; exact hjl1)]
        (apply R.nil; apply Fin.kp hKc; exact Mem.le_refl _; exact Arr.all _)
        apply RP.nil
        (repeat' (first | (apply R.step; (exact a_ok); exact rfl) | (first | (with_reducible first | apply R.nil | apply C.ret | apply C.block | apply C.skip | apply C.exit | apply Fin.thenRet | apply Fin.thenExit | apply Fin.blockNormal | apply Fin.blockRet | apply Fin.blockExit) | (with_reducible apply Fin.thenK; assumption) | (with_reducible apply C.seqK; intro _ _) | (with_reducible apply C.regionK; intro _ _) | (with_reducible apply Fin.blockOther; exact rfl)) | (first | (apply R.store; exact rfl; exact rfl; exact rfl; (exact a_at); (exact a_blit); exact rfl; (focus (simp [Value.oneCell']; done))) | (apply R.buildSlice0; exact rfl; intro bz) | (apply R.box; exact rfl; (simp only [Value.cells]; rfl); exact rfl; intro bx) | (apply R.alloc; (simp only [Value.cells]; rfl); exact rfl; intro ba) | (apply R.buildSlice; (exact a_prt); exact rfl; exact rfl; (exact a_fills); exact rfl; intro bl)) | (first | (apply R.guardT; assumption; exact rfl; exact rfl; exact rfl) | (apply R.guardF; assumption; exact rfl; exact rfl; exact rfl; exact rfl; exact rfl) | (apply R.guardU; assumption; exact rfl; exact rfl; exact rfl; exact rfl) | (apply R.guardDec; assumption; exact rfl; exact rfl; (intro h; skip; rotate_left; intro h; skip; rotate_left)) | (apply R.guardBeq; assumption; exact rfl; exact rfl; (intro h; skip; rotate_left; intro h; skip; rotate_left)) | (apply R.guardBne; assumption; exact rfl; exact rfl; (intro h; skip; rotate_left; intro h; skip; rotate_left)) | (apply R.guardNDec; assumption; exact rfl; exact rfl; (intro h; skip; rotate_left; intro h; skip; rotate_left)) | (apply R.guardNot; assumption; exact rfl; exact rfl; (intro h; skip; rotate_left; intro h; skip; rotate_left)) | (apply R.guardC; assumption; exact rfl; exact rfl; (intro h; skip; rotate_left; intro h; skip; rotate_left))) | (first | (apply C.condT; exact rfl) | (apply C.condF; exact rfl) | (apply C.condDec; exact rfl; (intro h; skip; rotate_left; intro h; skip; rotate_left)) | (apply C.condBeq; exact rfl; (intro h; skip; rotate_left; intro h; skip; rotate_left)) | (apply C.condBne; exact rfl; (intro h; skip; rotate_left; intro h; skip; rotate_left)) | (apply C.condNDec; exact rfl; (intro h; skip; rotate_left; intro h; skip; rotate_left)) | (apply C.condNot; exact rfl; (intro h; skip; rotate_left; intro h; skip; rotate_left)) | (apply C.cond; exact rfl; (intro h; skip; rotate_left; intro h; skip; rotate_left)))))
        refine Fin.again (⟨0, 0, sw zs j, j - 1, jj - 1⟩ : SoX) ⟨by dsimp only; omega, by dsimp only; omega, (sw_perm (by omega) hjl).trans hpz, hnear.swap (by omega) hji hil (by omega)⟩ (by dsimp only; omega) ?_ rfl rfl
        dsimp only
        (exact a_subs)
      · have hge : ¬ ((zs.getD j 0 : Nat) : Int) < ((zs.getD (j - 1) 0 : Nat) : Int) := by assumption
        refine Fin.again (⟨i + 1, ii + 1, zs, 0, 0⟩ : SoX) ⟨by dsimp only; omega, by dsimp only; omega, hpz, ?_⟩ (by dsimp only; omega) ?_ rfl rfl
        · dsimp only
          rw [Nat.min_eq_left (by omega)]
          exact Near.stop hnear hji (.inr (by omega))
        · dsimp only
          (exact a_subs)
    · intro hb
      have hj0 : ¬ 0 < jj := of_decide_eq_false hb
      clear hb
      (repeat' (first | (first | (apply RP.step; intro _ _ _; (exact a_ok); exact rfl) | (apply RP.stepT; exact rfl; exact rfl; exact rfl; intro _ _ _; (exact a_ok); exact rfl) | (apply RP.stepF; exact rfl; exact rfl; exact rfl; exact rfl; exact rfl) | (apply RP.effF; exact rfl; exact rfl; exact rfl; exact rfl; exact rfl)) | (apply RP.callQ; (exact a_evs); exact rfl)))
      apply RP.nil
      (repeat' (first | (apply R.step; (exact a_ok); exact rfl) | (first | (with_reducible first | apply R.nil | apply C.ret | apply C.block | apply C.skip | apply C.exit | apply Fin.thenRet | apply Fin.thenExit | apply Fin.blockNormal | apply Fin.blockRet | apply Fin.blockExit) | (with_reducible apply Fin.thenK; assumption) | (with_reducible apply C.seqK; intro _ _) | (with_reducible apply C.regionK; intro _ _) | (with_reducible apply Fin.blockOther; exact rfl)) | (first | (apply R.store; exact rfl; exact rfl; exact rfl; (exact a_at); (exact a_blit); exact rfl; (focus (simp [Value.oneCell']; done))) | (apply R.buildSlice0; exact rfl; intro bz) | (apply R.box; exact rfl; (simp only [Value.cells]; rfl); exact rfl; intro bx) | (apply R.alloc; (simp only [Value.cells]; rfl); exact rfl; intro ba) | (apply R.buildSlice; (exact a_prt); exact rfl; exact rfl; (exact a_fills); exact rfl; intro bl)) | (first | (apply R.guardT; assumption; exact rfl; exact rfl; exact rfl) | (apply R.guardF; assumption; exact rfl; exact rfl; exact rfl; exact rfl; exact rfl) | (apply R.guardU; assumption; exact rfl; exact rfl; exact rfl; exact rfl) | (apply R.guardDec; assumption; exact rfl; exact rfl; (intro h; skip; rotate_left; intro h; skip; rotate_left)) | (apply R.guardBeq; assumption; exact rfl; exact rfl; (intro h; skip; rotate_left; intro h; skip; rotate_left)) | (apply R.guardBne; assumption; exact rfl; exact rfl; (intro h; skip; rotate_left; intro h; skip; rotate_left)) | (apply R.guardNDec; assumption; exact rfl; exact rfl; (intro h; skip; rotate_left; intro h; skip; rotate_left)) | (apply R.guardNot; assumption; exact rfl; exact rfl; (intro h; skip; rotate_left; intro h; skip; rotate_left)) | (apply R.guardC; assumption; exact rfl; exact rfl; (intro h; skip; rotate_left; intro h; skip; rotate_left))) | (first | (apply C.condT; exact rfl) | (apply C.condF; exact rfl) | (apply C.condDec; exact rfl; (intro h; skip; rotate_left; intro h; skip; rotate_left)) | (apply C.condBeq; exact rfl; (intro h; skip; rotate_left; intro h; skip; rotate_left)) | (apply C.condBne; exact rfl; (intro h; skip; rotate_left; intro h; skip; rotate_left)) | (apply C.condNDec; exact rfl; (intro h; skip; rotate_left; intro h; skip; rotate_left)) | (apply C.condNot; exact rfl; (intro h; skip; rotate_left; intro h; skip; rotate_left)) | (apply C.cond; exact rfl; (intro h; skip; rotate_left; intro h; skip; rotate_left)))))
      refine Fin.again (⟨i + 1, ii + 1, zs, 0, 0⟩ : SoX) ⟨by dsimp only; omega, by dsimp only; omega, hpz, ?_⟩ (by dsimp only; omega) ?_ rfl rfl
      · dsimp only
        rw [Nat.min_eq_left (by omega)]
        exact Near.stop hnear hji (.inl (by omega))
      · dsimp only
        (exact a_subs)
  · have hge : ¬ ii < (m : Int) := by assumption
    rw [Nat.min_eq_right (by omega)] at hso
    (refine Fin.rt ?_)
    exact ⟨ys, hperm, hso, rfl, rfl⟩
end Go.Sx
