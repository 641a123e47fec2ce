/- What most of them have: the reference's Index. -/
import Derived.Test.YtiijpijoccbjnaaM11
import Derived.Test.YtiijpijoccbjnaaM12
namespace Go.Sx
open Go.Proofs Go.RowKit
attribute [local irreducible] C R Fin K Own Rd Pl Ok KOf RetOk OpsOf RP KP Res NoPanic KV
variable {M : Mem} {H : Hp}
theorem min_ge (y : Nat) : ∀ l : List Nat, (∃ x ∈ l, y ≤ x) → ∃ x ∈ l, y ≤ x ∧ ∀ u ∈ l, y ≤ u → x ≤ u
  | [], h => by obtain ⟨_, h, _⟩ := h; cases h
  | a :: l, h => by
    by_cases hl : ∃ x ∈ l, y ≤ x
    · obtain ⟨x, hx, hyx, hm⟩ := min_ge y l hl
      by_cases ha : y ≤ a ∧ a < x
      · refine ⟨a, List.mem_cons_self .., ha.1, fun u hu hyu => ?_⟩
        rcases List.mem_cons.1 hu with rfl | hu
        · exact Nat.le_refl _
        · have := hm u hu hyu; omega
      · refine ⟨x, List.mem_cons_of_mem _ hx, hyx, fun u hu hyu => ?_⟩
        rcases List.mem_cons.1 hu with rfl | hu
        · omega
        · exact hm u hu hyu
    · obtain ⟨x, hx, hyx⟩ := h
      rcases List.mem_cons.1 hx with rfl | hx
      · refine ⟨x, List.mem_cons_self .., hyx, fun u hu hyu => ?_⟩
        rcases List.mem_cons.1 hu with rfl | hu
        · exact Nat.le_refl _
        · exact absurd ⟨u, hu, hyu⟩ hl
      · exact absurd ⟨x, hx, hyx⟩ hl
def rcnt (ms l : List Nat) (v : Nat) : Nat := l.countP fun a => decide (a < ms.length ∧ v ≤ ms.getD a 0)
theorem rcnt_eq {ms l : List Nat} {v : Nat} (hv : 0 < v) : rcnt ms l v = cnt (l.map fun a => ms.getD a 0) v := by
  unfold rcnt cnt
  rw [List.countP_map]
  apply List.countP_congr
  intro a _
  simp only [Function.comp, decide_eq_true_eq]
  constructor
  · exact fun h => h.2
  · refine fun h => ⟨?_, h⟩
    rcases Nat.lt_or_ge a ms.length with h1 | h1
    · exact h1
    · rw [List.getD_eq_getElem?_getD, List.getElem?_eq_none h1] at h
      simp at h
      omega
theorem rcnt_snoc {ms l : List Nat} {v i : Nat} (hi : i < l.length) : rcnt ms (l.take (i + 1)) v = rcnt ms (l.take i) v + if l[i] < ms.length ∧ v ≤ ms.getD l[i] 0 then 1 else 0 := by
  unfold rcnt
  rw [List.take_succ_eq_append_getElem hi, List.countP_append]
  by_cases h : l[i] < ms.length ∧ v ≤ ms.getD l[i] 0 <;> simp [h]
theorem idx_end {ms l : List Nat} {best : Nat} (h1 : best = 0 ∨ l.length < 2 * cnt (l.map fun a => ms.getD a 0) best) (h2 : ∀ a ∈ l, l.length < 2 * cnt (l.map fun a => ms.getD a 0) (ms.getD a 0) → ms.getD a 0 ≤ best) : IsIdx (l.map fun a => ms.getD a 0) best := by
  refine ⟨by rw [List.length_map]; exact h1, fun y hy => ?_⟩
  rw [List.length_map]
  apply Nat.le_of_not_lt
  intro hlt
  have hpos : 0 < cnt (l.map fun a => ms.getD a 0) y := by omega
  obtain ⟨x, hx, hxy⟩ := List.countP_pos_iff.1 hpos
  obtain ⟨x, hx, hyx, hm⟩ := min_ge y _ ⟨x, hx, of_decide_eq_true hxy⟩
  have he : cnt (l.map fun a => ms.getD a 0) x = cnt (l.map fun a => ms.getD a 0) y := by
    unfold cnt
    apply List.countP_congr
    intro u hu
    simp only [decide_eq_true_eq]
    exact ⟨fun h => Nat.le_trans hyx h, fun h => hm u hu h⟩
  obtain ⟨a, ha, rfl⟩ := List.mem_map.1 hx
  have := h2 a ha (by rw [he]; exact hlt)
  omega
theorem uvget {ms : List Nat} {a : Nat} (h : a < ms.length) : (ms.map uv)[a]? = some (uv (ms.getD a 0)) := by
  rw [List.getElem?_map, List.getElem?_eq_getElem h]
  simp [List.getD_eq_getElem?_getD, List.getElem?_eq_getElem h]
theorem rindex_K {z : Int} {B : Option Addr} {capB : Nat} {ms : List Nat} (hpm : Pl M B (ms.map uv)) (hml : ms.length ≤ 140737488351232) : K Try.prog 27 [.int .i64 z, .slice B ms.length capB] M H fun v M' H' => (∃ x, v = uv x ∧ IsIdx (vals z ms) x) ∧ M.le M' ∧ H' = H := by
  refine K.enterK Try.func27 rfl rfl rfl ?_
  intro Q hNP hQ
  (repeat' (first | (apply R.step; (exact a_ok); exact rfl) | (first | (with_reducible first | apply R.nil | apply C.ret | apply C.block | apply C.skip | apply C.exit | apply Fin.thenRet | apply Fin.thenExit | apply Fin.blockNormal | apply Fin.blockRet | apply Fin.blockExit) | (with_reducible apply Fin.thenK; assumption) | (with_reducible apply C.seqK; intro _ _) | (with_reducible apply C.regionK; intro _ _) | (with_reducible apply Fin.blockOther; exact rfl)) | (first | (apply R.store; exact rfl; exact rfl; exact rfl; (exact a_at); (exact a_blit); exact rfl; (focus (simp [Value.oneCell']; done))) | (apply R.buildSlice0; exact rfl; intro bz) | (apply R.box; exact rfl; (simp only [Value.cells]; rfl); exact rfl; intro bx) | (apply R.alloc; (simp only [Value.cells]; rfl); exact rfl; intro ba) | (apply R.buildSlice; (exact a_prt); exact rfl; exact rfl; (exact a_fills); exact rfl; intro bl)) | (first | (apply R.guardT; assumption; exact rfl; exact rfl; exact rfl) | (apply R.guardF; assumption; exact rfl; exact rfl; exact rfl; exact rfl; exact rfl) | (apply R.guardU; assumption; exact rfl; exact rfl; exact rfl; exact rfl) | (apply R.guardDec; assumption; exact rfl; exact rfl; (intro h; skip; rotate_left; intro h; skip; rotate_left)) | (apply R.guardBeq; assumption; exact rfl; exact rfl; (intro h; skip; rotate_left; intro h; skip; rotate_left)) | (apply R.guardBne; assumption; exact rfl; exact rfl; (intro h; skip; rotate_left; intro h; skip; rotate_left)) | (apply R.guardNDec; assumption; exact rfl; exact rfl; (intro h; skip; rotate_left; intro h; skip; rotate_left)) | (apply R.guardNot; assumption; exact rfl; exact rfl; (intro h; skip; rotate_left; intro h; skip; rotate_left)) | (apply R.guardC; assumption; exact rfl; exact rfl; (intro h; skip; rotate_left; intro h; skip; rotate_left))) | (first | (apply C.condT; exact rfl) | (apply C.condF; exact rfl) | (apply C.condDec; exact rfl; (intro h; skip; rotate_left; intro h; skip; rotate_left)) | (apply C.condBeq; exact rfl; (intro h; skip; rotate_left; intro h; skip; rotate_left)) | (apply C.condBne; exact rfl; (intro h; skip; rotate_left; intro h; skip; rotate_left)) | (apply C.condNDec; exact rfl; (intro h; skip; rotate_left; intro h; skip; rotate_left)) | (apply C.condNot; exact rfl; (intro h; skip; rotate_left; intro h; skip; rotate_left)) | (apply C.cond; exact rfl; (intro h; skip; rotate_left; intro h; skip; rotate_left)))))
  (apply R.call; (exact a_evs); exact rfl); exact nodes_KF; rintro _ M1 H ⟨⟨A, cap, rfl, h1, h2, h3⟩, hM1, rfl⟩
  have hl8 := nodesS_len z
  have hmem : ∀ k ∈ nodesS z, 1 ≤ k ∧ k ≤ 7 := fun k hk => by have := (mem_nodesS.1 hk).2.1; unfold nodeS at this; omega
  have hvals : vals z ms = (nodesS z).map fun a => ms.getD a 0 := rfl
  generalize nodesS z = l at h1 h3 hl8 hmem hvals ⊢
  replace hpm := hpm.mono hM1
  (repeat' (first | (apply R.step; (exact a_ok); exact rfl) | (first | (with_reducible first | apply R.nil | apply C.ret | apply C.block | apply C.skip | apply C.exit | apply Fin.thenRet | apply Fin.thenExit | apply Fin.blockNormal | apply Fin.blockRet | apply Fin.blockExit) | (with_reducible apply Fin.thenK; assumption) | (with_reducible apply C.seqK; intro _ _) | (with_reducible apply C.regionK; intro _ _) | (with_reducible apply Fin.blockOther; exact rfl)) | (first | (apply R.store; exact rfl; exact rfl; exact rfl; (exact a_at); (exact a_blit); exact rfl; (focus (simp [Value.oneCell']; done))) | (apply R.buildSlice0; exact rfl; intro bz) | (apply R.box; exact rfl; (simp only [Value.cells]; rfl); exact rfl; intro bx) | (apply R.alloc; (simp only [Value.cells]; rfl); exact rfl; intro ba) | (apply R.buildSlice; (exact a_prt); exact rfl; exact rfl; (exact a_fills); exact rfl; intro bl)) | (first | (apply R.guardT; assumption; exact rfl; exact rfl; exact rfl) | (apply R.guardF; assumption; exact rfl; exact rfl; exact rfl; exact rfl; exact rfl) | (apply R.guardU; assumption; exact rfl; exact rfl; exact rfl; exact rfl) | (apply R.guardDec; assumption; exact rfl; exact rfl; (intro h; skip; rotate_left; intro h; skip; rotate_left)) | (apply R.guardBeq; assumption; exact rfl; exact rfl; (intro h; skip; rotate_left; intro h; skip; rotate_left)) | (apply R.guardBne; assumption; exact rfl; exact rfl; (intro h; skip; rotate_left; intro h; skip; rotate_left)) | (apply R.guardNDec; assumption; exact rfl; exact rfl; (intro h; skip; rotate_left; intro h; skip; rotate_left)) | (apply R.guardNot; assumption; exact rfl; exact rfl; (intro h; skip; rotate_left; intro h; skip; rotate_left)) | (apply R.guardC; assumption; exact rfl; exact rfl; (intro h; skip; rotate_left; intro h; skip; rotate_left))) | (first | (apply C.condT; exact rfl) | (apply C.condF; exact rfl) | (apply C.condDec; exact rfl; (intro h; skip; rotate_left; intro h; skip; rotate_left)) | (apply C.condBeq; exact rfl; (intro h; skip; rotate_left; intro h; skip; rotate_left)) | (apply C.condBne; exact rfl; (intro h; skip; rotate_left; intro h; skip; rotate_left)) | (apply C.condNDec; exact rfl; (intro h; skip; rotate_left; intro h; skip; rotate_left)) | (apply C.condNot; exact rfl; (intro h; skip; rotate_left; intro h; skip; rotate_left)) | (apply C.cond; exact rfl; (intro h; skip; rotate_left; intro h; skip; rotate_left)))))
  apply C.loop (fun x : RmX => (x.i : Int) = x.ii ∧ x.i ≤ l.length ∧ (x.n = 0 ∨ l.length < 2 * cnt (l.map fun a => ms.getD a 0) x.n) ∧ ∀ a ∈ l.take x.i, l.length < 2 * cnt (l.map fun a => ms.getD a 0) (ms.getD a 0) → ms.getD a 0 ≤ x.n)
    (fun x => [(0, .int .i64 z), (1, .slice B ms.length capB), (5, .slice A l.length cap), (6, uv x.n), (7, .int .i64 x.ii)]) (fun _ => M1) (fun x => H) (fun x => l.length - x.i) ⟨0, 0, 0⟩
  · exact ⟨rfl, Nat.zero_le _, .inl rfl, by simp⟩
  · (exact a_subs)
  · exact rfl
  · exact rfl
  rintro ⟨i, ii, best⟩ ⟨hii, hi, hb1, hb2⟩
  dsimp only at hii hi hb1 hb2 ⊢
  (repeat' (first | (apply R.step; (exact a_ok); exact rfl) | (first | (with_reducible first | apply R.nil | apply C.ret | apply C.block | apply C.skip | apply C.exit | apply Fin.thenRet | apply Fin.thenExit | apply Fin.blockNormal | apply Fin.blockRet | apply Fin.blockExit) | (with_reducible apply Fin.thenK; assumption) | (with_reducible apply C.seqK; intro _ _) | (with_reducible apply C.regionK; intro _ _) | (with_reducible apply Fin.blockOther; exact rfl)) | (first | (apply R.store; exact rfl; exact rfl; exact rfl; (exact a_at); (exact a_blit); exact rfl; (focus (simp [Value.oneCell']; done))) | (apply R.buildSlice0; exact rfl; intro bz) | (apply R.box; exact rfl; (simp only [Value.cells]; rfl); exact rfl; intro bx) | (apply R.alloc; (simp only [Value.cells]; rfl); exact rfl; intro ba) | (apply R.buildSlice; (exact a_prt); exact rfl; exact rfl; (exact a_fills); exact rfl; intro bl)) | (first | (apply R.guardT; assumption; exact rfl; exact rfl; exact rfl) | (apply R.guardF; assumption; exact rfl; exact rfl; exact rfl; exact rfl; exact rfl) | (apply R.guardU; assumption; exact rfl; exact rfl; exact rfl; exact rfl) | (apply R.guardDec; assumption; exact rfl; exact rfl; (intro h; skip; rotate_left; intro h; skip; rotate_left)) | (apply R.guardBeq; assumption; exact rfl; exact rfl; (intro h; skip; rotate_left; intro h; skip; rotate_left)) | (apply R.guardBne; assumption; exact rfl; exact rfl; (intro h; skip; rotate_left; intro h; skip; rotate_left)) | (apply R.guardNDec; assumption; exact rfl; exact rfl; (intro h; skip; rotate_left; intro h; skip; rotate_left)) | (apply R.guardNot; assumption; exact rfl; exact rfl; (intro h; skip; rotate_left; intro h; skip; rotate_left)) | (apply R.guardC; assumption; exact rfl; exact rfl; (intro h; skip; rotate_left; intro h; skip; rotate_left))) | (first | (apply C.condT; exact rfl) | (apply C.condF; exact rfl) | (apply C.condDec; exact rfl; (intro h; skip; rotate_left; intro h; skip; rotate_left)) | (apply C.condBeq; exact rfl; (intro h; skip; rotate_left; intro h; skip; rotate_left)) | (apply C.condBne; exact rfl; (intro h; skip; rotate_left; intro h; skip; rotate_left)) | (apply C.condNDec; exact rfl; (intro h; skip; rotate_left; intro h; skip; rotate_left)) | (apply C.condNot; exact rfl; (intro h; skip; rotate_left; intro h; skip; rotate_left)) | (apply C.cond; exact rfl; (intro h; skip; rotate_left; intro h; skip; rotate_left)))))
  · have hlt : ii < (l.length : Int) := by assumption
    have hia : i < l.length := by omega
    obtain ⟨b, o, c, e, fr, hA, hMb, hcb⟩ := PlN.at_ h3 hia
    have e1 : Unit → o + ii.toNat * 1 = o + i := fun _ => by omega
    have htk : l.take (i + 1) = l.take i ++ [l[i]] := List.take_succ_eq_append_getElem hia
    have hk7 := hmem _ (List.getElem_mem hia)
    obtain ⟨y, hy⟩ : ∃ y, l[i] = y := ⟨_, rfl⟩
    rw [hy] at hcb htk hk7
    subst hA
    have hnext : ∀ w, (w = 0 ∨ l.length < 2 * cnt (l.map fun a => ms.getD a 0) w) → best ≤ w → (l.length < 2 * cnt (l.map fun a => ms.getD a 0) (ms.getD y 0) → ms.getD y 0 ≤ w) → ((i + 1 : Nat) : Int) = ii + 1 ∧ i + 1 ≤ l.length ∧ (w = 0 ∨ l.length < 2 * cnt (l.map fun a => ms.getD a 0) w) ∧ ∀ a ∈ l.take (i + 1), l.length < 2 * cnt (l.map fun a => ms.getD a 0) (ms.getD a 0) → ms.getD a 0 ≤ w := by
      intro w hw hbw hyw
      refine ⟨by omega, by omega, hw, ?_⟩
      rw [htk]
      intro a ha hc
      rcases List.mem_append.1 ha with ha | ha
      · exact Nat.le_trans (hb2 a ha hc) hbw
      · simp only [List.mem_singleton] at ha
        subst ha
        exact hyw hc
    (repeat' (first | (apply R.step; (apply Ok.move; exact rfl); exact rfl) | (apply R.step; (first | (apply Ok.indexAddr; exact rfl; exact rfl; omega; omega) | (apply Ok.loadP; exact rfl; exact rfl; exact hMb; rw [e1 ()]; exact hcb)); exact rfl) | (apply R.step; (exact a_ok); exact rfl) | (first | (with_reducible first | apply R.nil | apply C.ret | apply C.block | apply C.skip | apply C.exit | apply Fin.thenRet | apply Fin.thenExit | apply Fin.blockNormal | apply Fin.blockRet | apply Fin.blockExit) | (with_reducible apply Fin.thenK; assumption) | (with_reducible apply C.seqK; intro _ _) | (with_reducible apply C.regionK; intro _ _) | (with_reducible apply Fin.blockOther; exact rfl)) | (first | (apply R.store; exact rfl; exact rfl; exact rfl; (exact a_at); (exact a_blit); exact rfl; (focus (simp [Value.oneCell']; done))) | (apply R.buildSlice0; exact rfl; intro bz) | (apply R.box; exact rfl; (simp only [Value.cells]; rfl); exact rfl; intro bx) | (apply R.alloc; (simp only [Value.cells]; rfl); exact rfl; intro ba) | (apply R.buildSlice; (exact a_prt); exact rfl; exact rfl; (exact a_fills); exact rfl; intro bl)) | (first | (apply R.guardT; assumption; exact rfl; exact rfl; exact rfl) | (apply R.guardF; assumption; exact rfl; exact rfl; exact rfl; exact rfl; exact rfl) | (apply R.guardU; assumption; exact rfl; exact rfl; exact rfl; exact rfl) | (apply R.guardDec; assumption; exact rfl; exact rfl; (intro h; skip; rotate_left; intro h; skip; rotate_left)) | (apply R.guardBeq; assumption; exact rfl; exact rfl; (intro h; skip; rotate_left; intro h; skip; rotate_left)) | (apply R.guardBne; assumption; exact rfl; exact rfl; (intro h; skip; rotate_left; intro h; skip; rotate_left)) | (apply R.guardNDec; assumption; exact rfl; exact rfl; (intro h; skip; rotate_left; intro h; skip; rotate_left)) | (apply R.guardNot; assumption; exact rfl; exact rfl; (intro h; skip; rotate_left; intro h; skip; rotate_left)) | (apply R.guardC; assumption; exact rfl; exact rfl; (intro h; skip; rotate_left; intro h; skip; rotate_left))) | (first | (apply C.condT; exact rfl) | (apply C.condF; exact rfl) | (apply C.condDec; exact rfl; (intro h; skip; rotate_left; intro h; skip; rotate_left)) | (apply C.condBeq; exact rfl; (intro h; skip; rotate_left; intro h; skip; rotate_left)) | (apply C.condBne; exact rfl; (intro h; skip; rotate_left; intro h; skip; rotate_left)) | (apply C.condNDec; exact rfl; (intro h; skip; rotate_left; intro h; skip; rotate_left)) | (apply C.condNot; exact rfl; (intro h; skip; rotate_left; intro h; skip; rotate_left)) | (apply C.cond; exact rfl; (intro h; skip; rotate_left; intro h; skip; rotate_left)))))
    · have hge : (y : Int) ≥ ms.length := by assumption
      have hy0 : ms.getD y 0 = 0 := by rw [List.getD_eq_getElem?_getD, List.getElem?_eq_none (by omega)]; rfl
      refine Fin.again (⟨i + 1, ii + 1, best⟩ : RmX) (hnext best hb1 (Nat.le_refl _) (fun _ => by omega)) (by dsimp only; omega) ?_ rfl rfl
      dsimp only
      (exact a_subs)
    have hyl : y < ms.length := by
      have : ¬ (y : Int) ≥ ms.length := by assumption
      omega
    obtain ⟨bm, om, cm, em, fm, hB, hMm, hcm⟩ := hpm.get (uvget hyl)
    subst hB
    have e2 : Unit → om + (y : Int).toNat * 1 = om + y := fun _ => by omega
    apply C.loop (fun x : RmX => (x.i : Int) = x.ii ∧ x.i ≤ l.length ∧ x.n = rcnt ms (l.take x.i) (ms.getD y 0))
      (fun x => [(0, .int .i64 z), (1, .slice (some ⟨bm, om, none⟩) ms.length capB), (5, .slice (some ⟨b, o, none⟩) l.length cap), (6, uv best), (7, .int .i64 ii), (8, .int .i64 (x.n : Int)), (9, .int .i64 x.ii)]) (fun _ => M1) (fun x => H) (fun x => l.length - x.i) ⟨0, 0, 0⟩
    · exact ⟨rfl, Nat.zero_le _, by simp [rcnt]⟩
    · (exact a_subs)
    · exact rfl
    · exact rfl
    rintro ⟨j, jj, n⟩ ⟨hjj, hj, hn⟩
    dsimp only at hjj hj hn ⊢
    have hn8 : n ≤ 8 := by
      have := List.countP_le_length (p := fun a => decide (a < ms.length ∧ ms.getD y 0 ≤ ms.getD a 0)) (l := l.take j)
      rw [List.length_take] at this
      unfold rcnt at hn
      omega
    (repeat' (first | (apply R.step; (exact a_ok); exact rfl) | (first | (with_reducible first | apply R.nil | apply C.ret | apply C.block | apply C.skip | apply C.exit | apply Fin.thenRet | apply Fin.thenExit | apply Fin.blockNormal | apply Fin.blockRet | apply Fin.blockExit) | (with_reducible apply Fin.thenK; assumption) | (with_reducible apply C.seqK; intro _ _) | (with_reducible apply C.regionK; intro _ _) | (with_reducible apply Fin.blockOther; exact rfl)) | (first | (apply R.store; exact rfl; exact rfl; exact rfl; (exact a_at); (exact a_blit); exact rfl; (focus (simp [Value.oneCell']; done))) | (apply R.buildSlice0; exact rfl; intro bz) | (apply R.box; exact rfl; (simp only [Value.cells]; rfl); exact rfl; intro bx) | (apply R.alloc; (simp only [Value.cells]; rfl); exact rfl; intro ba) | (apply R.buildSlice; (exact a_prt); exact rfl; exact rfl; (exact a_fills); exact rfl; intro bl)) | (first | (apply R.guardT; assumption; exact rfl; exact rfl; exact rfl) | (apply R.guardF; assumption; exact rfl; exact rfl; exact rfl; exact rfl; exact rfl) | (apply R.guardU; assumption; exact rfl; exact rfl; exact rfl; exact rfl) | (apply R.guardDec; assumption; exact rfl; exact rfl; (intro h; skip; rotate_left; intro h; skip; rotate_left)) | (apply R.guardBeq; assumption; exact rfl; exact rfl; (intro h; skip; rotate_left; intro h; skip; rotate_left)) | (apply R.guardBne; assumption; exact rfl; exact rfl; (intro h; skip; rotate_left; intro h; skip; rotate_left)) | (apply R.guardNDec; assumption; exact rfl; exact rfl; (intro h; skip; rotate_left; intro h; skip; rotate_left)) | (apply R.guardNot; assumption; exact rfl; exact rfl; (intro h; skip; rotate_left; intro h; skip; rotate_left)) | (apply R.guardC; assumption; exact rfl; exact rfl; (intro h; skip; rotate_left; intro h; skip; rotate_left))) | (first | (apply C.condT; exact rfl) | (apply C.condF; exact rfl) | (apply C.condDec; exact rfl; (intro h; skip; rotate_left; intro h; skip; rotate_left)) | (apply C.condBeq; exact rfl; (intro h; skip; rotate_left; intro h; skip; rotate_left)) | (apply C.condBne; exact rfl; (intro h; skip; rotate_left; intro h; skip; rotate_left)) | (apply C.condNDec; exact rfl; (intro h; skip; rotate_left; intro h; skip; rotate_left)) | (apply C.condNot; exact rfl; (intro h; skip; rotate_left; intro h; skip; rotate_left)) | (apply C.cond; exact rfl; (intro h; skip; rotate_left; intro h; skip; rotate_left)))))
    · have hlt2 : jj < (l.length : Int) := by assumption
      have hja : j < l.length := by omega
      obtain ⟨b', o', c', e', fr', hA', hMb', hcb'⟩ := PlN.at_ h3 hja
      cases hA'
      have e3 : Unit → o + jj.toNat * 1 = o + j := fun _ => by omega
      have hk7' := hmem _ (List.getElem_mem hja)
      have hsn := rcnt_snoc (ms := ms) (v := ms.getD y 0) hja
      rw [← hn] at hsn
      obtain ⟨u, hu⟩ : ∃ u, l[j] = u := ⟨_, rfl⟩
      rw [hu] at hcb' hk7' hsn
      (apply C.regionO (ks := [true, true, true, true, true, true, true, true, true, true, true, true, true, true, true, true, true, true, true, true, true, true, true, true]) (is := [0, 1, 2, 3, 4, 5, 6, 7, 8, 9, 10, 11, 12, 13, 14, 15, 16, 17, 18, 19, 20, 21, 22, 23]) (Hs := []); exact Mix.h; (first | exact Arr.all _ | (exact a_arr)); (exact a_np); (exact a_picked); kernel_rfl; intro _ e; subst e)
      (repeat' (first | (apply RP.step; intro _ _ _; (apply Ok.move; exact rfl); exact rfl) | (apply RP.step; intro _ _ hM; (first | (apply Ok.indexAddr; exact rfl; exact rfl; omega; omega) | (apply Ok.loadP; exact rfl; exact rfl; exact hM.2.2 _ _ hMb'; rw [e3 ()]; exact hcb')); exact rfl) | (first | (apply RP.step; intro _ _ _; (exact a_ok); exact rfl) | (apply RP.stepT; exact rfl; exact rfl; exact rfl; intro _ _ _; (exact a_ok); exact rfl) | (apply RP.stepF; exact rfl; exact rfl; exact rfl; exact rfl; exact rfl) | (apply RP.effF; exact rfl; exact rfl; exact rfl; exact rfl; exact rfl)) | (apply RP.callQ; (exact a_evs); exact rfl)))
      apply RP.case 38; exact rfl
      · intro hb
        have hul : u < ms.length := by
          have := of_decide_eq_true hb
          omega
        clear hb
        obtain ⟨bm', om', cm', em', fm', hB', hMm', hcm'⟩ := hpm.get (uvget hul)
        cases hB'
        have e4 : Unit → om + (u : Int).toNat * 1 = om + u := fun _ => by omega
        (repeat' (first | (apply RP.step; intro _ _ _; (apply Ok.move; exact rfl); exact rfl) | (apply RP.stepT; exact rfl; exact rfl; exact rfl; intro _ _ hM; (first | (apply Ok.indexAddr; exact rfl; exact rfl; omega; omega) | (apply Ok.loadP; exact rfl; exact rfl; exact hM.2.2 _ _ hMb'; rw [e3 ()]; exact hcb') | (apply Ok.loadP; exact rfl; exact rfl; exact hM.2.2 _ _ hMb; rw [e1 ()]; exact hcb) | (apply Ok.loadP; exact rfl; exact rfl; exact hM.2.2 _ _ hMm'; rw [e4 ()]; exact hcm') | (apply Ok.loadP; exact rfl; exact rfl; exact hM.2.2 _ _ hMm; rw [e2 ()]; exact hcm)); exact rfl) | (first | (apply RP.step; intro _ _ _; (exact a_ok); exact rfl) | (apply RP.stepT; exact rfl; exact rfl; exact rfl; intro _ _ _; (exact a_ok); exact rfl) | (apply RP.stepF; exact rfl; exact rfl; exact rfl; exact rfl; exact rfl) | (apply RP.effF; exact rfl; exact rfl; exact rfl; exact rfl; exact rfl)) | (apply RP.callQ; (exact a_evs); exact rfl)))
        apply RP.nil
        (repeat' (first | (apply R.step; (exact a_ok); exact rfl) | (first | (with_reducible first | apply R.nil | apply C.ret | apply C.block | apply C.skip | apply C.exit | apply Fin.thenRet | apply Fin.thenExit | apply Fin.blockNormal | apply Fin.blockRet | apply Fin.blockExit) | (with_reducible apply Fin.thenK; assumption) | (with_reducible apply C.seqK; intro _ _) | (with_reducible apply C.regionK; intro _ _) | (with_reducible apply Fin.blockOther; exact rfl)) | (first | (apply R.store; exact rfl; exact rfl; exact rfl; (exact a_at); (exact a_blit); exact rfl; (focus (simp [Value.oneCell']; done))) | (apply R.buildSlice0; exact rfl; intro bz) | (apply R.box; exact rfl; (simp only [Value.cells]; rfl); exact rfl; intro bx) | (apply R.alloc; (simp only [Value.cells]; rfl); exact rfl; intro ba) | (apply R.buildSlice; (exact a_prt); exact rfl; exact rfl; (exact a_fills); exact rfl; intro bl)) | (first | (apply R.guardT; assumption; exact rfl; exact rfl; exact rfl) | (apply R.guardF; assumption; exact rfl; exact rfl; exact rfl; exact rfl; exact rfl) | (apply R.guardU; assumption; exact rfl; exact rfl; exact rfl; exact rfl) | (apply R.guardDec; assumption; exact rfl; exact rfl; (intro h; skip; rotate_left; intro h; skip; rotate_left)) | (apply R.guardBeq; assumption; exact rfl; exact rfl; (intro h; skip; rotate_left; intro h; skip; rotate_left)) | (apply R.guardBne; assumption; exact rfl; exact rfl; (intro h; skip; rotate_left; intro h; skip; rotate_left)) | (apply R.guardNDec; assumption; exact rfl; exact rfl; (intro h; skip; rotate_left; intro h; skip; rotate_left)) | (apply R.guardNot; assumption; exact rfl; exact rfl; (intro h; skip; rotate_left; intro h; skip; rotate_left)) | (apply R.guardC; assumption; exact rfl; exact rfl; (intro h; skip; rotate_left; intro h; skip; rotate_left))) | (first | (apply C.condT; exact rfl) | (apply C.condF; exact rfl) | (apply C.condDec; exact rfl; (intro h; skip; rotate_left; intro h; skip; rotate_left)) | (apply C.condBeq; exact rfl; (intro h; skip; rotate_left; intro h; skip; rotate_left)) | (apply C.condBne; exact rfl; (intro h; skip; rotate_left; intro h; skip; rotate_left)) | (apply C.condNDec; exact rfl; (intro h; skip; rotate_left; intro h; skip; rotate_left)) | (apply C.condNot; exact rfl; (intro h; skip; rotate_left; intro h; skip; rotate_left)) | (apply C.cond; exact rfl; (intro h; skip; rotate_left; intro h; skip; rotate_left)))))
        · have hc : (ms.getD u 0 : Int) ≥ (ms.getD y 0 : Nat) := by assumption
          refine Fin.again (⟨j + 1, jj + 1, n + 1⟩ : RmX) ⟨by dsimp only; omega, by dsimp only; omega, by dsimp only; rw [hsn, if_pos ⟨hul, by omega⟩]⟩ (by dsimp only; omega) ?_ rfl rfl
          dsimp only
          (exact a_subs)
        · have hc : ¬ (ms.getD u 0 : Int) ≥ (ms.getD y 0 : Nat) := by assumption
          refine Fin.again (⟨j + 1, jj + 1, n⟩ : RmX) ⟨by dsimp only; omega, by dsimp only; omega, by dsimp only; rw [hsn, if_neg (fun h => hc (by omega))]; rfl⟩ (by dsimp only; omega) ?_ rfl rfl
          dsimp only
          (exact a_subs)
      · intro hb
        have hul : ¬ u < ms.length := by
          have := of_decide_eq_false hb
          omega
        clear hb
        (repeat' (first | (first | (apply RP.step; intro _ _ _; (exact a_ok); exact rfl) | (apply RP.stepT; exact rfl; exact rfl; exact rfl; intro _ _ _; (exact a_ok); exact rfl) | (apply RP.stepF; exact rfl; exact rfl; exact rfl; exact rfl; exact rfl) | (apply RP.effF; exact rfl; exact rfl; exact rfl; exact rfl; exact rfl)) | (apply RP.callQ; (exact a_evs); exact rfl)))
        apply RP.nil
        (repeat' (first | (apply R.step; (exact a_ok); exact rfl) | (first | (with_reducible first | apply R.nil | apply C.ret | apply C.block | apply C.skip | apply C.exit | apply Fin.thenRet | apply Fin.thenExit | apply Fin.blockNormal | apply Fin.blockRet | apply Fin.blockExit) | (with_reducible apply Fin.thenK; assumption) | (with_reducible apply C.seqK; intro _ _) | (with_reducible apply C.regionK; intro _ _) | (with_reducible apply Fin.blockOther; exact rfl)) | (first | (apply R.store; exact rfl; exact rfl; exact rfl; (exact a_at); (exact a_blit); exact rfl; (focus (simp [Value.oneCell']; done))) | (apply R.buildSlice0; exact rfl; intro bz) | (apply R.box; exact rfl; (simp only [Value.cells]; rfl); exact rfl; intro bx) | (apply R.alloc; (simp only [Value.cells]; rfl); exact rfl; intro ba) | (apply R.buildSlice; (exact a_prt); exact rfl; exact rfl; (exact a_fills); exact rfl; intro bl)) | (first | (apply R.guardT; assumption; exact rfl; exact rfl; exact rfl) | (apply R.guardF; assumption; exact rfl; exact rfl; exact rfl; exact rfl; exact rfl) | (apply R.guardU; assumption; exact rfl; exact rfl; exact rfl; exact rfl) | (apply R.guardDec; assumption; exact rfl; exact rfl; (intro h; skip; rotate_left; intro h; skip; rotate_left)) | (apply R.guardBeq; assumption; exact rfl; exact rfl; (intro h; skip; rotate_left; intro h; skip; rotate_left)) | (apply R.guardBne; assumption; exact rfl; exact rfl; (intro h; skip; rotate_left; intro h; skip; rotate_left)) | (apply R.guardNDec; assumption; exact rfl; exact rfl; (intro h; skip; rotate_left; intro h; skip; rotate_left)) | (apply R.guardNot; assumption; exact rfl; exact rfl; (intro h; skip; rotate_left; intro h; skip; rotate_left)) | (apply R.guardC; assumption; exact rfl; exact rfl; (intro h; skip; rotate_left; intro h; skip; rotate_left))) | (first | (apply C.condT; exact rfl) | (apply C.condF; exact rfl) | (apply C.condDec; exact rfl; (intro h; skip; rotate_left; intro h; skip; rotate_left)) | (apply C.condBeq; exact rfl; (intro h; skip; rotate_left; intro h; skip; rotate_left)) | (apply C.condBne; exact rfl; (intro h; skip; rotate_left; intro h; skip; rotate_left)) | (apply C.condNDec; exact rfl; (intro h; skip; rotate_left; intro h; skip; rotate_left)) | (apply C.condNot; exact rfl; (intro h; skip; rotate_left; intro h; skip; rotate_left)) | (apply C.cond; exact rfl; (intro h; skip; rotate_left; intro h; skip; rotate_left)))))
        refine Fin.again (⟨j + 1, jj + 1, n⟩ : RmX) ⟨by dsimp only; omega, by dsimp only; omega, by dsimp only; rw [hsn, if_neg (fun h => hul h.1)]; rfl⟩ (by dsimp only; omega) ?_ rfl rfl
        dsimp only
        (exact a_subs)
    all_goals have hjge : ¬ jj < (l.length : Int) := by assumption
    all_goals rw [List.take_of_length_le (by omega)] at hn
    · have h2n : (l.length : Int) < 2 * (n : Int) := by assumption
      (repeat' (first | (apply R.step; (apply Ok.move; exact rfl); exact rfl) | (apply R.step; (first | (apply Ok.indexAddr; exact rfl; exact rfl; omega; omega) | (apply Ok.loadP; exact rfl; exact rfl; exact hMb; rw [e1 ()]; exact hcb) | (apply Ok.loadP; exact rfl; exact rfl; exact hMm; rw [e2 ()]; exact hcm)); exact rfl) | (apply R.step; (exact a_ok); exact rfl) | (first | (with_reducible first | apply R.nil | apply C.ret | apply C.block | apply C.skip | apply C.exit | apply Fin.thenRet | apply Fin.thenExit | apply Fin.blockNormal | apply Fin.blockRet | apply Fin.blockExit) | (with_reducible apply Fin.thenK; assumption) | (with_reducible apply C.seqK; intro _ _) | (with_reducible apply C.regionK; intro _ _) | (with_reducible apply Fin.blockOther; exact rfl)) | (first | (apply R.store; exact rfl; exact rfl; exact rfl; (exact a_at); (exact a_blit); exact rfl; (focus (simp [Value.oneCell']; done))) | (apply R.buildSlice0; exact rfl; intro bz) | (apply R.box; exact rfl; (simp only [Value.cells]; rfl); exact rfl; intro bx) | (apply R.alloc; (simp only [Value.cells]; rfl); exact rfl; intro ba) | (apply R.buildSlice; (exact a_prt); exact rfl; exact rfl; (exact a_fills); exact rfl; intro bl)) | (first | (apply R.guardT; assumption; exact rfl; exact rfl; exact rfl) | (apply R.guardF; assumption; exact rfl; exact rfl; exact rfl; exact rfl; exact rfl) | (apply R.guardU; assumption; exact rfl; exact rfl; exact rfl; exact rfl) | (apply R.guardDec; assumption; exact rfl; exact rfl; (intro h; skip; rotate_left; intro h; skip; rotate_left)) | (apply R.guardBeq; assumption; exact rfl; exact rfl; (intro h; skip; rotate_left; intro h; skip; rotate_left)) | (apply R.guardBne; assumption; exact rfl; exact rfl; (intro h; skip; rotate_left; intro h; skip; rotate_left)) | (apply R.guardNDec; assumption; exact rfl; exact rfl; (intro h; skip; rotate_left; intro h; skip; rotate_left)) | (apply R.guardNot; assumption; exact rfl; exact rfl; (intro h; skip; rotate_left; intro h; skip; rotate_left)) | (apply R.guardC; assumption; exact rfl; exact rfl; (intro h; skip; rotate_left; intro h; skip; rotate_left))) | (first | (apply C.condT; exact rfl) | (apply C.condF; exact rfl) | (apply C.condDec; exact rfl; (intro h; skip; rotate_left; intro h; skip; rotate_left)) | (apply C.condBeq; exact rfl; (intro h; skip; rotate_left; intro h; skip; rotate_left)) | (apply C.condBne; exact rfl; (intro h; skip; rotate_left; intro h; skip; rotate_left)) | (apply C.condNDec; exact rfl; (intro h; skip; rotate_left; intro h; skip; rotate_left)) | (apply C.condNot; exact rfl; (intro h; skip; rotate_left; intro h; skip; rotate_left)) | (apply C.cond; exact rfl; (intro h; skip; rotate_left; intro h; skip; rotate_left)))))
      · have hgt : (best : Int) < (ms.getD y 0 : Nat) := by assumption
        have h0 : 0 < ms.getD y 0 := by omega
        have hc : l.length < 2 * cnt (l.map fun a => ms.getD a 0) (ms.getD y 0) := by rw [← rcnt_eq h0, ← hn]; omega
        refine Fin.again (⟨i + 1, ii + 1, ms.getD y 0⟩ : RmX) (hnext (ms.getD y 0) (.inr hc) (by omega) (fun _ => Nat.le_refl _)) (by dsimp only; omega) ?_ rfl rfl
        dsimp only
        (exact a_subs)
      · have hgt : ¬ (best : Int) < (ms.getD y 0 : Nat) := by assumption
        refine Fin.again (⟨i + 1, ii + 1, best⟩ : RmX) (hnext best hb1 (Nat.le_refl _) (fun _ => by omega)) (by dsimp only; omega) ?_ rfl rfl
        dsimp only
        (exact a_subs)
    · have h2n : ¬ (l.length : Int) < 2 * (n : Int) := by assumption
      refine Fin.again (⟨i + 1, ii + 1, best⟩ : RmX) (hnext best hb1 (Nat.le_refl _) (fun hc => ?_)) (by dsimp only; omega) ?_ rfl rfl
      · rcases Nat.eq_zero_or_pos (ms.getD y 0) with h0 | h0
        · omega
        · rw [← rcnt_eq h0, ← hn] at hc
          omega
      · dsimp only
        (exact a_subs)
  · have hge : ¬ ii < (l.length : Int) := by assumption
    rw [List.take_of_length_le (by omega)] at hb2
    (repeat' (first | (apply R.step; (exact a_ok); exact rfl) | (first | (with_reducible first | apply R.nil | apply C.ret | apply C.block | apply C.skip | apply C.exit | apply Fin.thenRet | apply Fin.thenExit | apply Fin.blockNormal | apply Fin.blockRet | apply Fin.blockExit) | (with_reducible apply Fin.thenK; assumption) | (with_reducible apply C.seqK; intro _ _) | (with_reducible apply C.regionK; intro _ _) | (with_reducible apply Fin.blockOther; exact rfl)) | (first | (apply R.store; exact rfl; exact rfl; exact rfl; (exact a_at); (exact a_blit); exact rfl; (focus (simp [Value.oneCell']; done))) | (apply R.buildSlice0; exact rfl; intro bz) | (apply R.box; exact rfl; (simp only [Value.cells]; rfl); exact rfl; intro bx) | (apply R.alloc; (simp only [Value.cells]; rfl); exact rfl; intro ba) | (apply R.buildSlice; (exact a_prt); exact rfl; exact rfl; (exact a_fills); exact rfl; intro bl)) | (first | (apply R.guardT; assumption; exact rfl; exact rfl; exact rfl) | (apply R.guardF; assumption; exact rfl; exact rfl; exact rfl; exact rfl; exact rfl) | (apply R.guardU; assumption; exact rfl; exact rfl; exact rfl; exact rfl) | (apply R.guardDec; assumption; exact rfl; exact rfl; (intro h; skip; rotate_left; intro h; skip; rotate_left)) | (apply R.guardBeq; assumption; exact rfl; exact rfl; (intro h; skip; rotate_left; intro h; skip; rotate_left)) | (apply R.guardBne; assumption; exact rfl; exact rfl; (intro h; skip; rotate_left; intro h; skip; rotate_left)) | (apply R.guardNDec; assumption; exact rfl; exact rfl; (intro h; skip; rotate_left; intro h; skip; rotate_left)) | (apply R.guardNot; assumption; exact rfl; exact rfl; (intro h; skip; rotate_left; intro h; skip; rotate_left)) | (apply R.guardC; assumption; exact rfl; exact rfl; (intro h; skip; rotate_left; intro h; skip; rotate_left))) | (first | (apply C.condT; exact rfl) | (apply C.condF; exact rfl) | (apply C.condDec; exact rfl; (intro h; skip; rotate_left; intro h; skip; rotate_left)) | (apply C.condBeq; exact rfl; (intro h; skip; rotate_left; intro h; skip; rotate_left)) | (apply C.condBne; exact rfl; (intro h; skip; rotate_left; intro h; skip; rotate_left)) | (apply C.condNDec; exact rfl; (intro h; skip; rotate_left; intro h; skip; rotate_left)) | (apply C.condNot; exact rfl; (intro h; skip; rotate_left; intro h; skip; rotate_left)) | (apply C.cond; exact rfl; (intro h; skip; rotate_left; intro h; skip; rotate_left)))))
    (refine Fin.rt ?_)
    exact ⟨⟨best, rfl, by rw [hvals]; exact idx_end hb1 hb2⟩, hM1, rfl⟩
end Go.Sx
