/- What a base and entries read as. -/
import Derived.Test.YtcjijappnefgaaaR17
namespace Go.Sx
open Go.Proofs Go.RowKit Go.ChangeShapes Go.WideShapes Go.ChangeAt
section
variable {Hh : Type} {enc : TypeId × Value → Hh} {P : Program} {W : World} {m : Nat} {cs : List Value} {z : DataW Hh × List MemPlace} {t : TypeId} {v : Value} {d : DataW Hh} {ps : List MemPlace} {rc : Reach} {b : Nat}
theorem arg_struct {fs : Array Field} (hu : P.underlying t = some (.struct fs)) (hval : Value.okWide P W rc b t v) (h : DataW.Trod enc P W 0 (fun _ => true) true t v d ps) : ∃ cs m, v = .agg cs ∧ Trd enc P W m t cs.toList (d, ps) := by
  unfold Value.okWide at hval
  rw [hu] at hval
  obtain ⟨cs, rfl, _⟩ := hval
  obtain ⟨m, hm⟩ := h
  exact ⟨cs, m, rfl, hm⟩
theorem rd_base (h : Trd enc Try.prog W m 34 cs z) (hw : Wgt Try.prog 34 z.1) : ∃ b : Ba, cs = bcells b ∧ IntKind.u64.has b.idx ∧ IntKind.u64.has b.term ∧ IntKind.i64.has b.conf := by
  obtain ⟨hl, k, hf⟩ := rd_fields Try.underlying34 h hw
  rw [show Try.prog.cellsOf 34 = 3 by kernel_rfl] at hl
  obtain ⟨y0, h0, _⟩ := hf 0 24 0 1 rfl (by kernel_rfl)
  obtain ⟨y1, h1, _⟩ := hf 1 24 1 1 rfl (by kernel_rfl)
  obtain ⟨y2, h2, _⟩ := hf 2 3 2 1 rfl (by kernel_rfl)
  obtain ⟨a0, e0, w0⟩ := rd_int h0
  obtain ⟨a1, e1, w1⟩ := rd_int h1
  obtain ⟨a2, e2, w2⟩ := rd_int h2
  match cs, hl with
  | [x0, x1, x2], _ =>
    cases e0; cases e1; cases e2
    exact ⟨⟨a0, a1, a2⟩, rfl, w0, w1, w2⟩
theorem rd_en (h : Trd enc Try.prog W m 27 cs z) (hw : Wgt Try.prog 27 z.1) : ∃ (e : En) (A : Option Addr) (cap : Nat), cs = ecells e (.slice A e.data.length cap) ∧ Pl (Mem.of W) A (e.data.map bv) ∧ e.data.length ≤ cap ∧ cap ≤ 140737488351232 ∧ rng e := by
  obtain ⟨hl, k, hf⟩ := rd_fields Try.underlying27 h hw
  rw [show Try.prog.cellsOf 27 = 5 by kernel_rfl] at hl
  obtain ⟨y0, h0, _⟩ := hf 0 3 0 1 rfl (by kernel_rfl)
  obtain ⟨y1, h1, _⟩ := hf 1 24 1 1 rfl (by kernel_rfl)
  obtain ⟨y2, h2, _⟩ := hf 2 24 2 1 rfl (by kernel_rfl)
  obtain ⟨y3, h3, g3⟩ := hf 3 25 3 1 rfl (by kernel_rfl)
  obtain ⟨y4, h4, _⟩ := hf 4 3 4 1 rfl (by kernel_rfl)
  obtain ⟨a0, e0, w0⟩ := rd_int h0
  obtain ⟨a1, e1, w1⟩ := rd_int h1
  obtain ⟨a2, e2, w2⟩ := rd_int h2
  obtain ⟨A, bs, cap, e3, q1, q2, q3⟩ := rd_bytes h3 g3
  obtain ⟨a4, e4, w4⟩ := rd_int h4
  match cs, hl with
  | [x0, x1, x2, x3, x4], _ =>
    cases e0; cases e1; cases e2; cases e3; cases e4
    exact ⟨⟨a0, a1, a2, bs, a4⟩, A, cap, rfl, q2, q1, q3, w0, w1, w2, w4⟩
theorem rd_ens : ∀ (css : List (List Value)), (∀ c ∈ css, c.length = 5 ∧ ∃ m y, Trd enc Try.prog W m 27 c y ∧ Wgt Try.prog 27 y.1) → ∃ (es : List En) (vs : List Value), css = rowE es vs ∧ es.length = css.length ∧ PlV (Mem.of W) vs (es.map En.data) ∧ ∀ e ∈ es, rng e ∧ e.data.length ≤ 140737488351232
  | [], _ => ⟨[], [], rfl, rfl, PlV.nil, fun _ h => absurd h (List.not_mem_nil)⟩
  | c :: css, h => by
    obtain ⟨es, vs, h1, h2, h3, h4⟩ := rd_ens css (fun c hc => h c (List.mem_cons_of_mem _ hc))
    obtain ⟨_, m, y, h5, h6⟩ := h c (List.mem_cons_self ..)
    obtain ⟨e, A, cap, rfl, q1, q2, q3, q4⟩ := rd_en h5 h6
    refine ⟨e :: es, .slice A e.data.length cap :: vs, by rw [h1]; rfl, by simp [h2], ?_, ?_⟩
    · refine ⟨by simp [h3.1], fun i v l hv hl => ?_⟩
      cases i with
      | zero =>
        cases hv
        cases hl
        exact ⟨A, cap, rfl, q2, by omega, q1⟩
      | succ i => exact h3.2 i v l hv hl
    · intro x hx
      rcases List.mem_cons.1 hx with rfl | hx
      · exact ⟨q4, by omega⟩
      · exact h4 x hx
theorem arg_ens {A : Option Addr} {css : List (List Value)} {cap : Nat} (hl : css.length ≤ cap) (hp : Pl (Mem.of W) A css.flatten) (hc : cap * 56 ≤ 140737488351232) (hall : ∀ c ∈ css, c.length = 5 ∧ ∃ m y, Trd enc Try.prog W m 27 c y ∧ Wgt Try.prog 27 y.1) :
    ∃ es : List En, es.length = css.length ∧ EnL (Mem.of W) (.slice A css.length cap) es ∧ (∀ e ∈ es, e.data.length ≤ 140737488351232) ∧ ∀ e ∈ es, rng e := by
  obtain ⟨es, vs, h1, h2, h3, h4⟩ := rd_ens css hall
  refine ⟨es, h2, ⟨A, cap, vs, by rw [h2], by omega, by omega, by rw [← h1]; exact hp, h3⟩, fun e he => (h4 e he).2, fun e he => (h4 e he).1⟩
end
end Go.Sx
