/-
  From a law's contract to its row; arguments read as data.
-/
import Derived.Test.YtmimdoggljemjaaSxF
import Derived.ProofKit
import Derived.OpenShut
import Derived.SizedLaws
import Derived.ChangeOld
import Derived.WideKeyArgs
import Derived.ChangeArms
namespace Go.Sx
open Go.ChangeShapes Go.WideShapes Go.ChangeAt Go.RowKit

def Mem.of (W : World) : Mem := ⟨W.os, W.output, fun b => W.heap[b]?⟩
theorem Heap.of_ (W : World) : Heap W (Mem.of W) [] := ⟨rfl, rfl, fun _ _ h => h, by simp, by simp, by simp⟩
structure Kept (W W' : World) : Prop where
  os : W'.os = W.os
  out : W'.output = W.output
  block : ∀ k, k < W.heap.size → W'.heap[k]? = W.heap[k]?
theorem Kept.of_ {W W' : World} {M' : Mem} {H' : Hp} (h : Heap W' M' H') (hM : (Mem.of W).le M') : Kept W W' := by
  refine ⟨h.os.trans hM.1, h.out.trans hM.2.1, fun k hk => ?_⟩
  have h1 : (Mem.of W).at_ k = some W.heap[k] := Array.getElem?_eq_getElem hk
  rw [h.pool k _ (hM.2.2 _ _ h1)]
  exact h1.symm
theorem Kept.frame {W W' : World} (h : Kept W W') (may : MemPlace → Prop) : W.keptBut W' may := by
  refine ⟨h.os, h.out, fun i hi => ?_⟩
  rw [h.block i hi]
  split <;> simp_all
theorem Kept.same {W W' : World} (h : Kept W W') {p : MemPlace} (hp : p.block < W.heap.size) : W.sameAt W' p := by
  cases p with
  | cell b o => exact World.cell?_of_block (w := W) (h.block b hp)
  | map b => exact h.block b hp

section
variable {H : Type} {enc : TypeId × Value → H} {P : Program}
theorem trodAll_kept (hl : laidOutB P = true) {W W' : World} (hk : Kept W W') : ∀ (ts : List TypeId) (vs : List Value) (ds : List (DataW H)) (ps : List MemPlace), (∀ t ∈ ts, P.readableRec t = true ∧ t < P.types.size) →
    DataW.TrodAll enc P W 0 (fun _ => true) true ts vs ds ps → (∀ x ∈ ps, x.block < W.heap.size) → DataW.TrodAll enc P W' 0 (fun b => decide (b < W.heap.size)) true ts vs ds ps
  | [], vs, ds, ps, _, h, _ => by
    obtain ⟨rfl, rfl, rfl⟩ := trodAll_nil h
    exact trodAll_mk0
  | t :: ts, vs, ds, ps, ht, h, hlt => by
    obtain ⟨v, vs', d, ds', p, q, rfl, rfl, rfl, h0, h1⟩ := trodAll_cons h
    obtain ⟨r1, r2⟩ := ht t (List.mem_cons_self ..)
    refine trodAll_cons_mk (WideElems.Trod_stays hl r1 r2 h0 (fun x hx => hk.same (hlt x (List.mem_append_left _ hx))) (fun x hx => by simpa using hlt x (List.mem_append_left _ hx))) ?_
    exact trodAll_kept hl hk ts vs' ds' q (fun t' ht' => ht t' (List.mem_cons_of_mem _ ht')) h1 (fun x hx => hlt x (List.mem_append_right _ hx))
theorem law_post {f : Func} {s : ChangeSpec} {W W' : World} {args : Array Value} {ds gs : List (DataW H)} {before : List MemPlace} {tb : TypeId}
    (hW : DataW.Whole enc P f.params.toList s.vars false W args.toList ds gs before) (hv : s.vars = []) (hfn : ∀ ds, ds.length = f.params.size → s.fn H ds = { results := [.lit (.bool true)], args := ds }) (hk : Kept W W') (hl : laidOutB P = true)
    (hr : ∀ t ∈ f.params.toList, P.readableRec t = true ∧ t < P.types.size) (ht : f.resultTypes = #[tb]) (hub : P.underlying tb = some .bool) :
    s.post enc P f false true false false W args (.bool true) W' := by
  have hW' := hW
  have hlt : ∀ p ∈ before, p.block < W.heap.size := fun p hp => hW.lt p hp
  obtain ⟨p, q, hA, hV, rfl, hfz, hnd⟩ := hW
  rw [hv] at hV
  obtain ⟨rfl, rfl⟩ := trodVars_none hV
  have hlen : ∀ (ts : List TypeId) (vs : List Value) (ds : List (DataW H)) (p : List MemPlace), DataW.TrodAll enc P W 0 (fun _ => true) true ts vs ds p → ds.length = ts.length := by
    intro ts
    induction ts with
    | nil => intro vs ds p h; obtain ⟨_, rfl, _⟩ := trodAll_nil h; rfl
    | cons t ts ih =>
      intro vs ds p h
      obtain ⟨v, vs', d, ds', p, q, rfl, rfl, rfl, h0, h1⟩ := trodAll_cons h
      simp [ih _ _ _ h1]
  have hf := hfn ds (by rw [hlen _ _ _ _ hA]; simp)
  simp only [List.append_nil] at hW' hlt
  have e : s.fn H (ds ++ []) = { results := [.lit (.bool true)], args := ds } := by rw [List.append_nil]; exact hf
  refine ⟨ds, [], p, [], p, [], hW', ?_, ?_, ?_, ?_, fun h => by cases h⟩
  · rw [e, ht]
    exact trodAll_mk1 (shut_bool hub _)
  · rw [e]
    exact trodAll_kept hl hk _ _ _ _ hr hA hlt
  · rw [hv, e]
    rfl
  · exact hk.frame _
end

/-! arguments -/
section
variable {H : Type} {enc : TypeId × Value → H} {P : Program} {W : World} {n : Nat} {t : TypeId} {cs : List Value} {x : DataW H × List MemPlace}
/-- what a reading tells, and how much it weighs -/
abbrev Trd (enc : TypeId × Value → H) (P : Program) (W : World) (n : Nat) (t : TypeId) (cs : List Value) (x : DataW H × List MemPlace) : Prop := DataW.trod enc P W 0 (fun _ => true) true n t cs = some x
abbrev Wgt (P : Program) (t : TypeId) (d : DataW H) : Prop := ∀ z ∈ DataW.weights P t d, z ≤ reachBytes
theorem rd_int {k : IntKind} [hu : Und P t (.int k)] (h : Trd enc P W n t cs x) : ∃ z, cs = [.int k z] ∧ k.has z := by
  obtain ⟨z, e, _, hz⟩ := DataW.trod_int hu.h h
  refine ⟨z, e, ?_⟩
  simpa [Lit.wf, IntKind.has] using hz
theorem rd_bool [hu : Und P t .bool] (h : Trd enc P W n t cs x) : ∃ b, cs = [.bool b] := by
  obtain ⟨z, e, _⟩ := DataW.trod_bool hu.h h
  exact ⟨z, e⟩
theorem rd_string [hu : Und P t .string] (h : Trd enc P W n t cs x) (hw : Wgt P t x.1) : ∃ s : ByteArray, cs = [.string s] ∧ s.size ≤ 140737488351232 := by
  obtain ⟨z, e, rfl, hz⟩ := DataW.trod_string hu.h h
  refine ⟨z, e, ?_⟩
  have := hw z.data.toList.length (by simp [DataW.weights])
  exact this
theorem pl_of_cells {a : Addr} {xs : List Value} (h : ∀ (i : Nat) (u : Value), xs[i]? = some u → W.cell? (a.add i) = some u) : Pl (Mem.of W) (some a) xs := by
  cases xs with
  | nil => exact Pl.nil
  | cons u xs =>
    right
    have h0 := h 0 u rfl
    unfold World.cell? Addr.add at h0
    simp only [if_true] at h0
    obtain ⟨b, o, s⟩ := a
    cases s with
    | some k => cases hb : W.heap[b]? with
      | none => simp [hb] at h0
      | some ob => cases ob <;> simp [hb] at h0
    | none =>
      cases hb : W.heap[b]? with
      | none => simp [hb] at h0
      | some ob =>
        cases ob with
        | cells c e fr =>
          refine ⟨b, o, c, e, fr, rfl, hb, fun j v hj => ?_⟩
          have := h j v hj
          rw [Addr.add_lit] at this
          simpa [World.cell?, hb] using this
        | _ => simp [hb] at h0
theorem flatten_get {sz : Nat} : ∀ (css : List (List Value)) (_ : ∀ c ∈ css, c.length = sz) (i : Nat) (u : Value), css.flatten[i]? = some u → 0 < sz ∧ ∃ c, css[i / sz]? = some c ∧ c[i % sz]? = some u
  | [], _, i, u, h => by simp at h
  | c :: css, hl, i, u, h => by
    have hc := hl c (List.mem_cons_self ..)
    simp only [List.flatten_cons] at h
    by_cases hi : i < c.length
    · rw [List.getElem?_append_left hi] at h
      refine ⟨by omega, c, ?_, ?_⟩
      · rw [Nat.div_eq_of_lt (by omega)]; rfl
      · rw [Nat.mod_eq_of_lt (by omega)]; exact h
    · rw [List.getElem?_append_right (by omega)] at h
      obtain ⟨h0, c', h1, h2⟩ := flatten_get css (fun c h => hl c (List.mem_cons_of_mem _ h)) _ u h
      rw [hc] at h1 h2
      refine ⟨h0, c', ?_, ?_⟩
      · have : i / sz = (i - sz) / sz + 1 := by
          rw [← Nat.add_div_right _ h0, Nat.sub_add_cancel (by omega)]
        rw [this]; simpa using h1
      · rw [Nat.mod_eq_sub_mod (by omega)]; exact h2
theorem rd_slice {e : TypeId} {sz by_ : Nat} {z : Value} [hu : Und P t (.slice e)] [hi : Inf P e sz by_ z] (h : Trd enc P W n t cs x) (hw : Wgt P t x.1) :
    ∃ (A : Option Addr) (css : List (List Value)) (cap : Nat), cs = [.slice A css.length cap] ∧ css.length ≤ cap ∧ Pl (Mem.of W) A css.flatten ∧ cap * by_ ≤ 140737488351232 ∧
      (∀ c ∈ css, c.length = sz ∧ ∃ m y, Trd enc P W m e c y ∧ Wgt P e y.1) := by
  have hc : P.cellsOf e = sz := by
    obtain ⟨i, h1, h2, _, _⟩ := hi.h
    simp [Program.cellsOf, h1, h2]
  have hb : P.bytesOf e = by_ := by
    obtain ⟨i, h1, _, h2, _⟩ := hi.h
    simp [Program.bytesOf, h1, h2]
  rcases DataW.trod_slice hu.h h with ⟨rfl, rfl⟩ | ⟨a, len, cap, elems, rest, n, _, rfl, rfl, _, hl, hm, hlen, hel, hsp, _⟩
  · exact ⟨none, [], 0, rfl, Nat.le_refl _, Pl.nil, by omega, by simp⟩
  obtain ⟨hr, -⟩ := hsp rfl
  have hwt : cap * by_ ≤ 140737488351232 := by
    have := hw ((elems.length + rest.length) * P.bytesOf e) (by simp [DataW.weights, hu.h])
    rw [hb, hlen, hr, show len + (cap - len) = cap by omega] at this
    exact this
  have hex : ∀ i, i < len → ∃ c y, elems[i]? = some y ∧ W.cells? 0 (a.add (i * sz)) sz = some c ∧ Trd enc P W n e c y := by
    intro i hi'
    have h1 := hel i hi'
    rw [hc, List.getElem?_eq_getElem (by omega), Option.bind_eq_some_iff] at h1
    obtain ⟨c, h2, h3⟩ := h1
    exact ⟨c, _, List.getElem?_eq_getElem (by omega), h2, h3⟩
  have hcs : ∃ css : List (List Value), css.length = len ∧ ∀ i, i < len → ∃ c y, css[i]? = some c ∧ elems[i]? = some y ∧ W.cells? 0 (a.add (i * sz)) sz = some c ∧ Trd enc P W n e c y := by
    refine ⟨(List.range len).map fun i => ((W.cells? 0 (a.add (i * sz)) sz).getD []), by simp, fun i hi' => ?_⟩
    obtain ⟨c, y, h1, h2, h3⟩ := hex i hi'
    exact ⟨c, y, by simp [hi', h2], h1, h2, h3⟩
  obtain ⟨css, rfl, hcss⟩ := hcs
  have hall : ∀ c ∈ css, c.length = sz ∧ ∃ m y, Trd enc P W m e c y ∧ Wgt P e y.1 := by
    intro c hc'
    obtain ⟨i, hi', rfl⟩ := List.getElem_of_mem hc'
    obtain ⟨c', y, h1, h2, h3, h4⟩ := hcss i hi'
    rw [List.getElem?_eq_getElem hi', Option.some.injEq] at h1
    subst h1
    refine ⟨(World.cells?_some h3).2.1, n, y, h4, fun z hz => hw z ?_⟩
    have hy : y.1 ∈ elems.map (·.1) := List.mem_map.2 ⟨y, List.mem_of_getElem? h2, rfl⟩
    have hin : ∀ (l : List (DataW H)), y.1 ∈ l → z ∈ DataW.weightsAll P e l := by
      intro l
      induction l with
      | nil => intro h; cases h
      | cons d l ih =>
        intro h
        simp only [DataW.weightsAll, List.mem_append]
        rcases List.mem_cons.1 h with rfl | h
        · exact .inl hz
        · exact .inr (ih h)
    simp [DataW.weights, hu.h, hin _ hy]
  refine ⟨some a, css, cap, rfl, hl, pl_of_cells fun i u hiu => ?_, hwt, hall⟩
  obtain ⟨h0, c, h1, h2⟩ := flatten_get css (fun c h => (hall c h).1) i u hiu
  obtain ⟨c', y, h3, _, h4, _⟩ := hcss (i / sz) (List.getElem?_eq_some_iff.1 h1).1
  rw [h1, Option.some.injEq] at h3
  subst h3
  have := (World.cells?_some h4).2.2 (i % sz) (Nat.mod_lt _ h0)
  rw [h2, Addr.add_add, Nat.div_add_mod' i sz] at this
  exact this
theorem byte_has {z : Int} (h : IntKind.u8.has z) : ∃ b : UInt8, bv b = .int .u8 z := by
  have h' : 0 ≤ z ∧ z ≤ 255 := by simpa [IntKind.has, IntKind.min, IntKind.max, IntKind.bits, IntKind.signed] using h
  refine ⟨UInt8.ofNat z.toNat, ?_⟩
  unfold bv
  congr 1
  rw [UInt8.toNat_ofNat']
  omega
theorem rd_bytes {e : TypeId} {z : Value} [hu : Und P t (.slice e)] [he : Und P e (.int .u8)] [hi : Inf P e 1 1 z] (h : Trd enc P W n t cs x) (hw : Wgt P t x.1) :
    ∃ (A : Option Addr) (bs : List UInt8) (cap : Nat), cs = [.slice A bs.length cap] ∧ bs.length ≤ cap ∧ Pl (Mem.of W) A (bs.map bv) ∧ cap ≤ 140737488351232 := by
  obtain ⟨A, css, cap, rfl, hl, hp, hc, hall⟩ := rd_slice (sz := 1) (by_ := 1) (z := z) h hw
  have : ∃ bs : List UInt8, css.length = bs.length ∧ css.flatten = bs.map bv := by
    clear hp hl hw h
    induction css with
    | nil => exact ⟨[], rfl, rfl⟩
    | cons c css ih =>
      obtain ⟨bs, h1, h2⟩ := ih (fun c h => hall c (List.mem_cons_of_mem _ h))
      obtain ⟨_, m, y, h3, _⟩ := hall c (List.mem_cons_self ..)
      obtain ⟨z, rfl, hz⟩ := rd_int h3
      obtain ⟨b, hb⟩ := byte_has hz
      exact ⟨b :: bs, by simp [h1], by simp [h2, ← hb]⟩
  obtain ⟨bs, h1, h2⟩ := this
  exact ⟨A, bs, cap, by rw [h1], by omega, h2 ▸ hp, by omega⟩
end
end Go.Sx
