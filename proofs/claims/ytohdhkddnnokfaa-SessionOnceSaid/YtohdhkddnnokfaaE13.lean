/- SessionOnce. -/
import Derived.Test.YtohdhkddnnokfaaE12
namespace Go.Sx
open Go Go.Proofs Go.RowKit Go.ChangeShapes Go.WideShapes Go.ChangeAt
instance : Und Try.prog 46 (.array 6 29) := ⟨Try.underlying46⟩
instance : Inf Try.prog 46 6 144 (.agg #[.slice none 0 0, .slice none 0 0, .slice none 0 0, .slice none 0 0, .slice none 0 0, .slice none 0 0]) := Inf.of (by kernel_rfl)
/-- an element of an array, by its place -/
theorem Ok.indexArr {P : Program} {d : Option Tmp} {ty : TypeId} {pos : String} {af : Array Edge} {g : Option (Nat × Bool)} {L : Sl} {M : Mem} {H : Hp} {t e n sz by_ b o : Nat} {z : Value} {x ix : Operand} {k : IntKind} {i : Int} [hs : Und P t (.array n e)] [hi : Inf P e sz by_ z] (hx : ev L x = some (.pointer (some ⟨b, o, none⟩))) (hix : ev L ix = some (.int k i)) (h0 : 0 ≤ i) (h1 : i < n) :
    Ok P ⟨d, .indexAddr t x ix, ty, pos, af, g⟩ L M H (.pointer (some ⟨b, o + i.toNat * sz, none⟩)) := fun n D a w hf _ => by
  obtain ⟨inf, g1, g2, _, _⟩ := hi.h
  simp [execOp, Instr.indexAt, asIntOf, Instr.sureAddr, run_underlying hs.h, hf.ev hx, hf.ev hix, h0, h1, sizeOf, typeInfo, g1, g2, Addr.add_lit]
structure DRow where
  v : Value
  d : List Int
  hp : Hp
def rowsH (rows : List DRow) : Hp := (rows.map DRow.hp).flatten
def dOf (rows : List DRow) (k : Int) : List Int := ((rows[k.toNat]?).map DRow.d).getD []
def rowsOk (rows : List DRow) (N : Nat) : Prop := rows.length = 6 ∧ ∀ r ∈ rows, r.d.length ≤ N ∧ Own 26 1 r.v r.d.length (r.d.map uV) r.hp
def OnP (M : Mem) (rows : List DRow) (id : Int) (s : Ses) : Prop := s.ok M ∧ 1 ≤ id ∧ id ≤ 5 ∧ s.x.sq = ((dOf rows id).length : Int) ∧ s.ks = lastK (dOf rows id)
def OnI (M : Mem) (L : List (Int × Ses)) (rows : List DRow) : Prop := ∀ p ∈ L, OnP M rows p.1 p.2
theorem OnI.put {M M' : Mem} {L L' : List (Int × Ses)} {rows rows' : List DRow} {id : Int} {s' : Ses} (h : OnI M L rows) (hM : M.le M') (hr : ∀ j, 1 ≤ j → j ≠ id → dOf rows' j = dOf rows j) (hL : ∀ p ∈ L', p = (id, s') ∨ (p.1 ≠ id ∧ p ∈ L)) (hs : OnP M' rows' id s') : OnI M' L' rows' := by
  intro p hp
  rcases hL p hp with rfl | ⟨h1, h2⟩
  · exact hs
  · obtain ⟨g1, g2, g3, g4, g5⟩ := h p h2
    exact ⟨g1.mono hM, g2, g3, by rw [hr _ g2 h1]; exact g4, by rw [hr _ g2 h1]; exact g5⟩
theorem OnI.mono {M M' : Mem} {L : List (Int × Ses)} {rows : List DRow} (h : OnI M L rows) (hM : M.le M') : OnI M' L rows := fun p hp => by
  obtain ⟨g1, g2⟩ := h p hp
  exact ⟨g1.mono hM, g2⟩
theorem OnI.oks {M : Mem} {L : List (Int × Ses)} {rows : List DRow} (h : OnI M L rows) : (∀ p ∈ L, p.2.ok M) ∧ ∀ p ∈ L, p.2.ks.length ≤ 1000000 := by
  refine ⟨fun p hp => (h p hp).1, fun p hp => ?_⟩
  obtain ⟨_, _, _, _, g5⟩ := h p hp
  rw [g5]
  have := (lastK_len (dOf rows p.1)).1
  omega
theorem dOf_set {rows : List DRow} {k : Nat} {r : DRow} {j : Int} (hj : 0 ≤ j) (hne : j ≠ (k : Int)) : dOf (rows.set k r) j = dOf rows j := by
  unfold dOf
  rw [List.getElem?_set_ne (by omega)]
theorem dOf_set_self {rows : List DRow} {k : Nat} {r : DRow} (h : k < rows.length) : dOf (rows.set k r) (k : Int) = r.d := by
  unfold dOf
  rw [Int.toNat_natCast, List.getElem?_set_self h]
  rfl
theorem dOf_at {rows : List DRow} {k : Nat} (h : k < rows.length) : dOf rows (k : Int) = rows[k].d := by
  unfold dOf
  rw [Int.toNat_natCast, List.getElem?_eq_getElem h]
  rfl
theorem rowsH_split {xs : List DRow} {i : Nat} (hi : i < xs.length) (y : DRow) : rowsH (xs.set i y) = rowsH (xs.take i) ++ (y.hp ++ rowsH (xs.drop (i + 1))) := by
  unfold rowsH
  rw [List.set_eq_take_append_cons_drop, if_pos hi, List.map_append, List.flatten_append, List.map_cons, List.flatten_cons]
theorem rowsH_at {xs : List DRow} {i : Nat} (hi : i < xs.length) : rowsH xs = rowsH (xs.take i) ++ (xs[i].hp ++ rowsH (xs.drop (i + 1))) := by
  have := rowsH_split hi xs[i]
  rwa [List.set_getElem_self] at this
theorem rowsOk.set {rows : List DRow} {N : Nat} {k : Nat} {r : DRow} (h : rowsOk rows N) (h1 : r.d.length ≤ N + 1) (h2 : Own 26 1 r.v r.d.length (r.d.map uV) r.hp) : rowsOk (rows.set k r) (N + 1) := by
  refine ⟨by rw [List.length_set]; exact h.1, fun q hq => ?_⟩
  rcases List.mem_or_eq_of_mem_set hq with hq | rfl
  · exact ⟨by have := (h.2 q hq).1; omega, (h.2 q hq).2⟩
  · exact ⟨h1, h2⟩
theorem rowsOk.more {rows : List DRow} {N : Nat} (h : rowsOk rows N) : rowsOk rows (N + 1) := ⟨h.1, fun q hq => ⟨by have := (h.2 q hq).1; omega, (h.2 q hq).2⟩⟩
section
variable {Hh : Type} {enc : TypeId × Value → Hh} {W : World} {m : Nat} {cs : List Value} {z : DataW Hh × List MemPlace}
def OnRow (c : List Value) : Prop := c.length = 10 ∧ ∃ w id sq : Int, c[0]? = some (.int .i64 w) ∧ c[1]? = some (.int .u64 id) ∧ c[2]? = some (.int .u64 sq) ∧ 0 ≤ id ∧ 0 ≤ sq
theorem rd_onRow (h : Trd enc Try.prog W m 48 cs z) (hw : Wgt Try.prog 48 z.1) : OnRow cs := by
  obtain ⟨hl, k, hf⟩ := rd_fields Try.underlying48 h hw
  rw [show Try.prog.cellsOf 48 = 10 by kernel_rfl] at hl
  obtain ⟨y0, h0, _⟩ := hf 0 3 0 1 rfl (by kernel_rfl)
  obtain ⟨y1, h1, _⟩ := hf 1 26 1 1 rfl (by kernel_rfl)
  obtain ⟨y2, h2, _⟩ := hf 2 26 2 1 rfl (by kernel_rfl)
  obtain ⟨a0, e0, w0⟩ := rd_int h0
  obtain ⟨a1, e1, w1⟩ := rd_int h1
  obtain ⟨a2, e2, w2⟩ := rd_int h2
  refine ⟨hl, a0, a1, a2, ?_⟩
  match cs, hl with
  | [x0, x1, x2, x3, x4, x5, x6, x7, x8, x9], _ =>
    cases e0; cases e1; cases e2
    exact ⟨rfl, rfl, rfl, (u64_bd w1).1, (u64_bd w2).1⟩
theorem rd_onRows : ∀ (css : List (List Value)), (∀ c ∈ css, c.length = 10 ∧ ∃ m y, Trd enc Try.prog W m 48 c y ∧ Wgt Try.prog 48 y.1) → ∀ c ∈ css, OnRow c
  | [], _ => fun _ h => absurd h List.not_mem_nil
  | c :: css, h => fun a ha => by
    rcases List.mem_cons.1 ha with rfl | ha
    · obtain ⟨_, m, y, h5, h6⟩ := h a (List.mem_cons_self ..)
      exact rd_onRow h5 h6
    · exact rd_onRows css (fun c hc => h c (List.mem_cons_of_mem _ hc)) a ha
end
theorem onRow_at {M : Mem} {A : Option Addr} {css : List (List Value)} {k : Nat} (hp : Pl M A css.flatten) (hl : ∀ c ∈ css, OnRow c) (hk : k < css.length) :
    ∃ b o c e fr, ∃ w id sq : Int, A = some ⟨b, o, none⟩ ∧ M.at_ b = some (.cells c e fr) ∧ c[o + k * 10 + 0]? = some (.int .i64 w) ∧ c[o + k * 10 + 1]? = some (.int .u64 id) ∧ c[o + k * 10 + 2]? = some (.int .u64 sq) ∧ 0 ≤ id ∧ 0 ≤ sq := by
  obtain ⟨_, w, id, sq, h1, h2, h3, h4, h5⟩ := hl css[k] (List.getElem_mem hk)
  have hfl : ∀ q u, css[k][q]? = some u → css.flatten[k * 10 + q]? = some u := fun q u hq => flat_get _ (fun c hc => (hl c hc).1) k q _ u (List.getElem?_eq_getElem hk) hq
  obtain ⟨b, o, c, e, fr, g1, g2, g3⟩ := hp.get (hfl 0 _ h1)
  have hmore : ∀ q u, css[k][q]? = some u → c[o + k * 10 + q]? = some u := fun q u hq => by
    obtain ⟨b', o', c', e', fr', g1', g2', g3'⟩ := hp.get (hfl q u hq)
    rw [g1] at g1'
    cases g1'
    rw [g2] at g2'
    cases g2'
    rw [Nat.add_assoc]
    exact g3'
  exact ⟨b, o, c, e, fr, w, id, sq, g1, g2, hmore 0 _ h1, hmore 1 _ h2, hmore 2 _ h3, h4, h5⟩
theorem askR_err (sq seq : Int) (ks : List KeV) : (askR sq seq ks).2.2 = 0 ∨ (askR sq seq ks).2.2 = 51 ∨ (askR sq seq ks).2.2 = 52 := by
  unfold askR
  split
  · exact .inl rfl
  · split
    · exact .inr (.inr rfl)
    · split
      · exact .inl rfl
      · exact .inr (.inl rfl)
theorem askR_case (sq seq : Int) (ks : List KeV) : (seq = sq + 1 ∧ askR sq seq ks = (zR, false, 0)) ∨ (¬ seq = sq + 1 ∧ sq < seq ∧ askR sq seq ks = (zR, false, 52)) ∨ (¬ sq < seq ∧ ∃ kk, ks.find? (fun k => k.sq = seq) = some kk ∧ askR sq seq ks = (kk.r, true, 0)) ∨ (¬ sq < seq ∧ ks.find? (fun k => k.sq = seq) = none ∧ askR sq seq ks = (zR, false, 51)) := by
  unfold askR
  by_cases h1 : seq = sq + 1
  · exact .inl ⟨h1, if_pos h1⟩
  · rw [if_neg h1]
    by_cases h2 : sq < seq
    · exact .inr (.inl ⟨h1, h2, if_pos h2⟩)
    · rw [if_neg h2]
      cases h3 : ks.find? (fun k => k.sq = seq) with
      | none => exact .inr (.inr (.inr ⟨h2, rfl, rfl⟩))
      | some kk => exact .inr (.inr (.inl ⟨h2, kk, rfl, rfl⟩))
theorem get_put_in {most : Int} {l : List (Int × Ses)} {k : Int} {x : Ses} (hs : sortS (keysT l)) (h : k ∈ keysT l) : getT (putT most l k x) k = some x :=
  (mem_get (put_sort hs)).2 ((mem_put hs).2 (.inl ⟨putB_in h, rfl⟩))
theorem put_mem {most : Int} {l : List (Int × Ses)} {k : Int} {x : Ses} (hs : sortS (keysT l)) : ∀ p ∈ putT most l k x, p = (k, x) ∨ (p.1 ≠ k ∧ p ∈ l) := fun p hp => by
  rcases (mem_put hs).1 hp with ⟨_, h⟩ | h
  · exact .inl h
  · exact .inr h
end Go.Sx
