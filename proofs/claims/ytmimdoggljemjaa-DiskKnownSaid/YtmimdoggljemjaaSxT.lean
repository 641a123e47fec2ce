/- copy, clear, append of a make: within rows of one's own. -/
import Derived.Test.YtmimdoggljemjaaSxS
import Derived.Lib.AppendZerosOnto
import Derived.Laws.CopyRow
import Derived.Lib.Overlaps
namespace Go.Sx
open Go.RowKit
section
variable {P : Program} {r : Option Nat} {n : Nat} {D : List Deferred} {L : Sl} {M : Mem} {H H1 : Hp} {Q : Post} {d : Option Tmp} {ty : TypeId} {pos : String} {af : Array Edge} {ops : Array Oper} {rest : List Oper}
theorem R.copyRow {t t2 e et sz by_ b o m c k c2 q : Nat} {z : Value} {s x : Operand} {A : Option Addr} {l cs : List Value} {f : Obj → Hp} [hst : Und P t (.slice e)] [hi : Inf P e sz by_ z]
    (hs : ev L s = some (.slice (some ⟨b, o, none⟩) m c)) (hx : ev L x = some (.slice A k c2)) (hb : At H b (.cells l.toArray et (0, 0)) f) (hrd : Rd M H A cs) (hq : q = min k m) (hl : cs.length = q * sz) (hfit : o + cs.length ≤ l.length) (hone : ∀ u ∈ cs, u.oneCell' = true) (hd : dok n d = true)
    (kk : R false P r n ops rest Q D (bnd d (.int .i64 (q : Int)) L) M (f (.cells (l.take o ++ cs ++ l.drop (o + cs.length)).toArray et (0, 0)))) :
    R false P r n ops (⟨d, .call ⟨.builtin .copy, #[s, x], #[t, t2]⟩, ty, pos, af, none⟩ :: rest) Q D L M H := by
  obtain ⟨inf, g1, g2, g3, g4⟩ := hi.h
  subst hq
  refine R.world rfl (by intro c h; cases h) fun a w hf hh => ?_
  have hrow := hh.own _ hb.mem
  have hst' := run_storeCells_at P b o et cs 0 l.toArray w hrow (by simpa using hfit) hone
  have hfc : (Builtin.firstCells sz (min k m) (.slice A k c2)).run P w = .ok cs.toArray w := by
    rcases hrd with h | ⟨ad, rfl, hc⟩
    · subst h
      have h0 : min k m * sz = 0 := hl.symm
      cases A <;> simp [Builtin.firstCells, loadCells, loadCellsFrom, h0]
    · exact run_firstCells_some (P := P) w sz (min k m) ad k c2 cs hl (hc w hh)
  have hrun : (Builtin.copy_ #[t, t2] ty #[.slice (some ⟨b, o, none⟩) m c, .slice A k c2]).run P w = .ok (.int .i64 ((min k m : Nat) : Int)) (w.setRow b (l.take o ++ cs ++ l.drop (o + cs.length)).toArray) := by
    have hmin : Nat.min k m = min k m := rfl
    simp only [Nat.add_zero] at hst'
    simp [Builtin.copy_, run_underlying hst.h, Builtin.lenOf, sizeOf, typeInfo, g1, g2, hmin, hfc, hst', goInt]
  exact ⟨_, _, .inl (builtin_run (xs := [s, x]) (vs := [.slice (some ⟨b, o, none⟩) m c, .slice A k c2]) hf (.cons hs (.cons hx .nil)) (fun _ => rfl) hrun), fun hf hh => kk _ _ (hf.put d hd _) (hh.put hb (setRow_same _ _ _ _ _ _ hrow) (fun k hk => setRow_other _ _ _ _ hk) rfl rfl)⟩
/-- cells of a type's zero value, k times -/
def zrs (z : Value) (k : Nat) : List Value := (Builtin.zeroCells z.cells k).toList
theorem zrs_length {z : Value} {sz : Nat} (hz : z.cells.size = sz) (k : Nat) : (zrs z k).length = k * sz := by
  unfold zrs
  simp [Builtin.zeroCells, hz]
theorem zrs_one {z : Value} {sz : Nat} (hz : z.cells.size = sz) (hsz : 0 < sz) (h1 : ∀ u ∈ z.cells.toList, u.oneCell' = true) (k : Nat) : ∀ u ∈ zrs z k, u.oneCell' = true := by
  unfold zrs
  intro u hu
  simp only [Builtin.zeroCells, Array.toList_map, List.mem_map] at hu
  obtain ⟨i, _, rfl⟩ := hu
  have hi : i % z.cells.size < z.cells.size := Nat.mod_lt _ (by omega)
  rw [getElem!_pos z.cells _ hi]
  exact h1 _ (Array.getElem_mem_toList _)
theorem R.clearRow {t e et sz by_ b o m c : Nat} {z : Value} {s : Operand} {l : List Value} {f : Obj → Hp} [hst : Und P t (.slice e)] [hi : Inf P e sz by_ z]
    (hs : ev L s = some (.slice (some ⟨b, o, none⟩) m c)) (hm : 0 < m) (hz : z.cells.size = sz) (hsz : 0 < sz) (hz1 : ∀ u ∈ z.cells.toList, u.oneCell' = true) (hb : At H b (.cells l.toArray et (0, 0)) f) (hfit : o + m * sz ≤ l.length) (hd : dok n d = true)
    (kk : R false P r n ops rest Q D (bnd d (.tuple #[]) L) M (f (.cells (l.take o ++ zrs z m ++ l.drop (o + m * sz)).toArray et (0, 0)))) :
    R false P r n ops (⟨d, .call ⟨.builtin .clear, #[s], #[t]⟩, ty, pos, af, none⟩ :: rest) Q D L M H := by
  obtain ⟨inf, g1, g2, g3, g4⟩ := hi.h
  refine R.world rfl (by intro c h; cases h) fun a w hf hh => ?_
  have hrow := hh.own _ hb.mem
  have hzl : (zrs z m).length = m * sz := zrs_length hz m
  have hst' := run_storeCells_at P b o et (zrs z m) 0 l.toArray w hrow (by rw [hzl]; simpa using hfit) (zrs_one hz hsz hz1 m)
  have hrun : (Builtin.clear_ #[t] ty #[.slice (some ⟨b, o, none⟩) m c]).run P w = .ok (.tuple #[]) (w.setRow b (l.take o ++ zrs z m ++ l.drop (o + m * sz)).toArray) := by
    simp only [Nat.add_zero, hzl] at hst'
    have hms : m * sz ≠ 0 := Nat.mul_ne_zero (by omega) (by omega)
    obtain ⟨q, rfl⟩ : ∃ q, m = q + 1 := ⟨m - 1, by omega⟩
    unfold zrs at hst' ⊢
    simp [Builtin.clear_, run_underlying hst.h, zeroValue, typeInfo, g1, g4, hst']
  exact ⟨_, _, .inl (builtin_run (xs := [s]) (vs := [.slice (some ⟨b, o, none⟩) m c]) hf (.cons hs .nil) (fun _ => rfl) hrun), fun hf hh => kk _ _ (hf.put d hd _) (hh.put hb (setRow_same _ _ _ _ _ _ hrow) (fun k hk => setRow_other _ _ _ _ hk) rfl rfl)⟩
theorem R.appendZ {t tn e sz by_ m k c : Nat} {kn kq : IntKind} {z : Value} {s x : Operand} {A : Option Addr} {xs : List Value} [hst : Und P t (.slice e)] [htn : Und P tn (.int kn)] [hi : Inf P e sz by_ z]
    (hs : ev L s = some (.slice A m c)) (hx : ev L x = some (.int kq (k : Int))) (hrd : Rd M H A xs) (hl : xs.length = m * sz) (hk : 0 < k) (hg : c < m + k) (hbytes : (m + k) * by_ ≤ 140737488355328) (hby : 0 < by_) (hz : z.cells.size = sz) (hsz : 0 < sz) (hd : dok n d = true)
    (kk : ∀ v' hp', Own e sz v' (m + k) (xs ++ zrs z k) hp' → R false P r n ops rest Q D (bnd d v' L) M (hp' ++ H)) :
    R false P r n ops (⟨d, .call ⟨.builtin .append, #[s, x], #[t, tn]⟩, ty, pos, af, none⟩ :: rest) Q D L M H := by
  obtain ⟨inf, g1, g2, g3, g4⟩ := hi.h
  refine R.world rfl (by intro c h; cases h) fun a w hf hh => ?_
  have hh1 : Heap w.drew M H := hh.drawn _
  have hkb : k * by_ ≤ (m + k) * by_ := Nat.mul_le_mul_right _ (Nat.le_add_left _ _)
  have hmk : m + k ≤ (m + k) * by_ := Nat.le_mul_of_pos_right _ hby
  have hold : (Builtin.firstCells inf.size m (.slice A m c)).run P w.drew = .ok xs.toArray w.drew := by
    rw [g2]
    rcases hrd with h | ⟨ad, rfl, hc⟩
    · subst h
      have h0 : m * sz = 0 := hl.symm
      cases A <;> simp [Builtin.firstCells, loadCells, loadCellsFrom, h0]
    · exact run_firstCells_some (P := P) w.drew sz m ad m c xs hl (hc _ hh1)
  have hrun := Lib.run_append_grow_zeros (P := P) w t tn ty e inf z kq kn hst.h htn.h g1 g4 A m c xs hold k hk (by rw [g2]; exact hsz) hg (by omega) (by rw [g3]; omega) (by rw [g3]; exact growslice_fits hg hbytes)
  have hge : m + k ≤ grownCap w (m + k) c e := grownCap_ge w (m + k) c e
  have hle : grownCap w (m + k) c e ≤ maxLen := grownCap_le_maxLen w (m + k) c e (by unfold maxLen; omega)
  have hl1 := zrs_length hz k
  have hl2 := zrs_length hz (grownCap w (m + k) c e - (m + k))
  unfold zrs at hl1 hl2
  refine ⟨_, _, .inl (builtin_run (xs := [s, x]) (vs := [.slice A m c, .int kq (k : Int)]) hf (.cons hs (.cons hx .nil)) (fun _ => rfl) hrun), fun hf _ => kk _ [(w.heap.size, .cells (xs.toArray ++ Builtin.zeroCells z.cells k ++ Builtin.zeroCells z.cells (grownCap w (m + k) c e - (m + k))) e (0, 0))] ⟨by rw [List.length_append, zrs_length hz, hl, Nat.add_mul], .inr ⟨_, _, _, rfl, rfl, hge, hle, ?_, ?_⟩⟩ _ _ (hf.put d hd _) (hh1.alloc _)⟩
  · rw [← Array.length_toList, Array.toList_append, Array.toList_append, List.length_append, List.length_append, List.toList_toArray, hl, hl1, hl2, ← Nat.add_mul, ← Nat.add_mul]
    congr 1
    omega
  · rw [Array.toList_append, Array.toList_append, List.toList_toArray]
    exact List.take_left' (by rw [List.length_append, hl, hl1, Nat.add_mul])
theorem Ok.sliceAll {t e sz by_ : Nat} {z : Value} {x lo hi mx : Operand} {A : Option Addr} {m c : Nat} {k k' k2 : IntKind} {i j q : Int} {g : Option (Nat × Bool)} [hs : Und P t (.slice e)] [hi_ : Inf P e sz by_ z] (hx : ev L x = some (.slice A m c)) (hlo : ev L lo = some (.int k i)) (hhi : ev L hi = some (.int k' j)) (hmx : ev L mx = some (.int k2 q)) (h0 : 0 ≤ i) (h1 : i ≤ j) (h2 : j ≤ q) (h3 : q ≤ c) :
    Ok P ⟨d, .slice t x (some lo) (some hi) (some mx), ty, pos, af, g⟩ L M H (.slice (adv A i.toNat sz q.toNat) (j.toNat - i.toNat) (q.toNat - i.toNat)) := fun n D a w hf _ => by
  obtain ⟨inf, g1, g2, _, _⟩ := hi_.h
  have g3 : i ≤ (j.toNat : Nat) := by omega
  have g4 : j ≤ (q.toNat : Nat) := by omega
  simp [execOp, Instr.sliceAt, Instr.slice, Instr.sliceBounds, run_underlying hs.h, hf.ev hx, hf.ev hlo, hf.ev hhi, hf.ev hmx, bound_run _ _ _ _ h0 g3, bound_run _ _ _ _ (Int.le_trans h0 h1) g4, bound_run _ _ _ _ (Int.le_trans h0 (Int.le_trans h1 h2)) h3, sizeOf, typeInfo, g1, g2, adv]
/-- an append that finds its room in the row itself -/
theorem R.appendIn {t e sz by_ b m c k c2 : Nat} {z : Value} {s x : Operand} {ad : Addr} {l cs : List Value} {f : Obj → Hp} [hst : Und P t (.slice e)] [hi : Inf P e sz by_ z]
    (hs : ev L s = some (.slice (some ⟨b, 0, none⟩) m c)) (hx : ev L x = some (.slice (some ad) k c2)) (hb : At H b (.cells l.toArray e (0, 0)) f) (hrd : Rd M H (some ad) cs) (hl : cs.length = k * sz) (hroom : m + k ≤ c) (hfit : m * sz + cs.length ≤ l.length) (hone : ∀ u ∈ cs, u.oneCell' = true) (hd : dok n d = true)
    (kk : R false P r n ops rest Q D (bnd d (.slice (some ⟨b, 0, none⟩) (m + k) c) L) M (f (.cells (l.take (m * sz) ++ cs ++ l.drop (m * sz + cs.length)).toArray e (0, 0)))) :
    R false P r n ops (⟨d, .call ⟨.builtin .append, #[s, x], #[t, t]⟩, ty, pos, af, none⟩ :: rest) Q D L M H := by
  obtain ⟨inf, g1, g2, g3, g4⟩ := hi.h
  subst g2
  refine R.world rfl (by intro c h; cases h) fun a w hf hh => ?_
  have hrow := hh.own _ hb.mem
  have hc : ∀ j u, cs[j]? = some u → w.cell? (ad.add j) = some u := by
    rcases hrd with h | ⟨ad', h, hc⟩
    · subst h
      intro j u h
      cases j <;> cases h
    · injection h with h
      subst h
      exact hc w hh
  have hrun := run_append_room (P := P) w t ty e inf hst.h g1 b m c l.toArray hrow ad k c2 cs hl hc hone hroom (by simpa using hfit)
  exact ⟨_, _, .inl (builtin_run (xs := [s, x]) (vs := [.slice (some ⟨b, 0, none⟩) m c, .slice (some ad) k c2]) hf (.cons hs (.cons hx .nil)) (fun _ => rfl) hrun), fun hf hh => kk _ _ (hf.put d hd _) (hh.put hb (setRow_same _ _ _ _ _ _ hrow) (fun k hk => setRow_other _ _ _ _ hk) rfl rfl)⟩
/-- a store into a row, at a place that is not a literal -/
theorem R.storeRow {t sz by_ : Nat} {z : Value} {x y : Operand} {b o : Nat} {v : Value} {l vs : List Value} {e : TypeId} {f : Obj → Hp} [hi : Inf P t sz by_ z] (hx : ev L x = some (.pointer (some ⟨b, o, none⟩))) (hy : ev L y = some v)
    (hv : v.cells = vs.toArray) (hb : At H b (.cells l.toArray e (0, 0)) f) (hfit : o + vs.length ≤ l.length) (hl : vs.length = sz) (hone : ∀ u ∈ vs, u.oneCell' = true)
    (k : R false P r n ops rest Q D L M (f (.cells (l.take o ++ vs ++ l.drop (o + vs.length)).toArray e (0, 0)))) : R false P r n ops (⟨none, .store t x y, ty, pos, af, none⟩ :: rest) Q D L M H := by
  refine R.world rfl (by intro c h; cases h) fun a w hf hh => ⟨undef, w.setRow b (l.take o ++ vs ++ l.drop (o + vs.length)).toArray, .inr ⟨?_, rfl⟩, fun hf hh => k _ _ hf (hh.put hb (setRow_same _ _ _ _ _ _ (hh.own _ hb.mem)) (fun k hk => setRow_other _ _ _ _ hk) rfl rfl)⟩
  have := storeAt_run (P := P) (t := t) (v := v) (b := b) (o := o) (w := w) hv hl hone (hh.own _ hb.mem) hfit
  simp [execOp, hf.ev hx, hf.ev hy, this]
/-- a call of what the model answers itself -/
theorem R.callX {f : Nat} {xs : List Operand} {vs : List Value} {ts : Array TypeId} {v : Value} (hx : Evs L xs vs) (hd : dok n d = true) (hc : ∀ w, Heap w M H → (callFunc f vs.toArray).run P w = .ok (.value v) w)
    (kk : R false P r n ops rest Q D (bnd d v L) M H) : R false P r n ops (⟨d, .call ⟨.value (.func f), xs.toArray, ts⟩, ty, pos, af, none⟩ :: rest) Q D L M H := by
  refine R.world rfl (by intro c h; cases h) fun a w hf hh => ⟨v, w, .inl ?_, fun hf hh => kk _ _ (hf.put d hd v) hh⟩
  have h1 := hf.evs hx
  have h2 := hc w hh
  simp [execOp, resolve, Deferred.ofValue, Act.eval, invoke, h1, h2]
/-- slices.overlaps: rows in two blocks of one's own -/
theorem overlaps_run {f tS tR e sz by_ : Nat} {fn : Func} {z : Value} [hu : Und P tS (.slice e)] [hi : Inf P e sz by_ z] {a b oa ob la ca lb cb : Nat} {ra rb : List Value} {ea eb : TypeId} {H2 : Hp}
    (hf : P.funcs[f]? = some fn) (hname : (fn.name == "runtime.NumGoroutine") = false) (hbody : fn.body.isNone = true) (hn : Extern.findNext fn = none) (he : Extern.find fn = some (Extern.SlicesOverlaps.overlaps #[tS, tS] #[tR]))
    (ha : Arr H ((a, .cells ra.toArray ea (0, 0)) :: (b, .cells rb.toArray eb (0, 0)) :: H2)) (hrb : 0 < rb.length) :
    ∀ w, Heap w M H → (callFunc f #[.slice (some ⟨a, oa, none⟩) la ca, .slice (some ⟨b, ob, none⟩) lb cb]).run P w = .ok (.value (.bool false)) w := fun w hh => by
  obtain ⟨inf, g1, g2, g3, g4⟩ := hi.h
  have hh' := ha.heap hh
  have h1 := hh'.own _ (List.mem_cons_self ..)
  have h2 := hh'.own _ (List.mem_cons_of_mem _ (List.mem_cons_self ..))
  have hnd := hh'.nodup
  have hab : a ≠ b := by
    rw [List.map_cons, List.map_cons, List.nodup_cons] at hnd
    exact fun e => hnd.1 (by rw [e]; exact List.mem_cons_self ..)
  rw [run_callFunc_extern hf hname hbody hn he, Lib.run_overlaps_apart w tS tR e hu.h sz (fun w => by simp [sizeOf, typeInfo, g1, g2]) ⟨a, oa, none⟩ ⟨b, ob, none⟩ la ca lb cb hab ea eb ra.length rb.length (by simp [World.shape?, h1]) (by simp [World.shape?, h2]) (by omega) (by simp [World.frozen?, h1]) (by simp [World.frozen?, h1])]
  rfl
end
section
open Go.ChangeShapes Go.WideShapes Go.ChangeAt
variable {P : Program} {Hh : Type} {enc : TypeId × Value → Hh} {W : World} {t e : TypeId} {v : Value} {d : DataW Hh} {ps : List MemPlace} {b : Nat} {rc : Reach}
theorem rd_strings [he : Und P e .string] : ∀ (css : List (List Value)), (∀ c ∈ css, c.length = 1 ∧ ∃ m y, Trd enc P W m e c y ∧ Wgt P e y.1) → ∃ ss : List (List UInt8), css.flatten = ss.map (fun s => Value.string ⟨s.toArray⟩) ∧ ss.length = css.length ∧ ∀ s ∈ ss, s.length ≤ 140737488351232
  | [], _ => ⟨[], rfl, rfl, by simp⟩
  | c :: css, h => by
    obtain ⟨ss, h1, h2, h3⟩ := rd_strings css (fun c hc => h c (List.mem_cons_of_mem _ hc))
    obtain ⟨_, m, y, h4, h5⟩ := h c (List.mem_cons_self ..)
    obtain ⟨z, rfl, hz⟩ := rd_string h4 h5
    refine ⟨z.data.toList :: ss, by simp [h1], by simp [h2], fun x hx => ?_⟩
    rcases List.mem_cons.1 hx with rfl | hx
    · rw [Array.length_toList]; exact hz
    · exact h3 x hx
theorem arg_strings {z : Value} {by_ : Nat} [hu : Und P t (.slice e)] [hi : Inf P e 1 by_ z] [hue : Und P e .string] (hval : Value.okWide P W rc b t v) (h : DataW.Trod enc P W 0 (fun _ => true) true t v d ps) (hw : Wgt P t d) :
    ∃ (A : Option Addr) (ss : List (List UInt8)) (cap : Nat), v = .slice A ss.length cap ∧ ss.length ≤ cap ∧ Pl (Mem.of W) A (ss.map (fun s => Value.string ⟨s.toArray⟩)) ∧ cap * by_ ≤ 140737488351232 ∧ ∀ s ∈ ss, s.length ≤ 140737488351232 := by
  obtain ⟨A, css, cap, rfl, h1, h2, h3, h4⟩ := arg_slice hval h hw
  obtain ⟨ss, h5, h6, h7⟩ := rd_strings css h4
  exact ⟨A, ss, cap, by rw [h6], by omega, by rw [← h5]; exact h2, h3, h7⟩
end
end Go.Sx
