/-
  The pool may be forgotten; what was frozen is read there.
-/
import Derived.Test.YtmimdoggljemjaaSxR
namespace Go.Sx
open Go.ChangeShapes Go.WideShapes Go.ChangeAt Go.RowKit
variable {P : Program} {r : Option Nat} {n : Nat} {D : List Deferred} {L L' : Sl} {M M' : Mem} {H : Hp} {Q : Post}
theorem Heap.less {w : World} (hM : M.le M') (hu : Heap w M' H) : Heap w M H := by
  refine ⟨hu.os.trans hM.1, hu.out.trans hM.2.1, fun b o hb => hu.pool b o (hM.2.2 b o hb), hu.own, fun b hb => ?_, hu.nodup⟩
  have := hu.apart b hb
  cases h : M.at_ b.1 with
  | none => rfl
  | some o => rw [hM.2.2 b.1 o h] at this; cases this
theorem C.less {c : Code} (hM : M.le M') (h : C P r n c Q D L M H) : C P r n c Q D L M' H := fun a w hf hh => h a w hf (hh.less hM)
theorem Fin.less {e : Exit} (hM : M.le M') (h : Fin n e Q D L M H) : Fin n e Q D L M' H := fun a w hf hh => h a w hf (hh.less hM)
theorem R.less {ops : Array Oper} {rest : List Oper} (hM : M.le M') (h : R false P r n ops rest Q D L M H) : R false P r n ops rest Q D L M' H := fun a w hf hh => h a w hf (hh.less hM)
theorem K.less {f : Nat} {args : List Value} {T : Value → Mem → Hp → Prop} (hM : M.le M') (h : K P f args M H T) : K P f args M' H T := fun w hh => h w (hh.less hM)
theorem Pl.put {b : Nat} {l : List Value} {e : TypeId} {fr : Nat × Nat} : Pl (M.put b (.cells l.toArray e fr)) (some ⟨b, 0, none⟩) l := by
  refine .inr ⟨b, 0, l.toArray, e, fr, rfl, by simp [Mem.put], fun j u hj => by simpa using hj⟩
section
variable {Hh : Type} {enc : TypeId × Value → Hh} {W : World} {t e : TypeId} {v : Value} {d : DataW Hh} {ps : List MemPlace} {b : Nat} {rc : Reach}
theorem law_calls {f : Nat} {fn : Func} {s : ChangeSpec} {args : Array Value} {ds gs : List (DataW Hh)} {before : List MemPlace} {tb : TypeId}
    (hW : DataW.Whole enc P fn.params.toList s.vars false W args.toList ds gs before) (hv : s.vars = []) (hfn : ∀ ds, ds.length = fn.params.size → s.fn Hh ds = { results := [.lit (.bool true)], args := ds }) (hl : laidOutB P = true)
    (hr : ∀ t ∈ fn.params.toList, P.readableRec t = true ∧ t < P.types.size) (ht : fn.resultTypes = #[tb]) (hub : P.underlying tb = some .bool)
    (hK : K P f args.toList (Mem.of W) [] fun v M' _ => v = .bool true ∧ (Mem.of W).le M') :
    Calls P f args W fun e W' => ∃ v, e = .returned v ∧ s.post enc P fn false true false false W args v W' := by
  have h := hK W (Heap.of_ W)
  rw [Array.toArray_toList] at h
  refine h.mono ?_
  rintro e W' ⟨v, M', H', rfl, ⟨rfl, hM⟩, hh⟩
  exact ⟨_, rfl, law_post hW hv hfn (Kept.of_ hh hM) hl hr ht hub⟩
theorem wgt_each {ts : List TypeId} {ds : List (DataW Hh)} {j : Nat} (h : (DataW.weightsEach P ts ds).all (· ≤ reachBytes) = true) (ht : ts[j]? = some t) (hd : ds[j]? = some d) : Wgt P t d := fun z hz => by
  simpa using List.all_eq_true.1 h z (DataW.weights_mem_each ht hd z hz)
theorem val_one {D : TypeDesc} {c : Value} (hu : P.underlying t = some D) (hn : (∀ fs, D ≠ .struct fs) ∧ (∀ n e, D ≠ .array n e)) (hval : Value.okWide P W rc b t v) (h : v.cells.toList = [c]) : v = c := by
  unfold Value.okWide at hval
  rw [hu] at hval
  cases v with
  | agg cs =>
    exfalso
    cases D <;> simp_all [Cell.okWide, Cell.ok]
  | _ => simpa [Value.cells] using h
theorem arg_int {k : IntKind} [hu : Und P t (.int k)] (hval : Value.okWide P W rc b t v) (h : DataW.Trod enc P W 0 (fun _ => true) true t v d ps) : ∃ z, v = .int k z ∧ k.has z := by
  obtain ⟨m, hm⟩ := h
  obtain ⟨z, h1, h2⟩ := rd_int hm
  exact ⟨z, val_one hu.h (by simp) hval h1, h2⟩
theorem arg_bool [hu : Und P t .bool] (hval : Value.okWide P W rc b t v) (h : DataW.Trod enc P W 0 (fun _ => true) true t v d ps) : ∃ z, v = .bool z := by
  obtain ⟨m, hm⟩ := h
  obtain ⟨z, h1⟩ := rd_bool hm
  exact ⟨z, val_one hu.h (by simp) hval h1⟩
theorem arg_string [hu : Und P t .string] (hval : Value.okWide P W rc b t v) (h : DataW.Trod enc P W 0 (fun _ => true) true t v d ps) (hw : Wgt P t d) : ∃ s : ByteArray, v = .string s ∧ s.size ≤ 140737488351232 := by
  obtain ⟨m, hm⟩ := h
  obtain ⟨z, h1, h2⟩ := rd_string hm hw
  exact ⟨z, val_one hu.h (by simp) hval h1, h2⟩
theorem arg_bytes {z : Value} [hu : Und P t (.slice e)] [he : Und P e (.int .u8)] [hi : Inf P e 1 1 z] (hval : Value.okWide P W rc b t v) (h : DataW.Trod enc P W 0 (fun _ => true) true t v d ps) (hw : Wgt P t d) :
    ∃ (A : Option Addr) (bs : List UInt8) (cap : Nat), v = .slice A bs.length cap ∧ bs.length ≤ cap ∧ Pl (Mem.of W) A (bs.map bv) ∧ cap ≤ 140737488351232 := by
  obtain ⟨m, hm⟩ := h
  obtain ⟨A, bs, cap, h1, h2⟩ := rd_bytes hm hw
  exact ⟨A, bs, cap, val_one hu.h (by simp) hval h1, h2⟩
theorem arg_slice {sz by_ : Nat} {z : Value} [hu : Und P t (.slice e)] [hi : Inf P e sz by_ z] (hval : Value.okWide P W rc b t v) (h : DataW.Trod enc P W 0 (fun _ => true) true t v d ps) (hw : Wgt P t d) :
    ∃ (A : Option Addr) (css : List (List Value)) (cap : Nat), v = .slice A css.length cap ∧ css.length ≤ cap ∧ Pl (Mem.of W) A css.flatten ∧ cap * by_ ≤ 140737488351232 ∧
      (∀ c ∈ css, c.length = sz ∧ ∃ m y, Trd enc P W m e c y ∧ Wgt P e y.1) := by
  obtain ⟨m, hm⟩ := h
  obtain ⟨A, css, cap, h1, h2⟩ := rd_slice hm hw
  exact ⟨A, css, cap, val_one hu.h (by simp) hval h1, h2⟩
end
end Go.Sx
