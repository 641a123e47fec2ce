/-
  Ranges over functions: the loop's record and the block of its mark are owned blocks; calls of function values.
-/
import Derived.Test.YtmimdoggljemjaaSxH
import Derived.RangeFuncLeaves
import Derived.RangeFuncRecord
namespace Go.Sx
variable {P : Program} {r : Option Nat} {n : Nat} {D : List Deferred} {L L' : Sl} {M M' : Mem} {H : Hp} {Q : Post}

/-- a call of a function value: a closure, or a loop's yield -/
def KV (P : Program) (y : Value) (vs : List Value) (M : Mem) (H : Hp) (T : Value → Mem → Hp → Prop) : Prop :=
  (∃ f fs cs, y = .func (.func f) fs cs ∧ Ent P f ∧ K P f (fs.toList ++ vs ++ cs.toList) M H T) ∨
  (∃ l, y = .func (.yield l) #[] #[] ∧ ∀ w, Heap w M H → ∃ g tmps asg body, (Instr.yield l vs.toArray).run P w = .ok (.round l g tmps asg body) w ∧
    RoundIn (F0 none) 0 P l g tmps asg body w (fun e w' => ∃ v M' H', e = .returned v ∧ T v M' H' ∧ Heap w' M' H'))
theorem KV.mono {y : Value} {vs : List Value} {T T' : Value → Mem → Hp → Prop} (h : KV P y vs M H T) (ht : ∀ v M' H', T v M' H' → T' v M' H') : KV P y vs M H T' := by
  rcases h with ⟨f, fs, cs, h1, h2, h3⟩ | ⟨l, h1, h2⟩
  · exact .inl ⟨f, fs, cs, h1, h2, h3.mono ht⟩
  · refine .inr ⟨l, h1, fun w hh => ?_⟩
    obtain ⟨g, tmps, asg, body, h3, h4⟩ := h2 w hh
    exact ⟨g, tmps, asg, body, h3, h4.mono fun _ _ ⟨v, M', H', a, b, c⟩ => ⟨v, M', H', a, ht _ _ _ b, c⟩⟩
theorem KV.perm {y : Value} {vs : List Value} {T : Value → Mem → Hp → Prop} {H' : Hp} (ha : Arr H H') (h : KV P y vs M H' T) : KV P y vs M H T := by
  rcases h with ⟨f, fs, cs, h1, h2, h3⟩ | ⟨l, h1, h2⟩
  · exact .inl ⟨f, fs, cs, h1, h2, h3.arr ha⟩
  · exact .inr ⟨l, h1, fun w hh => h2 w (ha.heap hh)⟩

section
variable {d : Option Tmp} {ty : TypeId} {pos : String} {af : Array Edge} {ops : Array Oper} {rest : List Oper}
theorem R.callV {x : Operand} {xs : List Operand} {vs : List Value} {ts : Array TypeId} {y : Value} {T : Value → Mem → Hp → Prop} (hc : ev L x = some y) (hx : Evs L xs vs) (hd : dok n d = true) (hK : KV P y vs M H T)
    (k : ∀ v M' H', T v M' H' → R false P r n ops rest Q D (bnd d v L) M' H') : R false P r n ops (⟨d, .call ⟨.value x, xs.toArray, ts⟩, ty, pos, af, none⟩ :: rest) Q D L M H := by
  rcases hK with ⟨f, fs, cs, rfl, he, hK⟩ | ⟨l, rfl, hY⟩
  · exact R.callC (fs := fs.toList) (cs := cs.toList) (by simpa using hc) hx hd hK k
  · intro a w hf hh
    refine wpListIn_plain rfl fun Kn hKn => ⟨fun f _ => F0_fn _ f, ?_⟩
    obtain ⟨g, tmps, asg, body, h1, h2⟩ := hY w hh
    have hrun : (execOp a.eval ⟨d, .call ⟨.value x, xs.toArray, ts⟩, ty, pos, af, none⟩).run P w = .ok (.round l g tmps asg body) w := by
      have h3 := hf.evs hx
      simp [execOp, resolve, Deferred.ofValue, hf.ev hc, invoke, h3, h1]
    rw [semAt_eq _ (by intro c h; cases h), hrun]
    refine ⟨F0_no, ?_⟩
    have : RoundIn (F0 none) 0 P l g tmps asg body w (fun e w' => match e, w' with
      | .returned v, w'' => Kn (a.put d v) w''
      | .panicked chain, w'' => Q (.panic chain) a w''
      | .outgrown, _ => LetsOut Q) := h2.mono (by
        rintro e w' ⟨v, M', H', rfl, hT, hh'⟩
        exact hKn _ _ (k v M' H' hT _ _ (hf.put d hd v) hh'))
    exact this
end

/-! one round -/
abbrev recOf (st : LoopState) (pe : Option Code) (fn : FuncId) (tmps : Array Value) (ps : Array Tmp) (asg body : Code) (bD : Nat) : Obj :=
  .loop { state := st, pending := pe, fn, tmps, params := ps, assign := asg, body, defers := bD }
theorem Heap.putObj {w : World} {b : Nat} {o : Obj} {f : Obj → Hp} (h : Heap w M H) (ha : At H b o f) (o' : Obj) : Heap (w.putObj b o') M (f o') :=
  h.put ha (World.putObj_heap_same (heap_lt (h.own _ ha.mem))) (fun _ hk => World.putObj_heap_other hk) rfl rfl
/-- what is to be shown where a round is left; T: what yield's caller gets -/
structure RoundOk (P : Program) (l : Nat) (o : LoopState → Option Code → Obj) (T : Value → Mem → Hp → Prop) (Q : Post) : Prop where
  normal : ∀ n D L M H f, At H l (o .busy none) f → T (.bool true) M (f (o .ready none)) → Fin n .normal Q D L M H
  ret : ∀ n D L M H f, At H l (o .busy none) f → T (.bool false) M (f (o .done (some .ret))) → Fin n .ret Q D L M H
  exit : ∀ n D L M H f id, At H l (o .busy none) f → T (.bool false) M (f (o .done (some (.exit id)))) → Fin n (.exit id) Q D L M H
  np : NoPanic Q
/-- what is to be shown where the loop's left sides are assigned: the round begins -/
def AsgOk (P : Program) (l n : Nat) (o : LoopState → Option Code → Obj) (body : Code) (T : Value → Mem → Hp → Prop) (Q : Post) : Prop :=
  ∀ D L M H f, At H l (o .ready none) f → (∀ Q', RoundOk P l o T Q' → C P (some l) n body Q' D L M (f (o .busy none))) → Fin n .normal Q D L M H
theorem KV.round {l : Nat} {fn : FuncId} {tmps : Array Value} {ps : Array Tmp} {asg body : Code} {bD : Nat} {vs : List Value} {f : Obj → Hp} {T : Value → Mem → Hp → Prop} (hl : At H l (recOf .ready none fn tmps ps asg body bD) f) (hs : vs.length = ps.size)
    (hf : Fr n [] L { tmps := (ps.zip vs.toArray).foldl (fun t (p, v) => t.setIfInBounds p v) tmps, defers := [] })
    (h : ∀ Q, NoPanic Q → AsgOk P l n (fun st pe => recOf st pe fn tmps ps asg body bD) body T Q → C P (some l) n asg Q [] L M H) : KV P (.func (.yield l) #[] #[]) vs M H T := by
  refine .inr ⟨l, rfl, fun w hh => ⟨fn, _, asg, body, run_yield (hh.own _ hl.mem) (by simpa using hs), ?_⟩⟩
  refine roundIn_of_wpIn trivial ?_
  refine h _ ?_ ?_ _ w hf hh
  · intro c a w hq
    exact hq
  · intro D1 L1 M1 H1 f1 ha hb a1 w1 hf1 hh1
    refine ⟨_, run_beginRound (hh1.own _ ha.mem) rfl, ?_⟩
    refine hb (roundPost P l fun e w' => ∃ v M' H', e = .returned v ∧ T v M' H' ∧ Heap w' M' H') ⟨?_, ?_, ?_, ?_⟩ a1 _ hf1 (hh1.putObj ha _)
    · intro n D L M H f ha hT a w _ hh
      exact ⟨_, _, run_endRound none (hh.own _ ha.mem), _, _, _, rfl, hT, hh.putObj ha _⟩
    · intro n D L M H f ha hT a w _ hh
      exact ⟨_, _, run_endRound (some .ret) (hh.own _ ha.mem), _, _, _, rfl, hT, hh.putObj ha _⟩
    · intro n D L M H f id ha hT a w _ hh
      exact ⟨_, _, run_endRound (some (.exit id)) (hh.own _ ha.mem), _, _, _, rfl, hT, hh.putObj ha _⟩
    · intro c a w hq
      exact hq

/-! the statement -/
def bndAll : List Tmp → List Value → Sl → Sl
  | p :: ps, v :: vs, L => bndAll ps vs (bnd (some p) v L)
  | _, _, L => L
theorem Fr.zipped : ∀ {pl : List Tmp} {vs : List Value} {L : Sl} {a : Act}, (∀ p ∈ pl, p < n) → Fr n D L a →
    Fr n D (bndAll pl vs L) { a with tmps := (pl.zip vs).foldl (fun t (x : Tmp × Value) => t.setIfInBounds x.1 x.2) a.tmps }
  | [], vs, L, a, _, h => by simpa [bndAll] using h
  | p :: pl, [], L, a, _, h => by simpa [bndAll] using h
  | p :: pl, v :: vs, L, a, hp, h => by
    have h1 := Fr.put h (some p) (Nat.ble_eq_true_of_le (hp p (List.mem_cons_self ..))) v
    exact Fr.zipped (pl := pl) (vs := vs) (fun q hq => hp q (List.mem_cons_of_mem _ hq)) h1
theorem KV.roundL {l : Nat} {fn : FuncId} {tmps : Array Value} {pl : List Tmp} {asg body : Code} {bD : Nat} {vs : List Value} {f : Obj → Hp} {T : Value → Mem → Hp → Prop} (hl : At H l (recOf .ready none fn tmps pl.toArray asg body bD) f) (hs : vs.length = pl.length)
    (hp : ∀ p ∈ pl, p < n) (hf : Fr n [] L { tmps := tmps, defers := [] })
    (h : ∀ Q, NoPanic Q → AsgOk P l n (fun st pe => recOf st pe fn tmps pl.toArray asg body bD) body T Q → C P (some l) n asg Q [] (bndAll pl vs L) M H) : KV P (.func (.yield l) #[] #[]) vs M H T := by
  refine KV.round (n := n) (L := bndAll pl vs L) hl (by simpa using hs) ?_ h
  have := Fr.zipped (vs := vs) hp hf
  simpa using this
def markOf (b : Nat) : Deferred := { target := .collected b, args := #[] }
theorem C.range {g : Operand} {pl : List Tmp} {asg body : Code} {gf : Nat} {cs : List Value} [he : Ent P gf] (hg : ev L g = some (.func (.func gf) #[] cs.toArray))
    (h : ∀ fn tmps bD l, Fr n [] L { tmps := tmps, defers := [] } →
      K P gf (.func (.yield l) #[] #[] :: cs) M ((l, recOf .ready none fn tmps pl.toArray asg body bD) :: (bD, .deferred (some [])) :: H) fun _ M' H' =>
        ∃ st pe f, st ≠ .busy ∧ At H' l (recOf st pe fn tmps pl.toArray asg body bD) f ∧
          match pe with
          | none => Fin n .normal Q (markOf bD :: D) L M' (f (recOf .exhausted none fn tmps pl.toArray asg body bD))
          | some c => C P none n c Q (markOf bD :: D) L M' (f (recOf .exhausted (some c) fn tmps pl.toArray asg body bD))) : C P none n (.rangeFunc g pl.toArray asg body) Q D L M H := by
  intro a w hf hh
  refine wpIn_rangeFunc ?_
  intro fn _
  have h1 := (hh.alloc (.deferred (some []))).alloc (.loop { state := .ready, pending := none, fn, tmps := a.tmps, params := pl.toArray, assign := asg, body, defers := w.heap.size })
  rw [World.size_alloc] at h1
  obtain ⟨W1, hW1⟩ : ∃ W1, (w.alloc (.deferred (some []))).alloc (.loop { state := .ready, pending := none, fn, tmps := a.tmps, params := pl.toArray, assign := asg, body, defers := w.heap.size }) = W1 := ⟨_, rfl⟩
  rw [hW1] at h1
  have h0 : (Instr.enterLoop fn a.tmps pl.toArray asg body (F0 none).round).run P w = .ok (w.heap.size + 1, [markOf w.heap.size]) W1 := by
    rw [← hW1]
    exact run_enterLoop_outer _ _ _ _ _
  refine ⟨w.heap.size + 1, [markOf w.heap.size], W1, { target := .fn (.func gf) cs.toArray, args := #[.func (.yield (w.heap.size + 1)) #[] #[]] }, W1, gf, #[.func (.yield (w.heap.size + 1)) #[] #[]] ++ cs.toArray, W1, h0, ?_, fun _ _ => F0_fn _ _, ?_, F0_no, ?_⟩
  · simp only [resolve, hf.ev hg]
    simp [go_sem]
  · simp [invoke, he.h]
  · have h2 := h fn a.tmps w.heap.size (w.heap.size + 1) ⟨rfl, hf.size, hf.slot⟩ _ h1
    have e : (Value.func (.yield (w.heap.size + 1)) #[] #[] :: cs).toArray = #[.func (.yield (w.heap.size + 1)) #[] #[]] ++ cs.toArray := by simp
    rw [e] at h2
    refine (callsIn_wide (n := 0 - 1)).2 (h2.mono ?_)
    rintro e w' ⟨v, M', H', rfl, ⟨st, pe, f, hb, hat, hk⟩, hh'⟩
    refine ⟨pe, _, run_endLoop (hh'.own _ hat.mem) hb, ?_⟩
    have h3 := hh'.putObj hat (recOf .exhausted pe fn a.tmps pl.toArray asg body w.heap.size)
    have hf' : Fr n (markOf w.heap.size :: D) L { a with defers := [markOf w.heap.size] ++ a.defers } := ⟨by simp [hf.defers], hf.size, hf.slot⟩
    cases pe with
    | none => exact hk _ _ hf' h3
    | some c => exact hk _ _ hf' h3

/-- the same, the record told by its two words alone -/
theorem C.rangeO {g : Operand} {pl : List Tmp} {asg body : Code} {gf : Nat} {cs : List Value} [he : Ent P gf] (hg : ev L g = some (.func (.func gf) #[] cs.toArray))
    (h : ∀ fn tmps bD l (o : LoopState → Option Code → Obj), (o = fun st pe => recOf st pe fn tmps pl.toArray asg body bD) → Fr n [] L { tmps := tmps, defers := [] } →
      K P gf (.func (.yield l) #[] #[] :: cs) M ((l, o .ready none) :: (bD, .deferred (some [])) :: H) fun _ M' H' =>
        ∃ st pe f, st ≠ .busy ∧ At H' l (o st pe) f ∧
          match pe with
          | none => Fin n .normal Q (markOf bD :: D) L M' (f (o .exhausted none))
          | some c => C P none n c Q (markOf bD :: D) L M' (f (o .exhausted (some c)))) : C P none n (.rangeFunc g pl.toArray asg body) Q D L M H :=
  C.range hg fun fn tmps bD l hf => h fn tmps bD l _ rfl hf

/-! a function that leaves with marks -/
inductive Marks : List Deferred → Hp → Hp → Prop
  | nil (H : Hp) : Marks [] H H
  | cons {D : List Deferred} {H H' : Hp} {b : Nat} {f : Obj → Hp} (ha : At H b (.deferred (some [])) f) (h : Marks D (f (.deferred none)) H') : Marks (markOf b :: D) H H'
theorem Res.results {fn : Func} {rs : List ResultVar} {vs : List Value} {a : Act} {w : World} (hr : fn.results = rs.toArray) (h : Res P L M H rs vs) (hf : Fr n D L a) (hh : Heap w M H) : (results fn a.tmps).run P w = .ok (retv vs) w := by
  have h1 := h _ _ a w hf hh
  unfold Go.results
  rw [hr, List.mapM_toArray, Sem.run_bind, Sem.run_map]
  have h2 := congrArg (fun z : Result (List Value) => (z.andThen fun a w' => Result.ok a.toArray w').andThen fun (a : Array Value) w' => Sem.run P (pure (if h : a.size = 1 then a[0] else Value.tuple a)) w') h1
  refine Eq.trans h2 ?_
  match vs with
  | [] => rfl
  | [v] => rfl
  | v :: u :: vs => simp [Result.andThen, retv]
theorem Marks.leaves {fn : Func} {rs : List ResultVar} {vs : List Value} {T : Value → Mem → Hp → Prop} {H1 H2 : Hp} {D' : List Deferred} (hr : fn.results = rs.toArray) (hres : Res P L M H1 rs vs) (ha : ∀ w, Heap w M H1 → Heap w M H2) (ht : T (retv vs) M H2) {a : Act} (hf : Fr n D' L a) {D : List Deferred} {H : Hp} (hm : Marks D H H1) :
    ∀ w, Heap w M H → LeavesInM (F0 none) 0 P fn a.tmps (fun e w' => ∃ v M' H', e = .returned v ∧ T v M' H' ∧ Heap w' M' H') D .returning w := by
  induction hm with
  | nil H => exact fun w hh => ⟨_, hres.results hr hf hh, _, _, _, rfl, ht, ha w hh⟩
  | cons hat _ ih => exact fun w hh => ⟨by simp, .inl ⟨_, _, rfl, run_takeDeferred (hh.own _ hat.mem), ih hres ha _ (hh.putObj hat _)⟩⟩
def RetOkM (P : Program) (fn : Func) (T : Value → Mem → Hp → Prop) (Q : Post) : Prop :=
  ∀ (n : Nat) (D : List Deferred) (L : Sl) (M : Mem) (H H1 H2 : Hp) (rs : List ResultVar) (vs : List Value) (e : Exit), (e = .ret ∨ e = .normal) → fn.results = rs.toArray → Marks D H H1 → Res P L M H1 rs vs → (∀ w, Heap w M H1 → Heap w M H2) → T (retv vs) M H2 → Fin n e Q D L M H
theorem K.enterM {f : Nat} {fn : Func} {c : Code} {args : List Value} {T : Value → Mem → Hp → Prop} (hf : P.funcs[f]? = some fn) (hb : fn.body = some c) (hn : fn.ntmps = n) (hle : Nat.ble args.length n = true)
    (h : ∀ Q, NoPanic Q → RetOkM P fn T Q → C P none n c Q [] (zipL 0 args) M H) : K P f args M H T := by
  intro w hh
  let R : Ending → World → Prop := fun e w' => ∃ v M' H', e = .returned v ∧ T v M' H' ∧ Heap w' M' H'
  let Q : Post := fun e a w => (∀ c, e ≠ .panic c) ∧ bodyPostM (F0 none) 0 P fn R e a w
  have hC : C P none n c Q [] (zipL 0 args) M H := h Q (fun c a w hq => hq.1 c rfl) (by
    intro n D L M H H1 H2 rs vs e he hr hm hres ha ht a w hf' hh'
    have := hm.leaves hr hres ha ht hf' w hh'
    rcases he with rfl | rfl
    · exact ⟨fun c => by simp, by rw [← hf'.defers] at this; exact this⟩
    · exact ⟨fun c => by simp, by rw [← hf'.defers] at this; exact this⟩)
  refine callsIn_wide.1 (callsIn_of_wp_marks (n := 0) (F := F0 none) hf hb trivial (wpIn_mono (hC _ w ⟨rfl, ?_, ?_⟩ hh) fun _ _ _ hq => hq.2) rfl)
  · have := Nat.le_of_ble_eq_true hle
    simp [hn]; omega
  · intro t v ht
    obtain ⟨_, h2⟩ := lk_zipL args 0 t v ht
    rw [Nat.sub_zero] at h2
    have hlt : t < args.length := (List.getElem?_eq_some_iff.1 h2).1
    have h3 := (List.getElem?_eq_some_iff.1 h2).2
    simp [Array.getD_eq_getD_getElem?, Array.getElem?_append, hlt, h3]
theorem Fin.returnM {fn : Func} {T : Value → Mem → Hp → Prop} {rs : List ResultVar} {vs : List Value} {v : Value} {e : Exit} {H1 H2 : Hp} (hq : RetOkM P fn T Q) (he : e = .ret ∨ e = .normal) (hr : fn.results = rs.toArray) (hm : Marks D H H1) (h : Res P L M H1 rs vs) (hv : retv vs = v) (ha : Arr H1 H2) (ht : T v M H2) : Fin n e Q D L M H :=
  hq n D L M H H1 H2 rs vs e he hr hm h (fun _ hh => ha.heap hh) (by rw [hv]; exact ht)
end Go.Sx
