/-
  Regions that draw their order, in two stages: what only reads; behind it, what writes.
-/
import Derived.Test.YtmimdoggljemjaaSxM
namespace Go.Sx
open Go.RowKit
variable {P : Program} {r : Option Nat} {n : Nat} {D : List Deferred} {L L' : Sl} {M : Mem} {H : Hp} {Q : Post}

/-- every order of the first stage; behind it, Z -/
def AnyZ (r : Option Nat) (P : Program) (ops : Array Oper) (M0 : Mem) (Hs : Hp) (Q : Post) (Z : Array Bool → Act → World → Prop) : Nat → Array Bool → Act → Mem → Hp → Prop
  | 0, listed, a, M, Hx => M0.le M ∧ ∀ w, Heap w M (Hs ++ Hx) → Z listed a w
  | f + 1, listed, a, M, Hx => M0.le M ∧ Region.ready .any ops listed ≠ [] ∧
      ∀ i ∈ Region.ready .any ops listed, ∀ w, Heap w M (Hs ++ Hx) → wpOpIn (F0 r) 0 P ops Q i (fun a' w' => ∃ M' Hx', Heap w' M' (Hs ++ Hx') ∧ AnyZ r P ops M0 Hs Q Z f (listed.setIfInBounds i true) a' M' Hx') a w
theorem AnyZ.le {ops : Array Oper} {M0 : Mem} {Hs Hx : Hp} {Z : Array Bool → Act → World → Prop} {f : Nat} {listed : Array Bool} {a : Act} (h : AnyZ r P ops M0 Hs Q Z f listed a M Hx) : M0.le M := by
  cases f with
  | zero => exact h.1
  | succ f => exact h.1
theorem AnyZ.any {ops : Array Oper} {M0 : Mem} {Hs : Hp} {Z : Array Bool → Act → World → Prop} {g : Nat} (hZ : ∀ listed a w, Z listed a w → wpAnyIn (F0 r) 0 P .any ops Q g listed a w) :
    ∀ (f : Nat) (listed : Array Bool) (a : Act) (M : Mem) (Hx : Hp) (w : World), Heap w M (Hs ++ Hx) → AnyZ r P ops M0 Hs Q Z f listed a M Hx → wpAnyIn (F0 r) 0 P .any ops Q (g + f) listed a w
  | 0, _, _, _, _, w, hh, h => hZ _ _ w (h.2 w hh)
  | f + 1, _, _, _, _, w, hh, h => ⟨fun e => absurd e h.2.1, fun i hi => wpOpIn_mono (fun a' w' ⟨M', Hx', hh', h'⟩ => AnyZ.any hZ f _ a' M' Hx' w' hh' h') (h.2.2 i hi w hh)⟩
/-- whatever is not of A, and was not listed ahead, stands behind each of A -/
def Barrier (ops : Array Oper) (A : List Nat) (lF : Array Bool) : Prop := ∀ (j : Nat) (oj : Oper), j ∉ A → lF.getD j true = false → ops[j]? = some oj → ∀ i ∈ A, ∃ e ∈ oj.after, Region.binds .any e = true ∧ e.on = i
def barrierB (ops : Array Oper) (A : List Nat) (lF : Array Bool) : Bool := (List.range ops.size).all fun j => A.contains j || lF.getD j true || match ops[j]? with
  | some oj => A.all fun i => oj.after.toList.any fun e => Region.binds .any e && Nat.beq e.on i
  | none => true
theorem Barrier.of {ops : Array Oper} {A : List Nat} {lF : Array Bool} (h : barrierB ops A lF = true) : Barrier ops A lF := by
  intro j oj hj hun hoj i hi
  unfold barrierB at h
  rw [List.all_eq_true] at h
  have h1 := h j (List.mem_range.2 (Array.getElem?_eq_some_iff.1 hoj).1)
  rw [hoj] at h1
  have h2 : A.contains j = false := by
    cases hb : A.contains j with
    | false => rfl
    | true => exact absurd (List.contains_iff_mem.1 hb) hj
  rw [h2, Bool.false_or, hun, Bool.false_or, List.all_eq_true] at h1
  have h3 := h1 i hi
  rw [List.any_eq_true] at h3
  obtain ⟨e, he, hb⟩ := h3
  rw [Bool.and_eq_true] at hb
  exact ⟨e, by simpa using he, hb.1, Nat.eq_of_beq_eq_true hb.2⟩
theorem Barrier.early {ops : Array Oper} {A : List Nat} {lF : Array Bool} {i j : Nat} {listed : Array Bool} (hb : Barrier ops A lF) (hsub : ∀ j, listed.getD j true = false → lF.getD j true = false) (hi : i ∈ A) (hr : i ∈ Region.ready .any ops listed) (hj : j ∈ Region.ready .any ops listed) : j ∈ A := by
  apply Classical.byContradiction
  intro h
  obtain ⟨hjun, oj, hoj, hall⟩ := mem_ready.1 hj
  obtain ⟨e, he, hbd, hon⟩ := hb j oj h (hsub j hjun) hoj i hi
  have h1 := hall e he hbd
  have h0 := (mem_ready.1 hr).1
  rw [hon] at h1
  rcases Nat.lt_or_ge i listed.size with h' | h'
  · simp [h'] at h0 h1; rw [h0] at h1; cases h1
  · simp [Array.getElem?_eq_none h'] at h1
theorem sub_set {listed lF : Array Bool} {i : Nat} (h : ∀ j, listed.getD j true = false → lF.getD j true = false) : ∀ j, (listed.setIfInBounds i true).getD j true = false → lF.getD j true = false := fun j hj => by
  refine h j ?_
  by_cases hij : i = j
  · subst hij
    rcases Nat.lt_or_ge i listed.size with h' | h'
    · simp [h'] at hj
    · simp [h'] at hj
  · rw [getD_set_ne true hij] at hj; exact hj
theorem AnyZ.first {ops : Array Oper} {M0 : Mem} {Hs : Hp} {Z : Array Bool → Act → World → Prop} {A : List Nat} {lF : Array Bool} {i : Nat} {oi : Oper} {v : Value} (hi : ops[i]? = some oi) (hsel : ∀ (j : Nat) (o : Oper) cs b, ops[j]? = some o → o.op ≠ .select cs b) (hnd : NoDefer ops) (hQ : NoPanic Q) (hb : Barrier ops A lF) (hiA : i ∈ A) :
    ∀ (fuel : Nat) (js : List Nat) (listed : Array Bool) (a : Act) (M : Mem) (Hx : Hp), (∀ j, listed.getD j true = false → lF.getD j true = false) → (∀ j, j ∈ A → listed.getD j true = false → j = i ∨ j ∈ js) → js.length ≤ fuel →
      (∀ j oj, ops[j]? = some oj → j ≠ i → listed.getD j true = false → (∀ e ∈ oj.after, Region.binds .any e = true → e.on ≠ i) → oi.apart ops oj = true) →
      i ∈ Region.ready .any ops listed → Yc P ops M0 Hs oi v a →
      AnyZ r P ops M0 Hs Q Z fuel (listed.setIfInBounds i true) (a.put oi.dst v) M Hx → AnyZ r P ops M0 Hs Q Z (fuel + 1) listed a M Hx := by
  intro fuel
  induction fuel with
  | zero =>
    intro js listed a M Hx hsub hjs hlen _ hr hy HH
    refine ⟨HH.le, fun h => (by rw [h] at hr; cases hr), fun j hj w hh => ?_⟩
    by_cases hji : j = i
    · subst hji; exact hy.wp (fun c => hnd _ _ c hi) hi HH.le hh (fun w' hh' => ⟨M, Hx, hh', HH⟩)
    · exfalso
      have hjA := hb.early hsub hiA hr hj
      rcases hjs j hjA (mem_ready.1 hj).1 with h | h
      · exact hji h
      · have : js = [] := List.eq_nil_of_length_eq_zero (by omega)
        rw [this] at h; cases h
  | succ fuel ih =>
    intro js listed a M Hx hsub hjs hlen hfree hr hy HH
    refine ⟨HH.le, fun h => (by rw [h] at hr; cases hr), fun j hj w hh => ?_⟩
    by_cases hji : j = i
    · subst hji; exact hy.wp (fun c => hnd _ _ c hi) hi HH.le hh (fun w' hh' => ⟨M, Hx, hh', HH⟩)
    · have hjA := hb.early hsub hiA hr hj
      have hjm : j ∈ js := by
        rcases hjs j hjA (mem_ready.1 hj).1 with h | h
        · exact absurd h hji
        · exact h
      have h1 := HH.2.2 j (ready_mono hj hji) w hh
      obtain ⟨hjun, oj, hoj, hall⟩ := mem_ready.1 hj
      have hnot : ∀ e ∈ oj.after, Region.binds .any e = true → e.on ≠ i := fun e he hb heq => by
        have h1 := hall e he hb
        have h0 := (mem_ready.1 hr).1
        rw [heq] at h1
        rcases Nat.lt_or_ge i listed.size with h' | h'
        · simp [h'] at h0 h1; rw [h0] at h1; cases h1
        · simp [Array.getElem?_eq_none h'] at h1
      have h2 := Yc.put hoj (hfree j oj hoj hji hjun hnot) (fun cs b => hsel i oi cs b hi) (fun cs b => hsel j oj cs b hoj) (fun c => hnd _ _ c hoj) hQ hy h1
      have hfree' : ∀ k ok, ops[k]? = some ok → k ≠ i → (listed.setIfInBounds j true).getD k true = false →
          (∀ e ∈ ok.after, Region.binds .any e = true → e.on ≠ i) → oi.apart ops ok = true := fun k ok hk hki hun hno => by
        refine hfree k ok hk hki ?_ hno
        by_cases hjk : j = k
        · subst hjk; exact hjun
        · rw [getD_set_ne true hjk] at hun; exact hun
      have hjs' : ∀ k, k ∈ A → (listed.setIfInBounds j true).getD k true = false → k = i ∨ k ∈ js.erase j := fun k hk hun => by
        by_cases hjk : j = k
        · subst hjk
          exfalso
          have hlt : j < listed.size := by
            rcases Nat.lt_or_ge j listed.size with h' | h'
            · exact h'
            · simp [Array.getElem?_eq_none h'] at hjun
          simp [hlt] at hun
        · rw [getD_set_ne true hjk] at hun
          rcases hjs k hk hun with h | h
          · exact .inl h
          · exact .inr ((List.mem_erase_of_ne (Ne.symm hjk)).2 h)
      refine wpOpIn_mono (fun a' w' ⟨hy', M', Hx', hh', h3⟩ => ⟨M', Hx', hh', ih (js.erase j) (listed.setIfInBounds j true) a' M' Hx' (sub_set hsub) hjs' (by rw [List.length_erase_of_mem hjm]; omega) hfree' (ready_mono hr (Ne.symm hji)) hy' ?_⟩) h2
      rw [Array.setIfInBounds_comm _ _ hji]
      exact h3
/-- the first stage: what only reads, in a row; k: what is to be shown behind it -/
inductive RZ (P : Program) (n : Nat) (ds : List (Option Tmp)) (M : Mem) (H : Hp) (k : Sl → Prop) : List Oper → Sl → Prop
  | nil {L : Sl} (h : k L) : RZ P n ds M H k [] L
  | step {L : Sl} {d : Option Tmp} {op : Op} {ty : TypeId} {pos : String} {af : Array Edge} {v : Value} {rest : List Oper} (hok : Ok P ⟨d, op, ty, pos, af, none⟩ L M H v) (hd : dok n d = true) (h : RZ P n ds M H k rest (bnd d v L)) : RZ P n ds M H k (⟨d, op, ty, pos, af, none⟩ :: rest) L
  | stepT {L : Sl} {d : Option Tmp} {op : Op} {ty : TypeId} {pos : String} {af : Array Edge} {v : Value} {rest : List Oper} {j : Nat} {want : Bool} {dj : Tmp} (hdj : ds[j]? = some (some dj)) (hb : lk L dj = some (.bool want)) (hlt : Nat.ble (dj + 1) n = true)
      (hok : Ok P ⟨d, op, ty, pos, af, some (j, want)⟩ L M H v) (hd : dok n d = true) (h : RZ P n ds M H k rest (bnd d v L)) : RZ P n ds M H k (⟨d, op, ty, pos, af, some (j, want)⟩ :: rest) L
  | stepF {L : Sl} {d : Option Tmp} {op : Op} {ty : TypeId} {pos : String} {af : Array Edge} {rest : List Oper} {j : Nat} {want b : Bool} {dj : Tmp} (hdj : ds[j]? = some (some dj)) (hb : lk L dj = some (.bool b)) (hlt : Nat.ble (dj + 1) n = true) (hne : (b == want) = false)
      (hd : dok n d = true) (h : RZ P n ds M H k rest (bnd d undef L)) : RZ P n ds M H k (⟨d, op, ty, pos, af, some (j, want)⟩ :: rest) L
def planA (ops : Array Oper) : List Nat → Array Bool → Bool
  | [], _ => true
  | k :: js, listed => (Region.ready .any ops listed).contains k && Region.free .any ops listed k && planA ops js (listed.setIfInBounds k true)
def afterA (js : List Nat) (listed : Array Bool) : Array Bool := js.foldl (fun l k => l.setIfInBounds k true) listed
theorem Heap.front {w : World} {Hx : Hp} (h : Heap w M (H ++ Hx)) : Heap w M H := by
  refine ⟨h.os, h.out, h.pool, fun p hp => h.own p (List.mem_append_left _ hp), fun p hp => h.apart p (List.mem_append_left _ hp), ?_⟩
  have := h.nodup
  rw [List.map_append, List.nodup_append] at this
  exact this.1
theorem Ok.qrZ {o : Oper} {a : Act} {v : Value} {M' : Mem} {Hx' : Hp} {w : World} (h : Ok P o L M H v) (hf : Fr n D L a) (hM : M.le M') (hh : Heap w M' (H ++ Hx')) : Qr P M' (H ++ Hx') w v ((execOp a.eval o).run P w) := by
  rw [h _ _ _ _ hf (hh.front.less hM)]
  exact ⟨rfl, rfl⟩
theorem picked_len {ops : Array Oper} : ∀ (js : List Nat) (rest : List Oper), picked ops js rest → js.length = rest.length
  | [], [], _ => rfl
  | [], _ :: _, h => h.elim
  | _ :: _, [], h => h.elim
  | _ :: js, _ :: rest, h => by rw [List.length_cons, List.length_cons, picked_len js rest h.2]
theorem RZ.any {ds : List (Option Tmp)} {k : Sl → Prop} {ops : Array Oper} {A : List Nat} {lF lA : Array Bool} (hO : OpsOf ds ops) (hS : Region.noSelect ops = true) (hN : NoDefer ops) (hQ : NoPanic Q) (hb : Barrier ops A lF) {rest : List Oper} {L : Sl} (h : RZ P n ds M H k rest L) :
    ∀ (js : List Nat) (listed : Array Bool) (a : Act), (∀ j, j ∈ js → j ∈ A) → (∀ j, listed.getD j true = false → lF.getD j true = false) → picked ops js rest → planA ops js listed = true → (∀ j, j ∈ A → listed.getD j true = false → j ∈ js) → afterA js listed = lA → Fr n D L a →
      AnyZ r P ops M H Q (fun listed a w => listed = lA ∧ ∃ L', k L' ∧ Fr n D L' a ∧ Heap w M H) rest.length listed a M [] := by
  have key : ∀ {d : Option Tmp} {op : Op} {ty : TypeId} {pos : String} {af : Array Edge} {g : Option (Nat × Bool)} {rest : List Oper} {v : Value} {L : Sl} (js : List Nat) (listed : Array Bool) (a : Act), (∀ j, j ∈ js → j ∈ A) → (∀ j, listed.getD j true = false → lF.getD j true = false) → picked ops js (⟨d, op, ty, pos, af, g⟩ :: rest) → planA ops js listed = true → (∀ j, j ∈ A → listed.getD j true = false → j ∈ js) → afterA js listed = lA → Fr n D L a →
      Yc P ops M H ⟨d, op, ty, pos, af, g⟩ v a → dok n d = true →
      (∀ (js : List Nat) (listed : Array Bool) (a : Act), (∀ j, j ∈ js → j ∈ A) → (∀ j, listed.getD j true = false → lF.getD j true = false) → picked ops js rest → planA ops js listed = true → (∀ j, j ∈ A → listed.getD j true = false → j ∈ js) → afterA js listed = lA → Fr n D (bnd d v L) a →
        AnyZ r P ops M H Q (fun listed a w => listed = lA ∧ ∃ L', k L' ∧ Fr n D L' a ∧ Heap w M H) rest.length listed a M []) →
      AnyZ r P ops M H Q (fun listed a w => listed = lA ∧ ∃ L', k L' ∧ Fr n D L' a ∧ Heap w M H) (rest.length + 1) listed a M [] := by
    intro d op ty pos af g rest v L js listed a hin hsub hl hp hjs hlA hf hY hd ih
    cases js with
    | nil => exact hl.elim
    | cons j js =>
    have h0 : ops[j]? = some ⟨d, op, ty, pos, af, g⟩ := hl.1
    simp only [planA, Bool.and_eq_true] at hp
    obtain ⟨⟨p1, p2⟩, p4⟩ := hp
    have hjA : j ∈ A := hin j (List.mem_cons_self ..)
    have hlen : js.length ≤ rest.length := Nat.le_of_eq (picked_len js rest hl.2)
    refine AnyZ.first h0 (Region.noSelect_spec hS) hN hQ hb hjA rest.length js listed a M [] hsub (fun k hk hun => ?_) hlen (Region.free_spec h0 p2) (by simpa using p1) hY ?_
    · exact List.mem_cons.1 (hjs k hk hun)
    · refine ih js _ _ (fun k hk => hin k (List.mem_cons_of_mem _ hk)) (sub_set hsub) hl.2 p4 (fun k hk hun => ?_) hlA (hf.put d hd v)
      by_cases hjk : j = k
      · subst hjk
        exfalso
        have hlt : j < listed.size := by
          have hun0 := (mem_ready.1 (by simpa using p1 : j ∈ Region.ready .any ops listed)).1
          rcases Nat.lt_or_ge j listed.size with h' | h'
          · exact h'
          · simp [Array.getElem?_eq_none h'] at hun0
        simp [hlt] at hun
      · rw [getD_set_ne true hjk] at hun
        rcases List.mem_cons.1 (hjs k hk hun) with h | h
        · exact absurd h.symm hjk
        · exact h
  induction h with
  | nil hk =>
    intro js listed a _ _ hl _ _ hlA hf
    cases js with
    | nil => exact ⟨Mem.le_refl _, fun w hh => ⟨hlA, _, hk, hf, hh.front⟩⟩
    | cons j js => exact hl.elim
  | step hok hd _ ih =>
    intro js listed a hin hsub hl hp hjs hlA hf
    exact key js listed a hin hsub hl hp hjs hlA hf (.inl ⟨by simp [Region.wanted], fun M' Hx' w hM' hh' => hok.qrZ hf hM' hh'⟩) hd ih
  | stepT hdj hb' hlt hok hd _ ih =>
    intro js listed a hin hsub hl hp hjs hlA hf
    exact key js listed a hin hsub hl hp hjs hlA hf (.inl ⟨by rw [wanted_guard hf hO hdj hb' hlt]; simp, fun M' Hx' w hM' hh' => hok.qrZ hf hM' hh'⟩) hd ih
  | stepF hdj hb' hlt hne hd _ ih =>
    intro js listed a hin hsub hl hp hjs hlA hf
    exact key js listed a hin hsub hl hp hjs hlA hf (.inr ⟨by rw [wanted_guard hf hO hdj hb' hlt]; exact hne, rfl⟩) hd ih
theorem AnyZ.toH {ops : Array Oper} {Hs : Hp} {M1 M0 : Mem} {Z : Array Bool → Act → World → Prop} {g : Nat} (h01 : M0.le M1) (hZ : ∀ listed a w, Z listed a w → ∃ M' Hx', Heap w M' Hx' ∧ AnyH r P ops M0 [] Q g listed a M' Hx') :
    ∀ (f : Nat) (listed : Array Bool) (a : Act) (M : Mem) (Hx : Hp) (w : World), Heap w M (Hs ++ Hx) → AnyZ r P ops M1 Hs Q Z f listed a M Hx → ∃ M' Hx', Heap w M' Hx' ∧ AnyH r P ops M0 [] Q (g + f) listed a M' Hx'
  | 0, _, _, _, _, w, hh, h => hZ _ _ w (h.2 w hh)
  | f + 1, listed, a, M, Hx, w, hh, h => ⟨M, Hs ++ Hx, hh, Mem.le_trans h01 h.1, fun e => absurd e h.2.1, fun i hi w hh => wpOpIn_mono (fun a' w' ⟨M', Hx', hh', h'⟩ => AnyZ.toH h01 hZ f _ a' M' Hx' w' hh' h') (h.2.2 i hi w hh)⟩
/-- what looks at no memory, and goes ahead of all -/
inductive FZ (P : Program) (n : Nat) (k : Sl → Prop) : List Oper → Sl → Prop
  | nil {L : Sl} (h : k L) : FZ P n k [] L
  | step {L : Sl} {d : Option Tmp} {op : Op} {ty : TypeId} {pos : String} {af : Array Edge} {v : Value} {rest : List Oper} (hok : ∀ M H, Ok P ⟨d, op, ty, pos, af, none⟩ L M H v) (hd : dok n d = true) (h : FZ P n k rest (bnd d v L)) : FZ P n k (⟨d, op, ty, pos, af, none⟩ :: rest) L
theorem FZ.any {k : Sl → Prop} {ops : Array Oper} {lF : Array Bool} (hS : Region.noSelect ops = true) (hN : NoDefer ops) (hQ : NoPanic Q) {g : Nat} {rest : List Oper} {L : Sl} (h : FZ P n k rest L) :
    ∀ (js : List Nat) (listed : Array Bool) (a : Act), picked ops js rest → planA ops js listed = true → afterA js listed = lF → Fr n D L a →
      (∀ L' a', k L' → Fr n D L' a' → ∀ w, Heap w M H → ∃ M' Hx', Heap w M' Hx' ∧ AnyH r P ops M [] Q g lF a' M' Hx') → (∀ w, Heap w M H → ∃ M' Hx', Heap w M' Hx' ∧ AnyH r P ops M [] Q (g + rest.length) listed a M' Hx') := by
  induction h with
  | nil hk =>
    intro js listed a hl _ hlF hf hend
    cases js with
    | nil => intro w hh; obtain ⟨M', Hx', h1, h2⟩ := hend _ a hk hf w hh; exact ⟨M', Hx', h1, by subst hlF; exact h2⟩
    | cons j js => exact hl.elim
  | @step L d op ty pos af v rest hok hd _ ih =>
    intro js listed a hl hp hlF hf hend w hh
    cases js with
    | nil => exact hl.elim
    | cons j js =>
    have h0 : ops[j]? = some ⟨d, op, ty, pos, af, none⟩ := hl.1
    simp only [planA, Bool.and_eq_true] at hp
    obtain ⟨⟨p1, p2⟩, p4⟩ := hp
    obtain ⟨M', Hx', h1, h2⟩ := ih js (listed.setIfInBounds j true) (a.put d v) hl.2 p4 hlF (hf.put d hd v) hend w hh
    exact ⟨M', Hx', h1, AnyH.first h0 (Region.noSelect_spec hS) hN hQ (g + rest.length) listed a M' Hx' (Region.free_spec h0 p2) (by simpa using p1) (.inl ⟨by simp [Region.wanted], fun M2 Hx2 w2 _ hh2 => (hok M2 ([] ++ Hx2)).qr hf hh2⟩) h2⟩
theorem C.regionB {id : Nat} {l : List Oper} (isF isA isB : List Nat) (ksB : List Nat) (lF lA lB : List Oper) (hm : P.follows .mixedOrders = true) (hQ : NoPanic Q) (hpF : picked l.toArray isF lF) (hpA : picked l.toArray isA lA) (hpB : picked l.toArray isB lB)
    (hB : (Region.noSelect l.toArray && noDeferB l && planA l.toArray isF (Array.replicate l.length false) && barrierB l.toArray isA (afterA isF (Array.replicate l.length false)) && planA l.toArray isA (afterA isF (Array.replicate l.length false)) &&
      planFrom l.toArray ksB isB (afterA isA (afterA isF (Array.replicate l.length false))) && Nat.beq ksB.length lB.length && Nat.beq (lB.length + lA.length + lF.length) l.length) = true)
    (h : ∀ ds, ds = l.map (·.dst) → FZ P n (fun L1 => RZ P n ds M H (fun L' => RP P r n ds ksB lB Q D L' M M [] H) lA L1) lF L) : C P r n (.region id l.toArray true) Q D L M H := by
  intro a w hf hh
  simp only [Bool.and_eq_true] at hB
  obtain ⟨⟨⟨⟨⟨⟨⟨h1, h2⟩, h3⟩, h4⟩, h5⟩, h6⟩, h7⟩, h8⟩ := hB
  refine wpIn_region_any hm ?_
  have h9 : lB.length + lA.length + lF.length = l.toArray.size := by simpa using Nat.eq_of_beq_eq_true h8
  have hF := FZ.any (r := r) (D := D) (Q := Q) (M := M) (H := H) (ops := l.toArray) (lF := afterA isF (Array.replicate l.length false)) h1 (NoDefer.of h2) hQ (g := lB.length + lA.length) (h _ rfl) isF (Array.replicate l.length false) a hpF h3 rfl hf
    (fun L1 a1 hk hf1 w1 hh1 => by
      have hAny := RZ.any (r := r) (D := D) (Q := Q) (A := isA) (lF := afterA isF (Array.replicate l.length false)) (OpsOf.self l) h1 (NoDefer.of h2) hQ (Barrier.of h4) hk isA (afterA isF (Array.replicate l.length false)) a1 (fun j hj => hj) (fun j hj => hj) hpA h5 (fun j hj _ => hj) rfl hf1
      refine AnyZ.toH (g := lB.length) (Mem.le_refl M) (fun listed a w ⟨hl, L', hk, hf', hh'⟩ => ?_) lA.length _ a1 M [] w1 (by rw [List.append_nil]; exact hh1) hAny
      subst hl
      exact ⟨M, H, hh', hk l.toArray isB _ (OpsOf.self l) h1 (NoDefer.of h2) hQ hpB h6 (Nat.eq_of_beq_eq_true h7) (Mem.le_refl M) _ hf'⟩) { w with drawn := w.drawn + 1 } (hh.drawn _)
  obtain ⟨M', Hx', h10, h11⟩ := hF
  rw [h9] at h11
  have := AnyH.any (r := r) _ _ _ M' Hx' _ h10 h11
  simpa using this
theorem RP.effF {d : Option Tmp} {op : Op} {ty : TypeId} {pos : String} {af : Array Edge} {ds : List (Option Tmp)} {ks : List Nat} {rest : List Oper} {M0 : Mem} {Hs Hx : Hp} {j : Nat} {want b : Bool} {dj : Tmp} (hdj : ds[j]? = some (some dj)) (hb : lk L dj = some (.bool b)) (hlt : Nat.ble (dj + 1) n = true) (hne : (b == want) = false) (hd : dok n d = true)
    (k : RP P r n ds ks rest Q D (bnd d undef L) M0 M Hs Hx) : RP P r n ds (0 :: ks) (⟨d, op, ty, pos, af, some (j, want)⟩ :: rest) Q D L M0 M Hs Hx := by
  intro ops js listed hO hS hN hQ hl hp hlen hM a hf
  cases js with
  | nil => exact hl.elim
  | cons j' js =>
  have h0 : ops[j']? = some ⟨d, op, ty, pos, af, some (j, want)⟩ := hl.1
  simp only [planFrom, Bool.and_eq_true, decide_eq_true_eq] at hp
  obtain ⟨⟨p1, p2⟩, p3⟩ := hp
  change AnyH r P ops M0 Hs Q (rest.length + 1) listed a M Hx
  refine ⟨hM, fun e => (by rw [p2] at e; cases e), fun i hi w hh => ?_⟩
  rw [p2] at hi
  simp only [List.mem_singleton] at hi
  subst hi
  unfold wpOpIn
  simp only [h0]
  rw [wanted_guard hf hO hdj hb hlt, hne, if_neg (by simp)]
  exact ⟨fun f _ => F0_fn _ f, M, Hx, hh, k ops js _ hO hS hN hQ hl.2 p3 (by simpa using hlen) hM _ (hf.put d hd undef)⟩
theorem R.indexStr {d : Option Tmp} {ty : TypeId} {pos : String} {af : Array Edge} {ops : Array Oper} {rest : List Oper} {t : TypeId} {x y : Operand} {s : ByteArray} {k : IntKind} {i : Int} [hs : Und P t .string] (hx : ev L x = some (.string s)) (hy : ev L y = some (.int k i)) (h0 : 0 ≤ i) (h1 : i.toNat < s.size) (hd : dok n d = true)
    (kk : ∀ b : UInt8, R false P r n ops rest Q D (bnd d (bv b) L) M H) : R false P r n ops (⟨d, .index t x y, ty, pos, af, none⟩ :: rest) Q D L M H := by
  refine R.step (v := bv (s[i.toNat]'h1)) (fun n D a w hf _ => ?_) hd (kk _)
  have e : s[i.toNat]? = some (s[i.toNat]'h1) := getElem?_pos s i.toNat h1
  simp [execOp, hf.ev hx, hf.ev hy, Instr.index, asIntOf, run_underlying hs.h, h0, e, bv]
theorem Own.split {e m : Nat} {v : Value} {xs : List Value} {hp : Hp} (h : Own e 1 v m xs hp) (h0 : 0 < m) : ∃ b cap tl, v = .slice (some ⟨b, 0, none⟩) m cap ∧ hp = [(b, .cells (xs ++ tl).toArray e (0, 0))] ∧ m ≤ cap ∧
    ∀ ys : List Value, ys.length = m → Own e 1 v m ys [(b, .cells (ys ++ tl).toArray e (0, 0))] := by
  obtain ⟨hlen, ⟨_, h, _⟩ | ⟨b, cap, c, rfl, rfl, c1, c2, c3, c4⟩⟩ := h
  · omega
  have hc : xs ++ c.toList.drop m = c.toList := by rw [← c4, Nat.mul_one, List.take_append_drop]
  have h5 : c.toList.length = cap := by rw [Array.length_toList, c3, Nat.mul_one]
  refine ⟨b, cap, c.toList.drop m, rfl, by rw [hc], c1, fun ys hy => ⟨by rw [hy, Nat.mul_one], .inr ⟨b, cap, _, rfl, rfl, c1, c2, ?_, ?_⟩⟩⟩
  · simp [hy, h5]
    omega
  · simp only [Nat.mul_one]
    rw [List.take_append_of_le_length (by omega), List.take_of_length_le (by omega)]
theorem Ok.eqIS {d : Option Tmp} {ty : TypeId} {pos : String} {af : Array Edge} {g : Option (Nat × Bool)} {t t' : TypeId} {x y : Operand} {k : IntKind} {p : Int} (hx : ev L x = some (.int k p)) (hy : ev L y = some (.int k p)) : Ok P ⟨d, .binOp .eql t x y t', ty, pos, af, g⟩ L M H (.bool true) := by
  have h := Ok.eqI (P := P) (d := d) (t := t) (t' := t') (ty := ty) (pos := pos) (af := af) (g := g) (M := M) (H := H) hx hy
  rwa [show (p == p) = true by simp] at h
/-- a guard that asks for what was passed over itself -/
theorem wanted_undef {a : Act} {ops : Array Oper} {d : Option Tmp} {op : Op} {ty : TypeId} {pos : String} {af : Array Edge} {j : Nat} {want : Bool} {ds : List (Option Tmp)} {dj : Tmp}
    (hf : Fr n D L a) (ho : OpsOf ds ops) (hdj : ds[j]? = some (some dj)) (hb : lk L dj = some undef) (hlt : Nat.ble (dj + 1) n = true) :
    Region.wanted ⟨d, op, ty, pos, af, some (j, want)⟩ (yielded ops a.tmps) = false := by
  have h1 := hf.slot _ _ hb
  have hlt' : dj < a.tmps.size := by rw [hf.size]; exact Nat.lt_of_succ_le (Nat.le_of_ble_eq_true hlt)
  have h2 : a.tmps[dj]? = some undef := by
    rw [Array.getElem?_eq_getElem hlt']
    rw [← h1]; simp [Array.getD, hlt']
  simp only [Region.wanted, yielded, ho j dj hdj, Option.bind_some, h2]
  cases want <;> rfl
theorem R.guardU {dr : Bool} {d : Option Tmp} {op : Op} {ty : TypeId} {pos : String} {af : Array Edge} {j : Nat} {want : Bool} {ds : List (Option Tmp)} {dj : Tmp} {ops : Array Oper} {rest : List Oper}
    (ho : OpsOf ds ops) (hdj : ds[j]? = some (some dj)) (hb : lk L dj = some undef) (hlt : Nat.ble (dj + 1) n = true) (hd : dok n d = true)
    (k : R dr P r n ops rest Q D (bnd d undef L) M H) : R dr P r n ops (⟨d, op, ty, pos, af, some (j, want)⟩ :: rest) Q D L M H := by
  cases dr with
  | false =>
    intro a w hf hh
    have hw := wanted_undef (d := d) (op := op) (ty := ty) (pos := pos) (af := af) (want := want) hf ho hdj hb hlt
    unfold wpListIn
    rw [hw]
    exact ⟨fun f _ => F0_fn _ f, k _ w (hf.put d hd undef) hh⟩
  | true =>
    intro a hf
    have hw := wanted_undef (d := d) (op := op) (ty := ty) (pos := pos) (af := af) (want := want) hf ho hdj hb hlt
    unfold wpQuietIn
    rw [hw]
    exact ⟨fun w _ f _ => F0_fn _ f, k _ (hf.put d hd undef)⟩
section
open Go.ChangeShapes Go.WideShapes Go.ChangeAt
variable {Hh : Type} {enc : TypeId × Value → Hh} {W : World} {t e : TypeId} {v : Value} {d : DataW Hh} {ps : List MemPlace} {b : Nat} {rc : Reach}
theorem rd_ints {k : IntKind} [he : Und P e (.int k)] : ∀ (css : List (List Value)), (∀ c ∈ css, c.length = 1 ∧ ∃ m y, Trd enc P W m e c y ∧ Wgt P e y.1) → ∃ zs : List Int, css.flatten = zs.map (Value.int k) ∧ zs.length = css.length ∧ ∀ z ∈ zs, k.has z
  | [], _ => ⟨[], rfl, rfl, by simp⟩
  | c :: css, h => by
    obtain ⟨zs, h1, h2, h3⟩ := rd_ints css (fun c hc => h c (List.mem_cons_of_mem _ hc))
    obtain ⟨_, m, y, h4, _⟩ := h c (List.mem_cons_self ..)
    obtain ⟨z, rfl, hz⟩ := rd_int h4
    refine ⟨z :: zs, by simp [h1], by simp [h2], fun x hx => ?_⟩
    rcases List.mem_cons.1 hx with rfl | hx
    · exact hz
    · exact h3 x hx
theorem arg_ints {k : IntKind} {z : Value} {by_ : Nat} [hu : Und P t (.slice e)] [hi : Inf P e 1 by_ z] [hue : Und P e (.int k)] (hval : Value.okWide P W rc b t v) (h : DataW.Trod enc P W 0 (fun _ => true) true t v d ps) (hw : Wgt P t d) :
    ∃ (A : Option Addr) (zs : List Int) (cap : Nat), v = .slice A zs.length cap ∧ zs.length ≤ cap ∧ Pl (Mem.of W) A (zs.map (Value.int k)) ∧ cap * by_ ≤ 140737488351232 ∧ ∀ z ∈ zs, k.has z := by
  obtain ⟨A, css, cap, rfl, h1, h2, h3, h4⟩ := arg_slice hval h hw
  obtain ⟨zs, h5, h6, h7⟩ := rd_ints (k := k) css h4
  exact ⟨A, zs, cap, by rw [h6], by omega, by rw [← h5]; exact h2, h3, h7⟩
end
end Go.Sx
