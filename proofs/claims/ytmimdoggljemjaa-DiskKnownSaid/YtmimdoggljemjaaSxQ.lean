/- Regions that draw their order, in two stages: reads and effects ahead of a barrier; behind it, what writes into what was read. -/
import Derived.Test.YtmimdoggljemjaaSxP
namespace Go.Sx
open Go.RowKit
variable {P : Program} {r : Option Nat} {n : Nat} {D : List Deferred} {L L' : Sl} {M M0 : Mem} {H Hs Hx : Hp} {Q : Post} {k : Sl → Mem → Hp → Prop}
def planZ (ops : Array Oper) : List Bool → List Nat → Array Bool → Bool
  | [], _, _ => true
  | _ :: _, [], _ => false
  | q :: ks, j :: is, listed => (Region.ready .any ops listed).contains j && (if q then Region.free .any ops listed j else decide (Region.ready .any ops listed = [j])) && planZ ops ks is (listed.setIfInBounds j true)
/-- what the first stage ends with -/
def EndQ (n : Nat) (D : List Deferred) (k : Sl → Mem → Hp → Prop) (M0 : Mem) (lA : Array Bool) (l : Array Bool) (a : Act) (w : World) : Prop := l = lA ∧ ∃ L' M' H', k L' M' H' ∧ M0.le M' ∧ Fr n D L' a ∧ Heap w M' H'
def RQ (P : Program) (r : Option Nat) (n : Nat) (ds : List (Option Tmp)) (ks : List Bool) (rest : List Oper) (Q : Post) (D : List Deferred) (k : Sl → Mem → Hp → Prop) (L : Sl) (M0 M : Mem) (Hs Hx : Hp) : Prop :=
  ∀ (ops : Array Oper) (js : List Nat) (listed : Array Bool) (A : List Nat) (lF lA : Array Bool), OpsOf ds ops → Region.noSelect ops = true → NoDefer ops → NoPanic Q → Barrier ops A lF → (∀ j, j ∈ js → j ∈ A) → (∀ j, listed.getD j true = false → lF.getD j true = false) →
    picked ops js rest → planZ ops ks js listed = true → ks.length = rest.length → (∀ j, j ∈ A → listed.getD j true = false → j ∈ js) → afterA js listed = lA → M0.le M →
    ∀ a, Fr n D L a → AnyZ r P ops M0 Hs Q (EndQ n D k M0 lA) rest.length listed a M Hx
section
variable {d : Option Tmp} {op : Op} {ty : TypeId} {pos : String} {af : Array Edge} {g : Option (Nat × Bool)} {v : Value} {ds : List (Option Tmp)} {ks : List Bool} {rest : List Oper}
theorem RQ.nil (h : k L M (Hs ++ Hx)) : RQ P r n ds [] [] Q D k L M0 M Hs Hx := by
  intro ops js listed A lF lA _ _ _ _ _ _ _ hl _ _ _ hlA hM a hf
  cases js with
  | nil => exact ⟨hM, fun w hh => ⟨hlA, _, _, _, h, hM, hf, hh⟩⟩
  | cons j js => exact hl.elim
theorem left_js {ops : Array Oper} {A js : List Nat} {j : Nat} {listed : Array Bool} (hr : j ∈ Region.ready .any ops listed) (hjs : ∀ i, i ∈ A → listed.getD i true = false → i ∈ j :: js) : ∀ i, i ∈ A → (listed.setIfInBounds j true).getD i true = false → i ∈ js := by
  intro i hi hun
  by_cases hij : j = i
  · subst hij
    exfalso
    have hun0 := (mem_ready.1 hr).1
    have hlt : j < listed.size := by
      rcases Nat.lt_or_ge j listed.size with h' | h'
      · exact h'
      · simp [Array.getElem?_eq_none h'] at hun0
    simp [hlt] at hun
  · rw [getD_set_ne true hij] at hun
    rcases List.mem_cons.1 (hjs i hi hun) with h | h
    · exact absurd h.symm hij
    · exact h
theorem RQ.step_ (hY : ∀ (ops : Array Oper) (a : Act), OpsOf ds ops → Fr n D L a → Yc P ops M0 Hs ⟨d, op, ty, pos, af, g⟩ v a) (hd : dok n d = true)
    (h : RQ P r n ds ks rest Q D k (bnd d v L) M0 M Hs Hx) : RQ P r n ds (true :: ks) (⟨d, op, ty, pos, af, g⟩ :: rest) Q D k L M0 M Hs Hx := by
  intro ops js listed A lF lA hO hS hN hQ hb hin hsub hl hp hlen hjs hlA hM a hf
  cases js with
  | nil => exact hl.elim
  | cons j js =>
  have h0 : ops[j]? = some ⟨d, op, ty, pos, af, g⟩ := hl.1
  simp only [planZ, Bool.and_eq_true, if_true] at hp
  obtain ⟨⟨p1, p2⟩, p3⟩ := hp
  have p1' : j ∈ Region.ready .any ops listed := by simpa using p1
  have key : AnyZ r P ops M0 Hs Q (EndQ n D k M0 lA) rest.length (listed.setIfInBounds j true) (a.put d v) M Hx :=
    h ops js _ A lF lA hO hS hN hQ hb (fun i hi => hin i (List.mem_cons_of_mem _ hi)) (sub_set hsub) hl.2 p3 (by simpa using hlen) (left_js p1' hjs) hlA hM _ (hf.put d hd v)
  exact AnyZ.first h0 (Region.noSelect_spec hS) hN hQ hb (hin j (List.mem_cons_self ..)) rest.length js listed a M Hx hsub (fun i hi hun => List.mem_cons.1 (hjs i hi hun)) (Nat.le_of_eq (picked_len js rest hl.2)) (Region.free_spec h0 p2) p1' (hY ops a hO hf) key
theorem RQ.step (hok : ∀ M' Hx', M0.le M' → Ok P ⟨d, op, ty, pos, af, none⟩ L M' (Hs ++ Hx') v) (hd : dok n d = true)
    (h : RQ P r n ds ks rest Q D k (bnd d v L) M0 M Hs Hx) : RQ P r n ds (true :: ks) (⟨d, op, ty, pos, af, none⟩ :: rest) Q D k L M0 M Hs Hx :=
  RQ.step_ (fun _ _ _ hf => .inl ⟨by simp [Region.wanted], fun M' Hx' w hM' hh' => (hok M' Hx' hM').qr hf hh'⟩) hd h
theorem RQ.stepT {j : Nat} {want : Bool} {dj : Tmp} (hdj : ds[j]? = some (some dj)) (hb : lk L dj = some (.bool want)) (hlt : Nat.ble (dj + 1) n = true) (hok : ∀ M' Hx', M0.le M' → Ok P ⟨d, op, ty, pos, af, some (j, want)⟩ L M' (Hs ++ Hx') v) (hd : dok n d = true)
    (h : RQ P r n ds ks rest Q D k (bnd d v L) M0 M Hs Hx) : RQ P r n ds (true :: ks) (⟨d, op, ty, pos, af, some (j, want)⟩ :: rest) Q D k L M0 M Hs Hx :=
  RQ.step_ (fun _ _ hO hf => .inl ⟨by rw [wanted_guard hf hO hdj hb hlt]; simp, fun M' Hx' w hM' hh' => (hok M' Hx' hM').qr hf hh'⟩) hd h
theorem RQ.stepF {j : Nat} {want b : Bool} {dj : Tmp} (hdj : ds[j]? = some (some dj)) (hb : lk L dj = some (.bool b)) (hlt : Nat.ble (dj + 1) n = true) (hne : (b == want) = false) (hd : dok n d = true)
    (h : RQ P r n ds ks rest Q D k (bnd d undef L) M0 M Hs Hx) : RQ P r n ds (true :: ks) (⟨d, op, ty, pos, af, some (j, want)⟩ :: rest) Q D k L M0 M Hs Hx :=
  RQ.step_ (fun _ _ hO hf => .inr ⟨by rw [wanted_guard hf hO hdj hb hlt]; exact hne, rfl⟩) hd h
def KQ (P : Program) (r : Option Nat) (n : Nat) (ds : List (Option Tmp)) (ks : List Bool) (rest : List Oper) (Q : Post) (D : List Deferred) (k : Sl → Mem → Hp → Prop) (M0 : Mem) (Hs : Hp) (Kc : Act → World → Prop) : Prop :=
  ∀ L' M' Hx', M0.le M' → RQ P r n ds ks rest Q D k L' M0 M' Hs Hx' → ∀ a w, Fr n D L' a → Heap w M' (Hs ++ Hx') → Kc a w
theorem Fin.kq {Kc : Act → World → Prop} (hk : KQ P r n ds ks rest Q D k M0 Hs Kc) (hM : M0.le M) (ha : Arr H (Hs ++ Hx)) (h : RQ P r n ds ks rest Q D k L M0 M Hs Hx) : Fin n .normal (Exit.then Kc Q) D L M H :=
  fun a w hf hh => hk L M Hx hM h a w hf (ha.heap hh)
theorem RQ.eff_ (hw : ∀ (ops : Array Oper) (a : Act), OpsOf ds ops → Fr n D L a → Region.wanted ⟨d, op, ty, pos, af, g⟩ (yielded ops a.tmps) = true)
    (h : ∀ Kc, KQ P r n ds ks rest Q D k M0 Hs Kc → ∀ ops, R false P r n ops [⟨d, op, ty, pos, af, none⟩] (Exit.then Kc Q) D L M (Hs ++ Hx)) : RQ P r n ds (false :: ks) (⟨d, op, ty, pos, af, g⟩ :: rest) Q D k L M0 M Hs Hx := by
  intro ops js listed A lF lA hO hS hN hQ hb hin hsub hl hp hlen hjs hlA hM a hf
  cases js with
  | nil => exact hl.elim
  | cons j js =>
  have h0 : ops[j]? = some ⟨d, op, ty, pos, af, g⟩ := hl.1
  simp only [planZ, Bool.and_eq_true, Bool.false_eq_true, if_false, decide_eq_true_eq] at hp
  obtain ⟨⟨p1, p2⟩, p3⟩ := hp
  have p1' : j ∈ Region.ready .any ops listed := by simpa using p1
  change AnyZ r P ops M0 Hs Q (EndQ n D k M0 lA) (rest.length + 1) listed a M Hx
  refine ⟨hM, fun e => (by rw [p2] at e; cases e), fun i hi w hh => ?_⟩
  rw [p2] at hi
  simp only [List.mem_singleton] at hi
  subst hi
  have hk : KQ P r n ds ks rest Q D k M0 Hs (fun a' w' => ∃ M' Hx', Heap w' M' (Hs ++ Hx') ∧ AnyZ r P ops M0 Hs Q (EndQ n D k M0 lA) rest.length (listed.setIfInBounds i true) a' M' Hx') := by
    intro L' M' Hx' hM' hRQ a' w' hf' hh'
    exact ⟨M', Hx', hh', hRQ ops js _ A lF lA hO hS hN hQ hb (fun x hx => hin x (List.mem_cons_of_mem _ hx)) (sub_set hsub) hl.2 p3 (by simpa using hlen) (left_js p1' hjs) hlA hM' a' hf'⟩
  have h1 := h _ hk #[] a w hf hh
  unfold wpListIn at h1
  rw [if_pos (by simp [Region.wanted])] at h1
  unfold wpOpIn
  simp only [h0]
  rw [hw ops a hO hf, if_pos rfl]
  exact (wpIn_post (fun _ _ _ h => h) (fun _ _ h => h) h1 : (⟨d, op, ty, pos, af, none⟩ : Oper).wpIn (F0 r) 0 P a w _ Q)
theorem RQ.eff (h : ∀ Kc, KQ P r n ds ks rest Q D k M0 Hs Kc → ∀ ops, R false P r n ops [⟨d, op, ty, pos, af, none⟩] (Exit.then Kc Q) D L M (Hs ++ Hx)) : RQ P r n ds (false :: ks) (⟨d, op, ty, pos, af, none⟩ :: rest) Q D k L M0 M Hs Hx :=
  RQ.eff_ (fun _ _ _ _ => by simp [Region.wanted]) h
end
theorem C.regionE {id : Nat} {l : List Oper} (isA isB : List Nat) (ksA : List Bool) (ksB : List Nat) (lA lB : List Oper) (Hs Hx : Hp) (hm : P.follows .mixedOrders = true) (hH : Arr H (Hs ++ Hx)) (hQ : NoPanic Q) (hpA : picked l.toArray isA lA) (hpB : picked l.toArray isB lB)
    (hB : (Region.noSelect l.toArray && noDeferB l && barrierB l.toArray isA (Array.replicate l.length false) && planZ l.toArray ksA isA (Array.replicate l.length false) &&
      planFrom l.toArray ksB isB (afterA isA (Array.replicate l.length false)) && Nat.beq ksA.length lA.length && Nat.beq ksB.length lB.length && Nat.beq (lB.length + lA.length) l.length) = true)
    (h : ∀ ds, ds = l.map (·.dst) → RQ P r n ds ksA lA Q D (fun L' M' H' => RP P r n ds ksB lB Q D L' M M' [] H') L M M Hs Hx) : C P r n (.region id l.toArray true) Q D L M H := by
  intro a w hf hh
  simp only [Bool.and_eq_true] at hB
  obtain ⟨⟨⟨⟨⟨⟨⟨h1, h2⟩, h3⟩, h4⟩, h5⟩, h6⟩, h7⟩, h8⟩ := hB
  refine wpIn_region_any hm ?_
  have h9 : lB.length + lA.length = l.toArray.size := by simpa using Nat.eq_of_beq_eq_true h8
  have hAny := h _ rfl l.toArray isA (Array.replicate l.length false) isA (Array.replicate l.length false) _ (OpsOf.self l) h1 (NoDefer.of h2) hQ (Barrier.of h3) (fun _ hj => hj) (fun _ hj => hj) hpA h4 (Nat.eq_of_beq_eq_true h6) (fun _ hj _ => hj) rfl (Mem.le_refl M) a hf
  obtain ⟨M', Hx', h10, h11⟩ := AnyZ.toH (g := lB.length) (Mem.le_refl M) (fun listed a w ⟨hl, L', M', H', hk, hM', hf', hh'⟩ => by
    subst hl
    exact ⟨M', H', hh', hk l.toArray isB _ (OpsOf.self l) h1 (NoDefer.of h2) hQ hpB h5 (Nat.eq_of_beq_eq_true h7) hM' _ hf'⟩) lA.length _ a M Hx { w with drawn := w.drawn + 1 } ((hH.heap hh).drawn _) hAny
  rw [h9] at h11
  have := AnyH.any (r := r) _ _ _ M' Hx' _ h10 h11
  simpa using this
end Go.Sx
