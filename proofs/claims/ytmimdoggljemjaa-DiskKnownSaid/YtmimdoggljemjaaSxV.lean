/- Regions that draw their order, in two stages; the first may have two effects in either order. -/
import Derived.Test.YtmimdoggljemjaaSxU
namespace Go.Sx
open Go.RowKit
variable {P : Program} {r : Option Nat} {n : Nat} {D : List Deferred} {L L' : Sl} {M M0 : Mem} {H Hs Hx : Hp} {Q : Post} {k : Sl → Mem → Hp → Prop}
def planY (ops : Array Oper) : List Nat → List Nat → Array Bool → Bool
  | [], _, _ => true
  | 1 :: ks, k :: is, listed => (Region.ready .any ops listed).contains k && Region.free .any ops listed k && planY ops ks is (listed.setIfInBounds k true)
  | 0 :: ks, k :: is, listed => (Region.ready .any ops listed).contains k && decide (Region.ready .any ops listed = [k]) && planY ops ks is (listed.setIfInBounds k true)
  | 2 :: 2 :: ks, i :: j :: is, listed => (Region.ready .any ops listed).all (fun k => Nat.beq k i || Nat.beq k j) && !(Region.ready .any ops listed).isEmpty && decide (Region.ready .any ops (listed.setIfInBounds i true) = [j]) && decide (Region.ready .any ops (listed.setIfInBounds j true) = [i]) && !(Nat.beq i j) && planY ops ks is ((listed.setIfInBounds i true).setIfInBounds j true)
  | 3 :: 3 :: 3 :: ks, i :: j :: l :: is, listed => (Region.ready .any ops listed).all (fun k => Nat.beq k i || Nat.beq k l) && !(Region.ready .any ops listed).isEmpty && (Region.ready .any ops (listed.setIfInBounds i true)).all (fun k => Nat.beq k j || Nat.beq k l) && !(Region.ready .any ops (listed.setIfInBounds i true)).isEmpty && decide (Region.ready .any ops ((listed.setIfInBounds i true).setIfInBounds j true) = [l]) && decide (Region.ready .any ops ((listed.setIfInBounds i true).setIfInBounds l true) = [j]) && decide (Region.ready .any ops (listed.setIfInBounds l true) = [i]) && decide (Region.ready .any ops ((listed.setIfInBounds l true).setIfInBounds i true) = [j]) && !(Nat.beq i j) && !(Nat.beq i l) && !(Nat.beq j l) && planY ops ks is (((listed.setIfInBounds i true).setIfInBounds j true).setIfInBounds l true)
  | _, _, _ => false
def RY (P : Program) (r : Option Nat) (n : Nat) (ds : List (Option Tmp)) (ks : List Nat) (rest : List Oper) (Q : Post) (D : List Deferred) (k : Sl → Mem → Hp → Prop) (L : Sl) (M0 M : Mem) (Hs Hx : Hp) : Prop :=
  ∀ (ops : Array Oper) (js : List Nat) (listed : Array Bool) (A : List Nat) (lF lA : Array Bool), OpsOf ds ops → Region.noSelect ops = true → NoDefer ops → NoPanic Q → Barrier ops A lF → (∀ j, j ∈ js → j ∈ A) → (∀ j, listed.getD j true = false → lF.getD j true = false) →
    picked ops js rest → planY ops ks js listed = true → ks.length = rest.length → (∀ j, j ∈ A → listed.getD j true = false → j ∈ js) → afterA js listed = lA → M0.le M →
    ∀ a, Fr n D L a → AnyZ r P ops M0 Hs Q (EndQ n D k M0 lA) rest.length listed a M Hx
section
variable {d : Option Tmp} {op : Op} {ty : TypeId} {pos : String} {af : Array Edge} {g : Option (Nat × Bool)} {v : Value} {ds : List (Option Tmp)} {ks : List Nat} {rest : List Oper}
theorem RY.nil (h : k L M (Hs ++ Hx)) : RY P r n ds [] [] Q D k L M0 M Hs Hx := by
  intro ops js listed A lF lA _ _ _ _ _ _ _ hl _ _ _ hlA hM a hf
  cases js with
  | nil => exact ⟨hM, fun w hh => ⟨hlA, _, _, _, h, hM, hf, hh⟩⟩
  | cons j js => exact hl.elim
theorem RY.step_ (hY : ∀ (ops : Array Oper) (a : Act), OpsOf ds ops → Fr n D L a → Yc P ops M0 Hs ⟨d, op, ty, pos, af, g⟩ v a) (hd : dok n d = true)
    (h : RY P r n ds ks rest Q D k (bnd d v L) M0 M Hs Hx) : RY P r n ds (1 :: ks) (⟨d, op, ty, pos, af, g⟩ :: rest) Q D k L M0 M Hs Hx := by
  intro ops js listed A lF lA hO hS hN hQ hb hin hsub hl hp hlen hjs hlA hM a hf
  cases js with
  | nil => exact hl.elim
  | cons j js =>
  have h0 : ops[j]? = some ⟨d, op, ty, pos, af, g⟩ := hl.1
  simp only [planY, Bool.and_eq_true] at hp
  obtain ⟨⟨p1, p2⟩, p3⟩ := hp
  have p1' : j ∈ Region.ready .any ops listed := by simpa using p1
  have key : AnyZ r P ops M0 Hs Q (EndQ n D k M0 lA) rest.length (listed.setIfInBounds j true) (a.put d v) M Hx :=
    h ops js _ A lF lA hO hS hN hQ hb (fun i hi => hin i (List.mem_cons_of_mem _ hi)) (sub_set hsub) hl.2 p3 (by simpa using hlen) (left_js p1' hjs) hlA hM _ (hf.put d hd v)
  exact AnyZ.first h0 (Region.noSelect_spec hS) hN hQ hb (hin j (List.mem_cons_self ..)) rest.length js listed a M Hx hsub (fun i hi hun => List.mem_cons.1 (hjs i hi hun)) (Nat.le_of_eq (picked_len js rest hl.2)) (Region.free_spec h0 p2) p1' (hY ops a hO hf) key
theorem RY.step (hok : ∀ M' Hx', M0.le M' → Ok P ⟨d, op, ty, pos, af, none⟩ L M' (Hs ++ Hx') v) (hd : dok n d = true)
    (h : RY P r n ds ks rest Q D k (bnd d v L) M0 M Hs Hx) : RY P r n ds (1 :: ks) (⟨d, op, ty, pos, af, none⟩ :: rest) Q D k L M0 M Hs Hx :=
  RY.step_ (fun _ _ _ hf => .inl ⟨by simp [Region.wanted], fun M' Hx' w hM' hh' => (hok M' Hx' hM').qr hf hh'⟩) hd h
theorem RY.stepT {j : Nat} {want : Bool} {dj : Tmp} (hdj : ds[j]? = some (some dj)) (hb : lk L dj = some (.bool want)) (hlt : Nat.ble (dj + 1) n = true) (hok : ∀ M' Hx', M0.le M' → Ok P ⟨d, op, ty, pos, af, some (j, want)⟩ L M' (Hs ++ Hx') v) (hd : dok n d = true)
    (h : RY P r n ds ks rest Q D k (bnd d v L) M0 M Hs Hx) : RY P r n ds (1 :: ks) (⟨d, op, ty, pos, af, some (j, want)⟩ :: rest) Q D k L M0 M Hs Hx :=
  RY.step_ (fun _ _ hO hf => .inl ⟨by rw [wanted_guard hf hO hdj hb hlt]; simp, fun M' Hx' w hM' hh' => (hok M' Hx' hM').qr hf hh'⟩) hd h
theorem RY.stepF {j : Nat} {want b : Bool} {dj : Tmp} (hdj : ds[j]? = some (some dj)) (hb : lk L dj = some (.bool b)) (hlt : Nat.ble (dj + 1) n = true) (hne : (b == want) = false) (hd : dok n d = true)
    (h : RY P r n ds ks rest Q D k (bnd d undef L) M0 M Hs Hx) : RY P r n ds (1 :: ks) (⟨d, op, ty, pos, af, some (j, want)⟩ :: rest) Q D k L M0 M Hs Hx :=
  RY.step_ (fun _ _ hO hf => .inr ⟨by rw [wanted_guard hf hO hdj hb hlt]; exact hne, rfl⟩) hd h
def KY (P : Program) (r : Option Nat) (n : Nat) (ds : List (Option Tmp)) (ks : List Nat) (rest : List Oper) (Q : Post) (D : List Deferred) (k : Sl → Mem → Hp → Prop) (M0 : Mem) (Hs : Hp) (Kc : Act → World → Prop) : Prop :=
  ∀ L' M' Hx', M0.le M' → RY P r n ds ks rest Q D k L' M0 M' Hs Hx' → ∀ a w, Fr n D L' a → Heap w M' (Hs ++ Hx') → Kc a w
theorem Fin.ky {Kc : Act → World → Prop} (hk : KY P r n ds ks rest Q D k M0 Hs Kc) (hM : M0.le M) (ha : Arr H (Hs ++ Hx)) (h : RY P r n ds ks rest Q D k L M0 M Hs Hx) : Fin n .normal (Exit.then Kc Q) D L M H :=
  fun a w hf hh => hk L M Hx hM h a w hf (ha.heap hh)
theorem RY.eff_ (hw : ∀ (ops : Array Oper) (a : Act), OpsOf ds ops → Fr n D L a → Region.wanted ⟨d, op, ty, pos, af, g⟩ (yielded ops a.tmps) = true)
    (h : ∀ Kc, KY P r n ds ks rest Q D k M0 Hs Kc → ∀ ops, R false P r n ops [⟨d, op, ty, pos, af, none⟩] (Exit.then Kc Q) D L M (Hs ++ Hx)) : RY P r n ds (0 :: ks) (⟨d, op, ty, pos, af, g⟩ :: rest) Q D k L M0 M Hs Hx := by
  intro ops js listed A lF lA hO hS hN hQ hb hin hsub hl hp hlen hjs hlA hM a hf
  cases js with
  | nil => exact hl.elim
  | cons j js =>
  have h0 : ops[j]? = some ⟨d, op, ty, pos, af, g⟩ := hl.1
  simp only [planY, Bool.and_eq_true, decide_eq_true_eq] at hp
  obtain ⟨⟨p1, p2⟩, p3⟩ := hp
  have p1' : j ∈ Region.ready .any ops listed := by simpa using p1
  change AnyZ r P ops M0 Hs Q (EndQ n D k M0 lA) (rest.length + 1) listed a M Hx
  refine ⟨hM, fun e => (by rw [p2] at e; cases e), fun i hi w hh => ?_⟩
  rw [p2] at hi
  simp only [List.mem_singleton] at hi
  subst hi
  have hk : KY P r n ds ks rest Q D k M0 Hs (fun a' w' => ∃ M' Hx', Heap w' M' (Hs ++ Hx') ∧ AnyZ r P ops M0 Hs Q (EndQ n D k M0 lA) rest.length (listed.setIfInBounds i true) a' M' Hx') := by
    intro L' M' Hx' hM' hRY a' w' hf' hh'
    exact ⟨M', Hx', hh', hRY ops js _ A lF lA hO hS hN hQ hb (fun x hx => hin x (List.mem_cons_of_mem _ hx)) (sub_set hsub) hl.2 p3 (by simpa using hlen) (left_js p1' hjs) hlA hM' a' hf'⟩
  have h1 := h _ hk #[] a w hf hh
  unfold wpListIn at h1
  rw [if_pos (by simp [Region.wanted])] at h1
  unfold wpOpIn
  simp only [h0]
  rw [hw ops a hO hf, if_pos rfl]
  exact (wpIn_post (fun _ _ _ h => h) (fun _ _ h => h) h1 : (⟨d, op, ty, pos, af, none⟩ : Oper).wpIn (F0 r) 0 P a w _ Q)
theorem RY.eff (h : ∀ Kc, KY P r n ds ks rest Q D k M0 Hs Kc → ∀ ops, R false P r n ops [⟨d, op, ty, pos, af, none⟩] (Exit.then Kc Q) D L M (Hs ++ Hx)) : RY P r n ds (0 :: ks) (⟨d, op, ty, pos, af, none⟩ :: rest) Q D k L M0 M Hs Hx :=
  RY.eff_ (fun _ _ _ _ => by simp [Region.wanted]) h
theorem ready_lt {ops : Array Oper} {l : Array Bool} {i : Nat} (h : i ∈ Region.ready .any ops l) : i < l.size := by
  have hun0 := (mem_ready.1 h).1
  rcases Nat.lt_or_ge i l.size with h' | h'
  · exact h'
  · simp [Array.getElem?_eq_none h'] at hun0
theorem left_js' {A js : List Nat} {j : Nat} {listed : Array Bool} (hlt : j < listed.size) (hjs : ∀ i, i ∈ A → listed.getD i true = false → i ∈ j :: js) : ∀ i, i ∈ A → (listed.setIfInBounds j true).getD i true = false → i ∈ js := by
  intro i hi hun
  by_cases hij : j = i
  · subst hij
    exfalso
    simp [hlt] at hun
  · rw [getD_set_ne true hij] at hun
    rcases List.mem_cons.1 (hjs i hi hun) with h | h
    · exact absurd h.symm hij
    · exact h
theorem RY.pair {X : Type} (I : X → Prop) (Lf : X → Sl) (Mf : X → Mem) (Hf : X → Hp) {d2 : Option Tmp} {op2 : Op} {ty2 : TypeId} {pos2 : String} {af2 : Array Edge}
    (h1 : ∀ Kc, KE P r n ⟨d2, op2, ty2, pos2, af2, none⟩ (Exit.then (Meet n D I Lf Mf Hf M0 Hs) Q) M0 Hs Kc → ∀ ops, R false P r n ops [⟨d, op, ty, pos, af, none⟩] (Exit.then Kc Q) D L M (Hs ++ Hx))
    (h2 : ∀ Kc, KE P r n ⟨d, op, ty, pos, af, none⟩ (Exit.then (Meet n D I Lf Mf Hf M0 Hs) Q) M0 Hs Kc → ∀ ops, R false P r n ops [⟨d2, op2, ty2, pos2, af2, none⟩] (Exit.then Kc Q) D L M (Hs ++ Hx))
    (h : ∀ y, I y → RY P r n ds ks rest Q D k (Lf y) M0 (Mf y) Hs (Hf y)) : RY P r n ds (2 :: 2 :: ks) (⟨d, op, ty, pos, af, none⟩ :: ⟨d2, op2, ty2, pos2, af2, none⟩ :: rest) Q D k L M0 M Hs Hx := by
  intro ops js listed A lF lA hO hS hN hQ hb hin hsub hl hp hlen hjs hlA hM a hf
  match js, hl, hp, hlA with
  | [], hl, _, _ => exact hl.elim
  | [_], hl, _, _ => exact hl.2.elim
  | i :: j :: js, hl, hp, hlA =>
  have hi0 : ops[i]? = some ⟨d, op, ty, pos, af, none⟩ := hl.1
  have hj0 : ops[j]? = some ⟨d2, op2, ty2, pos2, af2, none⟩ := hl.2.1
  simp only [planY, Bool.and_eq_true, decide_eq_true_eq] at hp
  obtain ⟨⟨⟨⟨⟨p1, p2⟩, p3⟩, p4⟩, p5⟩, p6⟩ := hp
  have hij : i ≠ j := fun e => by subst e; simp at p5
  have hcomm : (listed.setIfInBounds j true).setIfInBounds i true = (listed.setIfInBounds i true).setIfInBounds j true := Array.setIfInBounds_comm _ _ (Ne.symm hij)
  have li : i < listed.size := by
    have := ready_lt (l := listed.setIfInBounds j true) (by rw [p4]; exact List.mem_singleton.2 rfl : i ∈ _)
    simpa using this
  have lj : j < (listed.setIfInBounds i true).size := ready_lt (by rw [p3]; exact List.mem_singleton.2 rfl)
  have key : ∀ a' w', Meet n D I Lf Mf Hf M0 Hs a' w' → ∃ M' Hx', Heap w' M' (Hs ++ Hx') ∧ AnyZ r P ops M0 Hs Q (EndQ n D k M0 lA) rest.length ((listed.setIfInBounds i true).setIfInBounds j true) a' M' Hx' := by
    rintro a' w' ⟨y, hI, hMy, hfy, hhy⟩
    exact ⟨Mf y, Hf y, hhy, h y hI ops js _ A lF lA hO hS hN hQ hb (fun x hx => hin x (List.mem_cons_of_mem _ (List.mem_cons_of_mem _ hx))) (sub_set (sub_set hsub)) hl.2.2 p6 (by simpa using hlen) (left_js' lj (left_js' li hjs)) hlA hMy a' hfy⟩
  change AnyZ r P ops M0 Hs Q (EndQ n D k M0 lA) (rest.length + 2) listed a M Hx
  refine ⟨hM, fun e => (by rw [e] at p2; simp at p2), fun q hq w hh => ?_⟩
  have hq' := List.all_eq_true.1 p1 q hq
  rw [Bool.or_eq_true] at hq'
  rcases hq' with hq' | hq'
  · obtain rfl := Nat.eq_of_beq_eq_true hq'
    refine wpOpIn_eff hi0 (h1 _ ?_ #[] a w hf hh)
    intro D' L' M' Hx' hM' hR a' w' hf' hh'
    refine ⟨M', Hx', hh', ?_⟩
    refine ⟨hM', fun e => (by rw [p3] at e; cases e), fun q2 hq2 w2 hh2 => ?_⟩
    rw [p3, List.mem_singleton] at hq2
    subst hq2
    exact wpOpIn_mono key (wpOpIn_eff hj0 (hR #[] a' w2 hf' hh2))
  · obtain rfl := Nat.eq_of_beq_eq_true hq'
    refine wpOpIn_eff hj0 (h2 _ ?_ #[] a w hf hh)
    intro D' L' M' Hx' hM' hR a' w' hf' hh'
    refine ⟨M', Hx', hh', ?_⟩
    refine ⟨hM', fun e => (by rw [p4] at e; cases e), fun q2 hq2 w2 hh2 => ?_⟩
    rw [p4, List.mem_singleton] at hq2
    subst hq2
    refine wpOpIn_mono ?_ (wpOpIn_eff hi0 (hR #[] a' w2 hf' hh2))
    rw [hcomm]
    exact key
def KF (P : Program) (r : Option Nat) (n : Nat) (o2 o3 : Oper) (Q Q' : Post) (M0 : Mem) (Hs : Hp) (Kc : Act → World → Prop) : Prop :=
  ∀ D L' M' Hx', M0.le M' → (∀ Kc2, KE P r n o3 Q' M0 Hs Kc2 → ∀ ops, R false P r n ops [o2] (Exit.then Kc2 Q) D L' M' (Hs ++ Hx')) → (∀ Kc2, KE P r n o2 Q' M0 Hs Kc2 → ∀ ops, R false P r n ops [o3] (Exit.then Kc2 Q) D L' M' (Hs ++ Hx')) → ∀ a w, Fr n D L' a → Heap w M' (Hs ++ Hx') → Kc a w
theorem Fin.kf {o2 o3 : Oper} {Q' : Post} {Kc : Act → World → Prop} (hk : KF P r n o2 o3 Q Q' M0 Hs Kc) (hM : M0.le M) (ha : Arr H (Hs ++ Hx)) (h1 : ∀ Kc2, KE P r n o3 Q' M0 Hs Kc2 → ∀ ops, R false P r n ops [o2] (Exit.then Kc2 Q) D L M (Hs ++ Hx)) (h2 : ∀ Kc2, KE P r n o2 Q' M0 Hs Kc2 → ∀ ops, R false P r n ops [o3] (Exit.then Kc2 Q) D L M (Hs ++ Hx)) : Fin n .normal (Exit.then Kc Q) D L M H :=
  fun a w hf hh => hk D L M Hx hM h1 h2 a w hf (ha.heap hh)
def KG (P : Program) (r : Option Nat) (n : Nat) (o1 o2 : Oper) (Q Q' : Post) (M0 : Mem) (Hs : Hp) (Kc : Act → World → Prop) : Prop :=
  ∀ D L' M' Hx', M0.le M' → (∀ Kc2, KE P r n o2 Q' M0 Hs Kc2 → ∀ ops, R false P r n ops [o1] (Exit.then Kc2 Q) D L' M' (Hs ++ Hx')) → ∀ a w, Fr n D L' a → Heap w M' (Hs ++ Hx') → Kc a w
theorem Fin.kg {o1 o2 : Oper} {Q' : Post} {Kc : Act → World → Prop} (hk : KG P r n o1 o2 Q Q' M0 Hs Kc) (hM : M0.le M) (ha : Arr H (Hs ++ Hx)) (h1 : ∀ Kc2, KE P r n o2 Q' M0 Hs Kc2 → ∀ ops, R false P r n ops [o1] (Exit.then Kc2 Q) D L M (Hs ++ Hx)) : Fin n .normal (Exit.then Kc Q) D L M H :=
  fun a w hf hh => hk D L M Hx hM h1 a w hf (ha.heap hh)
/-- three operations that write: the second stands behind the first, the third anywhere -/
theorem RY.tri {X : Type} (I : X → Prop) (Lf : X → Sl) (Mf : X → Mem) (Hf : X → Hp) {d2 d3 : Option Tmp} {op2 op3 : Op} {ty2 ty3 : TypeId} {pos2 pos3 : String} {af2 af3 : Array Edge}
    (h1 : ∀ Kc, KF P r n ⟨d2, op2, ty2, pos2, af2, none⟩ ⟨d3, op3, ty3, pos3, af3, none⟩ Q (Exit.then (Meet n D I Lf Mf Hf M0 Hs) Q) M0 Hs Kc → ∀ ops, R false P r n ops [⟨d, op, ty, pos, af, none⟩] (Exit.then Kc Q) D L M (Hs ++ Hx))
    (h2 : ∀ Kc, KG P r n ⟨d, op, ty, pos, af, none⟩ ⟨d2, op2, ty2, pos2, af2, none⟩ Q (Exit.then (Meet n D I Lf Mf Hf M0 Hs) Q) M0 Hs Kc → ∀ ops, R false P r n ops [⟨d3, op3, ty3, pos3, af3, none⟩] (Exit.then Kc Q) D L M (Hs ++ Hx))
    (h : ∀ y, I y → RY P r n ds ks rest Q D k (Lf y) M0 (Mf y) Hs (Hf y)) : RY P r n ds (3 :: 3 :: 3 :: ks) (⟨d, op, ty, pos, af, none⟩ :: ⟨d2, op2, ty2, pos2, af2, none⟩ :: ⟨d3, op3, ty3, pos3, af3, none⟩ :: rest) Q D k L M0 M Hs Hx := by
  intro ops js listed A lF lA hO hS hN hQ hb hin hsub hl hp hlen hjs hlA hM a hf
  match js, hl, hp, hlA with
  | [], hl, _, _ => exact hl.elim
  | [_], hl, _, _ => exact hl.2.elim
  | [_, _], hl, _, _ => exact hl.2.2.elim
  | i :: j :: l :: js, hl, hp, hlA =>
  have hi0 : ops[i]? = some ⟨d, op, ty, pos, af, none⟩ := hl.1
  have hj0 : ops[j]? = some ⟨d2, op2, ty2, pos2, af2, none⟩ := hl.2.1
  have hl0 : ops[l]? = some ⟨d3, op3, ty3, pos3, af3, none⟩ := hl.2.2.1
  simp only [planY, Bool.and_eq_true, decide_eq_true_eq] at hp
  obtain ⟨⟨⟨⟨⟨⟨⟨⟨⟨⟨⟨p1, p2⟩, p3⟩, p4⟩, p5⟩, p6⟩, p7⟩, p8⟩, p9⟩, p10⟩, p11⟩, p12⟩ := hp
  have hij : i ≠ j := fun e => by subst e; simp at p9
  have hil : i ≠ l := fun e => by subst e; simp at p10
  have hjl : j ≠ l := fun e => by subst e; simp at p11
  have c1 : ((listed.setIfInBounds i true).setIfInBounds l true).setIfInBounds j true = ((listed.setIfInBounds i true).setIfInBounds j true).setIfInBounds l true := Array.setIfInBounds_comm _ _ (Ne.symm hjl)
  have c2 : ((listed.setIfInBounds l true).setIfInBounds i true).setIfInBounds j true = ((listed.setIfInBounds i true).setIfInBounds j true).setIfInBounds l true := by
    rw [← c1, Array.setIfInBounds_comm true true (Ne.symm hil)]
  have li : i < listed.size := by
    have := ready_lt (l := listed.setIfInBounds l true) (by rw [p7]; exact List.mem_singleton.2 rfl : i ∈ _)
    simpa using this
  have lj : j < (listed.setIfInBounds i true).size := by
    have := ready_lt (l := (listed.setIfInBounds i true).setIfInBounds l true) (by rw [p6]; exact List.mem_singleton.2 rfl : j ∈ _)
    simpa using this
  have ll : l < ((listed.setIfInBounds i true).setIfInBounds j true).size := ready_lt (by rw [p5]; exact List.mem_singleton.2 rfl)
  have key : ∀ a' w', Meet n D I Lf Mf Hf M0 Hs a' w' → ∃ M' Hx', Heap w' M' (Hs ++ Hx') ∧ AnyZ r P ops M0 Hs Q (EndQ n D k M0 lA) rest.length (((listed.setIfInBounds i true).setIfInBounds j true).setIfInBounds l true) a' M' Hx' := by
    rintro a' w' ⟨y, hI, hMy, hfy, hhy⟩
    exact ⟨Mf y, Hf y, hhy, h y hI ops js _ A lF lA hO hS hN hQ hb (fun x hx => hin x (List.mem_cons_of_mem _ (List.mem_cons_of_mem _ (List.mem_cons_of_mem _ hx)))) (sub_set (sub_set (sub_set hsub))) hl.2.2.2 p12 (by simpa using hlen) (left_js' ll (left_js' lj (left_js' li hjs))) hlA hMy a' hfy⟩
  change AnyZ r P ops M0 Hs Q (EndQ n D k M0 lA) (rest.length + 3) listed a M Hx
  refine ⟨hM, fun e => (by rw [e] at p2; simp at p2), fun q hq w hh => ?_⟩
  have hq' := List.all_eq_true.1 p1 q hq
  rw [Bool.or_eq_true] at hq'
  rcases hq' with hq' | hq'
  · obtain rfl := Nat.eq_of_beq_eq_true hq'
    refine wpOpIn_eff hi0 (h1 _ ?_ #[] a w hf hh)
    intro D' L' M' Hx' hM' hR1 hR2 a' w' hf' hh'
    refine ⟨M', Hx', hh', ?_⟩
    refine ⟨hM', fun e => (by rw [e] at p4; simp at p4), fun q2 hq2 w2 hh2 => ?_⟩
    have hq2' := List.all_eq_true.1 p3 q2 hq2
    rw [Bool.or_eq_true] at hq2'
    rcases hq2' with hq2' | hq2'
    · obtain rfl := Nat.eq_of_beq_eq_true hq2'
      refine wpOpIn_eff hj0 (hR1 _ ?_ #[] a' w2 hf' hh2)
      intro D2 L2 M2 Hx2 hM2 hR3 a2 w3 hf2 hh3
      refine ⟨M2, Hx2, hh3, hM2, fun e => (by rw [p5] at e; cases e), fun q3 hq3 w4 hh4 => ?_⟩
      rw [p5, List.mem_singleton] at hq3
      subst hq3
      exact wpOpIn_mono key (wpOpIn_eff hl0 (hR3 #[] a2 w4 hf2 hh4))
    · obtain rfl := Nat.eq_of_beq_eq_true hq2'
      refine wpOpIn_eff hl0 (hR2 _ ?_ #[] a' w2 hf' hh2)
      intro D2 L2 M2 Hx2 hM2 hR3 a2 w3 hf2 hh3
      refine ⟨M2, Hx2, hh3, hM2, fun e => (by rw [p6] at e; cases e), fun q3 hq3 w4 hh4 => ?_⟩
      rw [p6, List.mem_singleton] at hq3
      subst hq3
      refine wpOpIn_mono ?_ (wpOpIn_eff hj0 (hR3 #[] a2 w4 hf2 hh4))
      rw [c1]
      exact key
  · obtain rfl := Nat.eq_of_beq_eq_true hq'
    refine wpOpIn_eff hl0 (h2 _ ?_ #[] a w hf hh)
    intro D' L' M' Hx' hM' hR1 a' w' hf' hh'
    refine ⟨M', Hx', hh', hM', fun e => (by rw [p7] at e; cases e), fun q2 hq2 w2 hh2 => ?_⟩
    rw [p7, List.mem_singleton] at hq2
    subst hq2
    refine wpOpIn_eff hi0 (hR1 _ ?_ #[] a' w2 hf' hh2)
    intro D2 L2 M2 Hx2 hM2 hR3 a2 w3 hf2 hh3
    refine ⟨M2, Hx2, hh3, hM2, fun e => (by rw [p8] at e; cases e), fun q3 hq3 w4 hh4 => ?_⟩
    rw [p8, List.mem_singleton] at hq3
    subst hq3
    refine wpOpIn_mono ?_ (wpOpIn_eff hj0 (hR3 #[] a2 w4 hf2 hh4))
    rw [c2]
    exact key
end
theorem C.regionY {id : Nat} {l : List Oper} (isA isB : List Nat) (ksA : List Nat) (ksB : List Nat) (lA lB : List Oper) (Hs Hx : Hp) (hm : P.follows .mixedOrders = true) (hH : Arr H (Hs ++ Hx)) (hQ : NoPanic Q) (hpA : picked l.toArray isA lA) (hpB : picked l.toArray isB lB)
    (hB : (Region.noSelect l.toArray && noDeferB l && barrierB l.toArray isA (Array.replicate l.length false) && planY l.toArray ksA isA (Array.replicate l.length false) &&
      planFrom l.toArray ksB isB (afterA isA (Array.replicate l.length false)) && Nat.beq ksA.length lA.length && Nat.beq ksB.length lB.length && Nat.beq (lB.length + lA.length) l.length) = true)
    (h : ∀ ds, ds = l.map (·.dst) → RY P r n ds ksA lA Q D (fun L' M' H' => RP P r n ds ksB lB Q D L' M M' [] H') L M M Hs Hx) : C P r n (.region id l.toArray true) Q D L M H := by
  intro a w hf hh
  simp only [Bool.and_eq_true] at hB
  obtain ⟨⟨⟨⟨⟨⟨⟨h1, h2⟩, h3⟩, h4⟩, h5⟩, h6⟩, h7⟩, h8⟩ := hB
  refine wpIn_region_any hm ?_
  have h9 : lB.length + lA.length = l.toArray.size := by simpa using Nat.eq_of_beq_eq_true h8
  have hAny := h _ rfl l.toArray isA (Array.replicate l.length false) isA (Array.replicate l.length false) _ (OpsOf.self l) h1 (NoDefer.of h2) hQ (Barrier.of h3) (fun _ hj => hj) (fun _ hj => hj) hpA h4 (Nat.eq_of_beq_eq_true h6) (fun _ hj _ => hj) rfl (Mem.le_refl M) a hf
  obtain ⟨M', Hx', h10, h11⟩ := AnyZ.toH (g := lB.length) (Mem.le_refl M) (fun listed a w ⟨hl, L', M', H', hk, hM', hf', hh'⟩ => by
    subst hl
    exact ⟨M', H', hh', hk l.toArray isB _ (OpsOf.self l) h1 (NoDefer.of h2) hQ hpB h5 (Nat.eq_of_beq_eq_true h7) hM' _ hf'⟩) lA.length _ a M Hx { w with drawn := w.drawn + 1 } ((hH.heap hh).drawn _) hAny
  rw [h9] at h11
  have := AnyH.any (r := r) _ _ _ M' Hx' _ h10 h11
  simpa using this
end Go.Sx
