/-
  Regions that draw their order, with two operations that write and may come in either order, and what follows each of them: two ways, told apart up to where they meet.
-/
import Derived.Test.YtmimdoggljemjaaSxT
namespace Go.Sx
open Go.RowKit
variable {P : Program} {r : Option Nat} {n : Nat} {D : List Deferred} {L L' : Sl} {M M0 : Mem} {H Hs Hx : Hp} {Q : Post} {J : Sl → Mem → Hp → Prop}
theorem AnyH.arr {ops : Array Oper} {Hs : Hp} : ∀ (f : Nat) (listed : Array Bool) (a : Act) (M : Mem) (Hx Hy : Hp), (∀ w, Heap w M (Hs ++ Hx) → Heap w M (Hs ++ Hy)) → AnyH r P ops M0 Hs Q f listed a M Hy → AnyH r P ops M0 Hs Q f listed a M Hx
  | 0, _, _, _, _, _, ha, h => ⟨h.1, h.2.1, fun w hh => h.2.2 w (ha w hh)⟩
  | _ + 1, _, _, _, _, _, ha, h => ⟨h.1, fun e w hh => h.2.1 e w (ha w hh), fun i hi w hh => h.2.2 i hi w (ha w hh)⟩
/-- a plan up to a set of operations -/
def planX (ops : Array Oper) : List Nat → List Nat → Array Bool → Bool
  | [], _, _ => true
  | 1 :: ks, k :: is, listed => (Region.ready .any ops listed).contains k && Region.free .any ops listed k && planX ops ks is (listed.setIfInBounds k true)
  | 0 :: ks, k :: is, listed => (Region.ready .any ops listed).contains k && decide (Region.ready .any ops listed = [k]) && planX ops ks is (listed.setIfInBounds k true)
  | _, _, _ => false
def RX (P : Program) (r : Option Nat) (n : Nat) (ds : List (Option Tmp)) (ks : List Nat) (rest : List Oper) (Q : Post) (D : List Deferred) (J : Sl → Mem → Hp → Prop) (L : Sl) (M0 M : Mem) (Hs Hx : Hp) : Prop :=
  ∀ (ops : Array Oper) (is : List Nat) (listed : Array Bool) (g : Nat), OpsOf ds ops → Region.noSelect ops = true → NoDefer ops → NoPanic Q → picked ops is rest → planX ops ks is listed = true → ks.length = rest.length → M0.le M →
    (∀ L' M' Hx' a', J L' M' Hx' → M0.le M' → Fr n D L' a' → AnyH r P ops M0 Hs Q g (afterA is listed) a' M' Hx') →
    ∀ a, Fr n D L a → AnyH r P ops M0 Hs Q (g + rest.length) listed a M Hx
section
variable {d : Option Tmp} {op : Op} {ty : TypeId} {pos : String} {af : Array Edge} {g : Option (Nat × Bool)} {v : Value} {ds : List (Option Tmp)} {ks : List Nat} {rest : List Oper}
theorem RX.nil (h : J L M Hx) : RX P r n ds [] [] Q D J L M0 M Hs Hx := by
  intro ops is listed g _ _ _ _ hp _ _ hM hJ a hf
  match is with
  | [] => exact hJ L M Hx a h hM hf
  | _ :: _ => exact hp.elim
theorem RX.step_ (hY : ∀ (ops : Array Oper) (a : Act), OpsOf ds ops → Fr n D L a → Yc P ops M0 Hs ⟨d, op, ty, pos, af, g⟩ v a) (hd : dok n d = true)
    (k : RX P r n ds ks rest Q D J (bnd d v L) M0 M Hs Hx) : RX P r n ds (1 :: ks) (⟨d, op, ty, pos, af, g⟩ :: rest) Q D J L M0 M Hs Hx := by
  intro ops js listed g' hO hS hN hQ hl hp hlen hM hJ a hf
  cases js with
  | nil => exact hl.elim
  | cons j js =>
  have h0 : ops[j]? = some ⟨d, op, ty, pos, af, g⟩ := hl.1
  simp only [planX, Bool.and_eq_true] at hp
  obtain ⟨⟨p1, p2⟩, p3⟩ := hp
  have key : AnyH r P ops M0 Hs Q (g' + rest.length) (listed.setIfInBounds j true) (a.put d v) M Hx :=
    k ops js _ g' hO hS hN hQ hl.2 p3 (by simpa using hlen) hM hJ _ (hf.put d hd v)
  exact AnyH.first h0 (Region.noSelect_spec hS) hN hQ (g' + rest.length) listed a M Hx (Region.free_spec h0 p2) (by simpa using p1) (hY ops a hO hf) key
theorem RX.step (hok : ∀ M' Hx', M0.le M' → Ok P ⟨d, op, ty, pos, af, none⟩ L M' (Hs ++ Hx') v) (hd : dok n d = true)
    (k : RX P r n ds ks rest Q D J (bnd d v L) M0 M Hs Hx) : RX P r n ds (1 :: ks) (⟨d, op, ty, pos, af, none⟩ :: rest) Q D J L M0 M Hs Hx :=
  RX.step_ (fun _ _ _ hf => .inl ⟨by simp [Region.wanted], fun M' Hx' w hM' hh' => (hok M' Hx' hM').qr hf hh'⟩) hd k
theorem RX.stepT {j : Nat} {want : Bool} {dj : Tmp} (hdj : ds[j]? = some (some dj)) (hb : lk L dj = some (.bool want)) (hlt : Nat.ble (dj + 1) n = true) (hok : ∀ M' Hx', M0.le M' → Ok P ⟨d, op, ty, pos, af, some (j, want)⟩ L M' (Hs ++ Hx') v) (hd : dok n d = true)
    (k : RX P r n ds ks rest Q D J (bnd d v L) M0 M Hs Hx) : RX P r n ds (1 :: ks) (⟨d, op, ty, pos, af, some (j, want)⟩ :: rest) Q D J L M0 M Hs Hx :=
  RX.step_ (fun _ _ hO hf => .inl ⟨by rw [wanted_guard hf hO hdj hb hlt]; simp, fun M' Hx' w hM' hh' => (hok M' Hx' hM').qr hf hh'⟩) hd k
theorem RX.stepF {j : Nat} {want b : Bool} {dj : Tmp} (hdj : ds[j]? = some (some dj)) (hb : lk L dj = some (.bool b)) (hlt : Nat.ble (dj + 1) n = true) (hne : (b == want) = false) (hd : dok n d = true)
    (k : RX P r n ds ks rest Q D J (bnd d undef L) M0 M Hs Hx) : RX P r n ds (1 :: ks) (⟨d, op, ty, pos, af, some (j, want)⟩ :: rest) Q D J L M0 M Hs Hx :=
  RX.step_ (fun _ _ hO hf => .inr ⟨by rw [wanted_guard hf hO hdj hb hlt]; exact hne, rfl⟩) hd k
def KX (P : Program) (r : Option Nat) (n : Nat) (ds : List (Option Tmp)) (ks : List Nat) (rest : List Oper) (Q : Post) (D : List Deferred) (J : Sl → Mem → Hp → Prop) (M0 : Mem) (Hs : Hp) (Kc : Act → World → Prop) : Prop :=
  ∀ L' M' Hx', M0.le M' → RX P r n ds ks rest Q D J L' M0 M' Hs Hx' → ∀ a w, Fr n D L' a → Heap w M' (Hs ++ Hx') → Kc a w
theorem Fin.kx {Kc : Act → World → Prop} (hk : KX P r n ds ks rest Q D J M0 Hs Kc) (hM : M0.le M) (ha : Arr H (Hs ++ Hx)) (h : RX P r n ds ks rest Q D J L M0 M Hs Hx) : Fin n .normal (Exit.then Kc Q) D L M H :=
  fun a w hf hh => hk L M Hx hM h a w hf (ha.heap hh)
theorem AnyH.one {ops : Array Oper} {listed : Array Bool} {i : Nat} {a : Act} {f : Nat} (hM : M0.le M) (hr : Region.ready .any ops listed = [i])
    (h : ∀ w, Heap w M (Hs ++ Hx) → wpOpIn (F0 r) 0 P ops Q i (fun a' w' => ∃ M' Hx', Heap w' M' (Hs ++ Hx') ∧ AnyH r P ops M0 Hs Q f (listed.setIfInBounds i true) a' M' Hx') a w) : AnyH r P ops M0 Hs Q (f + 1) listed a M Hx :=
  ⟨hM, fun e => (by rw [hr] at e; cases e), fun q hq w hh => by
    rw [hr, List.mem_singleton] at hq
    subst hq
    exact h w hh⟩
/-- an operation that writes, as the first of a way -/
theorem eff_wp {ops : Array Oper} {js : List Nat} {j : Nat} {listed : Array Bool} {g' : Nat} {a : Act} {w : World} (hO : OpsOf ds ops) (hS : Region.noSelect ops = true) (hN : NoDefer ops) (hQ : NoPanic Q) (hl : picked ops (j :: js) (⟨d, op, ty, pos, af, none⟩ :: rest))
    (p3 : planX ops ks js (listed.setIfInBounds j true) = true) (hlen : ks.length = rest.length)
    (hJ : ∀ L' M' Hx' a', J L' M' Hx' → M0.le M' → Fr n D L' a' → AnyH r P ops M0 Hs Q g' (afterA (j :: js) listed) a' M' Hx') (hf : Fr n D L a) (hh : Heap w M (Hs ++ Hx))
    (h : ∀ Kc, KX P r n ds ks rest Q D J M0 Hs Kc → ∀ ops, R false P r n ops [⟨d, op, ty, pos, af, none⟩] (Exit.then Kc Q) D L M (Hs ++ Hx)) :
    wpOpIn (F0 r) 0 P ops Q j (fun a' w' => ∃ M' Hx', Heap w' M' (Hs ++ Hx') ∧ AnyH r P ops M0 Hs Q (g' + rest.length) (listed.setIfInBounds j true) a' M' Hx') a w := by
  have hk : KX P r n ds ks rest Q D J M0 Hs (fun a' w' => ∃ M' Hx', Heap w' M' (Hs ++ Hx') ∧ AnyH r P ops M0 Hs Q (g' + rest.length) (listed.setIfInBounds j true) a' M' Hx') := by
    intro L' M' Hx' hM' hRX a' w' hf' hh'
    exact ⟨M', Hx', hh', hRX ops js _ g' hO hS hN hQ hl.2 p3 hlen hM' hJ a' hf'⟩
  exact wpOpIn_eff hl.1 (h _ hk #[] a w hf hh)
theorem RX.eff (h : ∀ Kc, KX P r n ds ks rest Q D J M0 Hs Kc → ∀ ops, R false P r n ops [⟨d, op, ty, pos, af, none⟩] (Exit.then Kc Q) D L M (Hs ++ Hx)) : RX P r n ds (0 :: ks) (⟨d, op, ty, pos, af, none⟩ :: rest) Q D J L M0 M Hs Hx := by
  intro ops js listed g' hO hS hN hQ hl hp hlen hM hJ a hf
  cases js with
  | nil => exact hl.elim
  | cons j js =>
  simp only [planX, Bool.and_eq_true, decide_eq_true_eq] at hp
  obtain ⟨⟨p1, p2⟩, p3⟩ := hp
  exact AnyH.one hM p2 fun w hh => eff_wp hO hS hN hQ hl p3 (by simpa using hlen) hJ hf hh h
/-- the first of a way, which others may come ahead of -/
def RW (P : Program) (r : Option Nat) (n : Nat) (ds : List (Option Tmp)) (ks : List Nat) (rest : List Oper) (Q : Post) (D : List Deferred) (J : Sl → Mem → Hp → Prop) (L : Sl) (M0 M : Mem) (Hs Hx : Hp) : Prop :=
  match rest with
  | [] => False
  | o :: rest => o.guard = none ∧ ∀ Kc, KX P r n ds ks rest Q D J M0 Hs Kc → ∀ ops, R false P r n ops [o] (Exit.then Kc Q) D L M (Hs ++ Hx)
theorem RW.eff (h : ∀ Kc, KX P r n ds ks rest Q D J M0 Hs Kc → ∀ ops, R false P r n ops [⟨d, op, ty, pos, af, none⟩] (Exit.then Kc Q) D L M (Hs ++ Hx)) : RW P r n ds ks (⟨d, op, ty, pos, af, none⟩ :: rest) Q D J L M0 M Hs Hx := ⟨rfl, h⟩
end
/-- the slots and the heap where two ways meet -/
def MeetJ {X : Type} (I : X → Prop) (Lf : X → Sl) (Mf : X → Mem) (Hf : X → Hp) (Hs : Hp) (L : Sl) (M : Mem) (Hx : Hp) : Prop := ∃ y, I y ∧ sub (Lf y) L ∧ M = Mf y ∧ Arr (Hs ++ Hx) (Hs ++ Hf y)
theorem C.regionA {X : Type} (I : X → Prop) (Lf : X → Sl) (Mf : X → Mem) (Hf : X → Hp) {id : Nat} {l : List Oper} (isA is1 is2 isB : List Nat) (ksA ks1 ks2 ksB : List Nat) (lA l1 l2 lB : List Oper) (Hs Hx : Hp) (hm : P.follows .mixedOrders = true) (hH : Arr H (Hs ++ Hx)) (hQ : NoPanic Q)
    (hpA : picked l.toArray isA lA) (hp1 : picked l.toArray is1 l1) (hp2 : picked l.toArray is2 l2) (hpB : picked l.toArray isB lB)
    (hB : (Region.noSelect l.toArray && noDeferB l && planX l.toArray ksA isA (Array.replicate l.length false) && Nat.beq ksA.length lA.length &&
      (Region.ready .any l.toArray (afterA isA (Array.replicate l.length false))).all (fun k => Nat.beq k (is1.headD 0) || Nat.beq k (is2.headD 0)) && !(Region.ready .any l.toArray (afterA isA (Array.replicate l.length false))).isEmpty &&
      planX l.toArray ks1 (is1.drop 1) (afterA (is1.take 1) (afterA isA (Array.replicate l.length false))) && planX l.toArray ks2 (is2.drop 1) (afterA (is2.take 1) (afterA isA (Array.replicate l.length false))) &&
      decide (afterA is1 (afterA isA (Array.replicate l.length false)) = afterA is2 (afterA isA (Array.replicate l.length false))) && Nat.beq (ks1.length + 1) l1.length && Nat.beq (ks2.length + 1) l2.length && Nat.beq l2.length l1.length &&
      planFrom l.toArray ksB isB (afterA is1 (afterA isA (Array.replicate l.length false))) && Nat.beq ksB.length lB.length && Nat.beq (lB.length + l1.length + lA.length) l.length) = true)
    (h : ∀ ds, ds = l.map (·.dst) → RX P r n ds ksA lA Q D (fun L1 M1 Hx1 => RW P r n ds ks1 l1 Q D (MeetJ I Lf Mf Hf Hs) L1 M M1 Hs Hx1 ∧ RW P r n ds ks2 l2 Q D (MeetJ I Lf Mf Hf Hs) L1 M M1 Hs Hx1) L M M Hs Hx)
    (h2 : ∀ ds, ds = l.map (·.dst) → ∀ y, I y → RP P r n ds ksB lB Q D (Lf y) M (Mf y) Hs (Hf y)) : C P r n (.region id l.toArray true) Q D L M H := by
  intro a w hf hh
  simp only [Bool.and_eq_true] at hB
  obtain ⟨⟨⟨⟨⟨⟨⟨⟨⟨⟨⟨⟨⟨⟨b1, b2⟩, b3⟩, b4⟩, b5⟩, b6⟩, b7⟩, b8⟩, b9⟩, b10⟩, b11⟩, b12⟩, b13⟩, b14⟩, b15⟩ := hB
  have e9 := of_decide_eq_true b9
  have hO := OpsOf.self l
  have hN := NoDefer.of b2
  refine wpIn_region_any hm (AnyH.any (M0 := M) (Hs := Hs) _ _ _ M Hx _ ((hH.heap hh).drawn _) ?_)
  have hlen : lB.length + l1.length + lA.length = l.toArray.size := by simpa using Nat.eq_of_beq_eq_true b15
  suffices main : AnyH r P l.toArray M Hs Q (lB.length + l1.length + lA.length) (Array.replicate l.length false) a M Hx by
    rw [hlen] at main
    simpa using main
  refine h _ rfl l.toArray isA (Array.replicate l.length false) (lB.length + l1.length) hO b1 hN hQ hpA b3 (Nat.eq_of_beq_eq_true b4) (Mem.le_refl M) ?_ a hf
  intro L1 M1 Hx1 a1 ⟨w1, w2⟩ hM1 hf1
  have tail : ∀ L' M' Hx' a', MeetJ I Lf Mf Hf Hs L' M' Hx' → M.le M' → Fr n D L' a' → AnyH r P l.toArray M Hs Q lB.length (afterA is1 (afterA isA (Array.replicate l.length false))) a' M' Hx' := by
    rintro L' M' Hx' a' ⟨y, hI, hsub, rfl, harr⟩ hM' hf'
    exact AnyH.arr _ _ _ _ _ _ (fun w hh => harr.heap hh) (h2 _ rfl y hI l.toArray isB _ hO b1 hN hQ hpB b13 (Nat.eq_of_beq_eq_true b14) hM' a' (hf'.weak hsub))
  have way : ∀ {is : List Nat} {ks : List Nat} {ls : List Oper}, picked l.toArray is ls → planX l.toArray ks (is.drop 1) (afterA (is.take 1) (afterA isA (Array.replicate l.length false))) = true → ks.length + 1 = ls.length → ls.length = l1.length →
      afterA is1 (afterA isA (Array.replicate l.length false)) = afterA is (afterA isA (Array.replicate l.length false)) → RW P r n (l.map (·.dst)) ks ls Q D (MeetJ I Lf Mf Hf Hs) L1 M M1 Hs Hx1 →
      ∀ i, Nat.beq i (is.headD 0) = true → ∀ w, Heap w M1 (Hs ++ Hx1) → wpOpIn (F0 r) 0 P l.toArray Q i (fun a' w' => ∃ M' Hx', Heap w' M' (Hs ++ Hx') ∧ AnyH r P l.toArray M Hs Q (lB.length + (l1.length - 1)) ((afterA isA (Array.replicate l.length false)).setIfInBounds i true) a' M' Hx') a1 w := by
    intro is ks ls hp hpl hkl hll he hw i hi w hh
    match is, ls, hp, hw with
    | [], [], _, hw => exact hw.elim
    | [], _ :: _, hp, _ => exact hp.elim
    | _ :: _, [], _, hw => exact hw.elim
    | j :: js, ⟨d, op, ty, pos, af, g⟩ :: rest, hp, hw =>
      obtain ⟨hg, hw⟩ := hw
      dsimp only at hg
      subst hg
      obtain rfl := Nat.eq_of_beq_eq_true hi
      have e : l1.length - 1 = rest.length := by rw [← hll]; simp
      rw [e]
      exact eff_wp hO b1 hN hQ hp hpl (by simpa using hkl) (by rw [← he]; exact tail) hf1 hh hw
  have e1 : lB.length + l1.length = lB.length + (l1.length - 1) + 1 := by
    have := Nat.eq_of_beq_eq_true b10
    omega
  rw [e1]
  refine ⟨hM1, fun e => (by rw [e] at b6; simp at b6), fun i hi w hh => ?_⟩
  have hq := List.all_eq_true.1 b5 i hi
  rw [Bool.or_eq_true] at hq
  rcases hq with hq | hq
  · exact way hp1 b7 (Nat.eq_of_beq_eq_true b10) rfl rfl w1 i hq w hh
  · exact way hp2 b8 (Nat.eq_of_beq_eq_true b11) (Nat.eq_of_beq_eq_true b12) e9 w2 i hq w hh
section
variable {P : Program} {L : Sl} {M : Mem} {H : Hp} {d : Option Tmp} {ty : TypeId} {pos : String} {af : Array Edge} {g : Option (Nat × Bool)} {t t' e : TypeId} {x y : Operand}
theorem Ok.eqPNN [hu : Und P t (.pointer e)] (hx : ev L x = some (.pointer none)) (hy : ev L y = some (.pointer none)) : Ok P ⟨d, .binOp .eql t x y t', ty, pos, af, g⟩ L M H (.bool true) := by
  refine Ok.bin hx hy (fun w => by simp [eqGuard]) fun w => ?_
  have h : ∀ d : Nat, (Op.equalIn (d + 1) t (.pointer none) (.pointer none)).run P w = .ok true w := fun d => by
    simp [Op.equalIn, run_underlying hu.h, sizeOf, typeInfo]
  simp only [binOp]
  simp [Op.equal, Op.maxDepth, h 9999]
end
section
variable {P : Program} {r : Option Nat} {n : Nat} {D : List Deferred} {L : Sl} {M : Mem} {H : Hp} {Q : Post}
/-- ways that meet behind a block -/
theorem C.cutB {X : Type} (I : X → Prop) (Lf : X → Sl) (Mf : X → Mem) (Hf : X → Hp) {id : Nat} {c y : Code} {Kn : Act → World → Prop} (hk : KOf P r n y Q Kn) (hx : C P r n c (Exit.inBlock id (Exit.then (Join n D I Lf Mf Hf) Q)) D L M H)
    (hy : ∀ z, I z → C P r n y Q D (Lf z) (Mf z) (Hf z)) : C P r n c (Exit.inBlock id (Exit.then Kn Q)) D L M H := by
  intro a w hf hh
  refine wpIn_mono (hx a w hf hh) ?_
  have key : ∀ a' w', Join n D I Lf Mf Hf a' w' → Kn a' w' := fun a' w' ⟨z, h1, h2, h3⟩ => hk _ _ _ _ (hy z h1) a' w' h2 h3
  intro e a' w' hq
  cases e with
  | normal => exact key _ _ hq
  | exit k =>
    by_cases h : k = id
    · subst h
      simp only [Exit.inBlock, if_true] at hq ⊢
      exact key _ _ hq
    · simp only [Exit.inBlock, if_neg h] at hq ⊢
      exact hq
  | goto l => exact hq
  | ret => exact hq
  | panic ch => exact hq
  | outgrown => exact hq
end
end Go.Sx
