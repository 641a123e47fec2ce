/-
  Regions that draw their order and write: a plan. The operations that only read are taken first, in the text's order; one that writes comes up alone.
-/
import Derived.Test.YtmimdoggljemjaaSxE
namespace Go.Sx
open Go.RowKit
variable {P : Program} {r : Option Nat} {n : Nat} {D : List Deferred} {L L' : Sl} {M : Mem} {H : Hp} {Q : Post}

/-- every order, told by the blocks: Hs stays, the pool is M0 or more -/
def AnyH (r : Option Nat) (P : Program) (ops : Array Oper) (M0 : Mem) (Hs : Hp) (Q : Post) : Nat → Array Bool → Act → Mem → Hp → Prop
  | 0, listed, a, M, Hx => M0.le M ∧ Region.ready .any ops listed = [] ∧ ∀ w, Heap w M (Hs ++ Hx) → Q .normal a w
  | f + 1, listed, a, M, Hx => M0.le M ∧ (Region.ready .any ops listed = [] → ∀ w, Heap w M (Hs ++ Hx) → Q .normal a w) ∧
      ∀ i ∈ Region.ready .any ops listed, ∀ w, Heap w M (Hs ++ Hx) → wpOpIn (F0 r) 0 P ops Q i (fun a' w' => ∃ M' Hx', Heap w' M' (Hs ++ Hx') ∧ AnyH r P ops M0 Hs Q f (listed.setIfInBounds i true) a' M' Hx') a w
theorem AnyH.le {ops : Array Oper} {M0 : Mem} {Hs Hx : Hp} {f : Nat} {listed : Array Bool} {a : Act} (h : AnyH r P ops M0 Hs Q f listed a M Hx) : M0.le M := by
  cases f with
  | zero => exact h.1
  | succ f => exact h.1
theorem AnyH.any {ops : Array Oper} {M0 : Mem} {Hs : Hp} : ∀ (f : Nat) (listed : Array Bool) (a : Act) (M : Mem) (Hx : Hp) (w : World), Heap w M (Hs ++ Hx) → AnyH r P ops M0 Hs Q f listed a M Hx → wpAnyIn (F0 r) 0 P .any ops Q f listed a w
  | 0, _, _, _, _, w, hh, h => ⟨h.2.1, h.2.2 w hh⟩
  | f + 1, _, _, _, _, w, hh, h => ⟨fun e => h.2.1 e w hh, fun i hi => wpOpIn_mono (fun a' w' ⟨M', Hx', hh', h'⟩ => AnyH.any f _ a' M' Hx' w' hh' h') (h.2.2 i hi w hh)⟩

/-- the operation yields v, whatever else was done, and leaves the blocks as they are -/
def Qr (P : Program) (M : Mem) (H : Hp) (w : World) (v : Value) : Result Next → Prop
  | .ok (.value u) w' => w' = w ∧ u = v
  | .ok (.enter f args) w' => w' = w ∧ Calls P f args w (fun e w'' => e = .returned v ∧ Heap w'' M H)
  | _ => False
def Yc (P : Program) (ops : Array Oper) (M0 : Mem) (Hs : Hp) (o : Oper) (v : Value) (a : Act) : Prop :=
  (Region.wanted o (yielded ops a.tmps) = true ∧ ∀ M' Hx' w, M0.le M' → Heap w M' (Hs ++ Hx') → Qr P M' (Hs ++ Hx') w v ((execOp a.eval o).run P w)) ∨ (Region.wanted o (yielded ops a.tmps) = false ∧ v = undef)
theorem Yc.of_same {ops : Array Oper} {M0 : Mem} {Hs : Hp} {o : Oper} {v : Value} {a a' : Act} (hy : Yc P ops M0 Hs o v a) (he : execOp a'.eval o = execOp a.eval o)
    (hw : Region.wanted o (yielded ops a'.tmps) = Region.wanted o (yielded ops a.tmps)) : Yc P ops M0 Hs o v a' := by
  unfold Yc at *
  rw [he, hw]
  exact hy
theorem Yc.wp {ops : Array Oper} {M0 : Mem} {Hs Hx : Hp} {i : Nat} {o : Oper} {v : Value} {a : Act} (hnd : ∀ c, o.op ≠ .defer c) (hi : ops[i]? = some o) (hy : Yc P ops M0 Hs o v a) {K : Act → World → Prop} {w : World} (hM : M0.le M) (hh : Heap w M (Hs ++ Hx)) (h : ∀ w', Heap w' M (Hs ++ Hx) → K (a.put o.dst v) w') :
    wpOpIn (F0 r) 0 P ops Q i K a w := by
  unfold wpOpIn
  simp only [hi]
  rcases hy with ⟨hw, hv⟩ | ⟨hw, rfl⟩
  · simp only [hw, if_true, Oper.wpIn, semAt_eq _ hnd]
    refine ⟨fun f _ => F0_fn _ f, ?_⟩
    have h3 := hv M Hx w hM hh
    generalize (execOp a.eval o).run P w = rr at *
    cases rr with
    | ok x w' =>
      cases x <;> simp only [Qr] at h3 <;> simp only [Oper.uponIn]
      case value u => obtain ⟨rfl, rfl⟩ := h3; exact h _ hh
      case enter f args =>
        obtain ⟨rfl, hc⟩ := h3
        refine ⟨F0_no, (callsIn_wide (n := 0 - 1)).2 (hc.mono ?_)⟩
        rintro e w'' ⟨rfl, hh''⟩
        exact h _ hh''
    | halt x w' => simp only [Qr] at h3
  · simp only [hw, Bool.false_eq_true, if_false]; exact ⟨fun f _ => F0_fn _ f, h _ hh⟩
theorem Yc.put {ops : Array Oper} {M0 : Mem} {Hs : Hp} {j : Nat} {oi oj : Oper} {v : Value} (hj : ops[j]? = some oj) (hap : oi.apart ops oj = true)
    (hsi : ∀ cs b, oi.op ≠ .select cs b) (hsj : ∀ cs b, oj.op ≠ .select cs b) (hdj : ∀ c, oj.op ≠ .defer c) (hQ : NoPanic Q) {K : Act → World → Prop} {a : Act} {w : World}
    (hy : Yc P ops M0 Hs oi v a) (h : wpOpIn (F0 r) 0 P ops Q j K (a.put oi.dst v) w) :
    wpOpIn (F0 r) 0 P ops Q j (fun a' w' => Yc P ops M0 Hs oi v a' ∧ K (a'.put oi.dst v) w') a w := by
  obtain ⟨h1, h2, h3⟩ := Oper.apart_spec hap
  have keep : ∀ (a : Act), Yc P ops M0 Hs oi v a → ∀ u, Yc P ops M0 Hs oi v (a.put oj.dst u) := fun a hy u =>
    hy.of_same (execOp_put oi hsi a oj.dst u h3) (wanted_put oi a oj.dst u h3)
  unfold wpOpIn at *
  simp only [hj] at *
  rw [wanted_put oj a oi.dst v h1] at h
  split
  · rename_i hw
    simp only [hw, if_true] at h
    unfold Oper.wpIn at *
    refine ⟨fun f _ => F0_fn _ f, ?_⟩
    have h := h.2
    rw [semAt_eq _ hdj, execOp_put oj hsj a oi.dst v h1] at h
    rw [semAt_eq _ hdj]
    generalize (execOp a.eval oj).run P w = r at *
    cases r with
    | ok x w' =>
      cases x <;> simp only [Oper.uponIn] at h ⊢
      case value u => exact ⟨keep a hy u, by rw [← Act.put_comm a v u h2]; exact h⟩
      case skip => exact ⟨keep a hy _, by rw [← Act.put_comm a v undef h2]; exact h⟩
      case defer d =>
        refine ⟨keep { a with defers := d :: a.defers } (hy.of_same rfl rfl) _, ?_⟩
        rw [← Act.put_comm _ v undef h2, ← Act.put_defers]
        exact h
      case enter f args =>
        refine ⟨h.1, CallsIn.mono h.2 fun e w'' he => ?_⟩
        cases e with
        | returned u => exact ⟨keep a hy u, by rw [← Act.put_comm a v u h2]; exact he⟩
        | panicked c => exact absurd he (hQ _ _ _)
        | outgrown => exact he
      case row row args => exact ⟨h.1, RowsIn.mono h.2 fun u w'' he => ⟨keep a hy u, by rw [← Act.put_comm a v u h2]; exact he⟩⟩
      case round l f tmps assign body =>
        refine ⟨h.1, RoundIn.mono h.2 fun e w'' he => ?_⟩
        cases e with
        | returned u => exact ⟨keep a hy u, by rw [← Act.put_comm a v u h2]; exact he⟩
        | panicked c => exact absurd he (hQ _ _ _)
        | outgrown => exact he
    | halt x w' =>
      cases x <;> simp only [Oper.uponIn] at h ⊢
      case panic u => exact absurd h (hQ _ _ _)
  · rename_i hw
    simp only [hw] at h
    exact ⟨fun f _ => F0_fn _ f, keep a hy _, by rw [← Act.put_comm a v undef h2]; exact h.2⟩

def NoDefer (ops : Array Oper) : Prop := ∀ (j : Nat) (o : Oper) (c : Call), ops[j]? = some o → o.op ≠ .defer c
theorem AnyH.first {ops : Array Oper} {M0 : Mem} {Hs : Hp} {i : Nat} {oi : Oper} {v : Value} (hi : ops[i]? = some oi) (hsel : ∀ (j : Nat) (o : Oper) cs b, ops[j]? = some o → o.op ≠ .select cs b) (hnd : NoDefer ops) (hQ : NoPanic Q) :
    ∀ (fuel : Nat) (listed : Array Bool) (a : Act) (M : Mem) (Hx : Hp),
      (∀ j oj, ops[j]? = some oj → j ≠ i → listed.getD j true = false → (∀ e ∈ oj.after, Region.binds .any e = true → e.on ≠ i) → oi.apart ops oj = true) →
      i ∈ Region.ready .any ops listed → Yc P ops M0 Hs oi v a →
      AnyH r P ops M0 Hs Q fuel (listed.setIfInBounds i true) (a.put oi.dst v) M Hx → AnyH r P ops M0 Hs Q (fuel + 1) listed a M Hx := by
  intro fuel
  induction fuel with
  | zero =>
    intro listed a M Hx _ hr hy HH
    refine ⟨HH.le, fun h => (by rw [h] at hr; cases hr), fun j hj w hh => ?_⟩
    by_cases hji : j = i
    · subst hji; exact hy.wp (fun c => hnd _ _ c hi) hi HH.le hh (fun w' hh' => ⟨M, Hx, hh', HH⟩)
    · have := ready_mono hj hji
      rw [HH.2.1] at this
      cases this
  | succ fuel ih =>
    intro listed a M Hx hfree hr hy HH
    refine ⟨HH.le, fun h => (by rw [h] at hr; cases hr), fun j hj w hh => ?_⟩
    by_cases hji : j = i
    · subst hji; exact hy.wp (fun c => hnd _ _ c hi) hi HH.le hh (fun w' hh' => ⟨M, Hx, hh', HH⟩)
    · have h1 := HH.2.2 j (ready_mono hj hji) w hh
      obtain ⟨hjun, oj, hoj, hall⟩ := mem_ready.1 hj
      have hnot : ∀ e ∈ oj.after, Region.binds .any e = true → e.on ≠ i := fun e he hb heq => by
        have h1 := hall e he hb
        have h0 := (mem_ready.1 hr).1
        rw [heq] at h1
        rcases Nat.lt_or_ge i listed.size with h' | h'
        · simp [h'] at h0 h1; rw [h0] at h1; cases h1
        · simp [Array.getElem?_eq_none h'] at h1
      have h2 := Yc.put hoj (hfree j oj hoj hji hjun hnot) (fun cs b => hsel i oi cs b hi) (fun cs b => hsel j oj cs b hoj) (fun c => hnd _ _ c hoj) hQ hy h1
      have hfree' : ∀ k ok, ops[k]? = some ok → k ≠ i → (listed.setIfInBounds j true).getD k true = false →
          (∀ e ∈ ok.after, Region.binds .any e = true → e.on ≠ i) → oi.apart ops ok = true := fun k ok hk hki hun hno => by
        refine hfree k ok hk hki ?_ hno
        by_cases hjk : j = k
        · subst hjk; exact hjun
        · rw [getD_set_ne true hjk] at hun; exact hun
      refine wpOpIn_mono (fun a' w' ⟨hy', M', Hx', hh', h3⟩ => ⟨M', Hx', hh', ih (listed.setIfInBounds j true) a' M' Hx' hfree' (ready_mono hr (Ne.symm hji)) hy' ?_⟩) h2
      rw [Array.setIfInBounds_comm _ _ hji]
      exact h3

/-- the plan: what only reads is free to go first; what writes comes up alone -/
def planFrom (ops : Array Oper) : List Nat → List Nat → Array Bool → Bool
  | [], _, listed => (Region.ready .any ops listed).isEmpty
  | 1 :: ks, k :: is, listed => (Region.ready .any ops listed).contains k && Region.free .any ops listed k && planFrom ops ks is (listed.setIfInBounds k true)
  | 0 :: ks, k :: is, listed => (Region.ready .any ops listed).contains k && decide (Region.ready .any ops listed = [k]) && planFrom ops ks is (listed.setIfInBounds k true)
  | 2 :: 2 :: ks, i :: j :: is, listed => (Region.ready .any ops listed).all (fun k => Nat.beq k i || Nat.beq k j) && !(Region.ready .any ops listed).isEmpty && decide (Region.ready .any ops (listed.setIfInBounds i true) = [j]) && decide (Region.ready .any ops (listed.setIfInBounds j true) = [i]) && !(Nat.beq i j) && planFrom ops ks is ((listed.setIfInBounds i true).setIfInBounds j true)
  | _, _, _ => false
/-- the operations in the plan's order -/
def picked (ops : Array Oper) : List Nat → List Oper → Prop
  | [], [] => True
  | i :: is, o :: rest => ops[i]? = some o ∧ picked ops is rest
  | _, _ => False
def noDeferB (l : List Oper) : Bool := l.all fun o => match o.op with | .defer _ => false | _ => true
theorem NoDefer.of {l : List Oper} (h : noDeferB l = true) : NoDefer l.toArray := by
  intro j o c hj hc
  have hm : o ∈ l := List.mem_of_getElem? (i := j) (by simpa using hj)
  have := List.all_eq_true.1 h o hm
  rw [hc] at this
  cases this

/-- the rest of a region with a plan; M0: the pool where the region began -/
def RP (P : Program) (r : Option Nat) (n : Nat) (ds : List (Option Tmp)) (ks : List Nat) (rest : List Oper) (Q : Post) (D : List Deferred) (L : Sl) (M0 M : Mem) (Hs Hx : Hp) : Prop :=
  ∀ (ops : Array Oper) (k : List Nat) (listed : Array Bool), OpsOf ds ops → Region.noSelect ops = true → NoDefer ops → NoPanic Q → picked ops k rest → planFrom ops ks k listed = true → ks.length = rest.length → M0.le M →
    ∀ a, Fr n D L a → AnyH r P ops M0 Hs Q rest.length listed a M Hx

theorem C.regionO {id : Nat} {l : List Oper} (l' : List Oper) (ks : List Nat) (is : List Nat) (Hs Hx : Hp) (hm : P.follows .mixedOrders = true) (hH : Arr H (Hs ++ Hx)) (hQ : NoPanic Q) (hp : picked l.toArray is l') (hB : (Region.noSelect l.toArray && noDeferB l && planFrom l.toArray ks is (Array.replicate l.length false) && Nat.beq ks.length l'.length && Nat.beq l'.length l.length) = true)
    (h : ∀ ds, ds = l.map (·.dst) → RP P r n ds ks l' Q D L M M Hs Hx) : C P r n (.region id l.toArray true) Q D L M H := by
  intro a w hf hh
  simp only [Bool.and_eq_true] at hB
  obtain ⟨⟨⟨⟨h1, h2⟩, h3⟩, h4⟩, h5⟩ := hB
  refine wpIn_region_any hm (AnyH.any (M0 := M) (Hs := Hs) _ _ _ M Hx _ ((hH.heap hh).drawn _) ?_)
  have := h _ rfl l.toArray is (Array.replicate l.length false) (OpsOf.self l) h1 (NoDefer.of h2) hQ hp h3 (Nat.eq_of_beq_eq_true h4) (Mem.le_refl M) a hf
  rw [Nat.eq_of_beq_eq_true h5] at this
  simpa using this
theorem picked_from (l : List Oper) : ∀ (pre rest : List Oper), l = pre ++ rest → picked l.toArray (List.range' pre.length rest.length) rest
  | _, [], _ => trivial
  | pre, o :: rest, h => by
    refine ⟨by subst h; simp, ?_⟩
    have := picked_from l (pre ++ [o]) rest (by simp [h])
    simpa using this
theorem C.regionP {id : Nat} {l : List Oper} (ks : List Nat) (Hs Hx : Hp) (hm : P.follows .mixedOrders = true) (hH : Arr H (Hs ++ Hx)) (hQ : NoPanic Q) (hB : (Region.noSelect l.toArray && noDeferB l && planFrom l.toArray ks (List.range' 0 l.length) (Array.replicate l.length false) && Nat.beq ks.length l.length) = true)
    (h : ∀ ds, ds = l.map (·.dst) → RP P r n ds ks l Q D L M M Hs Hx) : C P r n (.region id l.toArray true) Q D L M H := by
  refine C.regionO l ks (List.range' 0 l.length) Hs Hx hm hH hQ (picked_from l [] l rfl) ?_ h
  simp only [Bool.and_eq_true] at hB ⊢
  exact ⟨hB, by simp⟩

section
variable {d : Option Tmp} {op : Op} {ty : TypeId} {pos : String} {af : Array Edge} {g : Option (Nat × Bool)} {v : Value} {ds : List (Option Tmp)} {ks : List Nat} {rest : List Oper} {M0 : Mem} {Hs Hx : Hp}
theorem RP.nil (h : Fin n .normal Q D L M (Hs ++ Hx)) : RP P r n ds [] [] Q D L M0 M Hs Hx := by
  intro ops k listed _ _ _ _ _ hp _ hM a hf
  exact ⟨hM, by simpa [planFrom] using hp, fun w hh => h a w hf hh⟩
theorem RP.weak (hs : sub L' L) (h : RP P r n ds ks rest Q D L' M0 M Hs Hx) : RP P r n ds ks rest Q D L M0 M Hs Hx :=
  fun ops k listed h1 h2 h3 h4 h5 h6 h7 h8 a hf => h ops k listed h1 h2 h3 h4 h5 h6 h7 h8 a (hf.weak hs)

theorem RP.step_ (hY : ∀ (ops : Array Oper) (a : Act), OpsOf ds ops → Fr n D L a → Yc P ops M0 Hs ⟨d, op, ty, pos, af, g⟩ v a) (hd : dok n d = true)
    (k : RP P r n ds ks rest Q D (bnd d v L) M0 M Hs Hx) : RP P r n ds (1 :: ks) (⟨d, op, ty, pos, af, g⟩ :: rest) Q D L M0 M Hs Hx := by
  intro ops js listed hO hS hN hQ hl hp hlen hM a hf
  cases js with
  | nil => exact hl.elim
  | cons j js =>
  have h0 : ops[j]? = some ⟨d, op, ty, pos, af, g⟩ := hl.1
  simp only [planFrom, Bool.and_eq_true] at hp
  obtain ⟨⟨p1, p2⟩, p3⟩ := hp
  have key : AnyH r P ops M0 Hs Q rest.length (listed.setIfInBounds j true) (a.put d v) M Hx :=
    k ops js _ hO hS hN hQ hl.2 p3 (by simpa using hlen) hM _ (hf.put d hd v)
  exact AnyH.first h0 (Region.noSelect_spec hS) hN hQ rest.length listed a M Hx (Region.free_spec h0 p2) (by simpa using p1) (hY ops a hO hf) key
theorem Ok.qr {o : Oper} {a : Act} {w : World} (h : Ok P o L M H v) (hf : Fr n D L a) (hh : Heap w M H) : Qr P M H w v ((execOp a.eval o).run P w) := by
  rw [h _ _ _ _ hf hh]
  exact ⟨rfl, rfl⟩
theorem RP.step (hok : ∀ M' Hx', M0.le M' → Ok P ⟨d, op, ty, pos, af, none⟩ L M' (Hs ++ Hx') v) (hd : dok n d = true)
    (k : RP P r n ds ks rest Q D (bnd d v L) M0 M Hs Hx) : RP P r n ds (1 :: ks) (⟨d, op, ty, pos, af, none⟩ :: rest) Q D L M0 M Hs Hx :=
  RP.step_ (fun _ _ _ hf => .inl ⟨by simp [Region.wanted], fun M' Hx' w hM' hh' => (hok M' Hx' hM').qr hf hh'⟩) hd k
theorem RP.stepT {j : Nat} {want : Bool} {dj : Tmp} (hdj : ds[j]? = some (some dj)) (hb : lk L dj = some (.bool want)) (hlt : Nat.ble (dj + 1) n = true) (hok : ∀ M' Hx', M0.le M' → Ok P ⟨d, op, ty, pos, af, some (j, want)⟩ L M' (Hs ++ Hx') v) (hd : dok n d = true)
    (k : RP P r n ds ks rest Q D (bnd d v L) M0 M Hs Hx) : RP P r n ds (1 :: ks) (⟨d, op, ty, pos, af, some (j, want)⟩ :: rest) Q D L M0 M Hs Hx :=
  RP.step_ (fun _ _ hO hf => .inl ⟨by rw [wanted_guard hf hO hdj hb hlt]; simp, fun M' Hx' w hM' hh' => (hok M' Hx' hM').qr hf hh'⟩) hd k
theorem RP.stepF {j : Nat} {want b : Bool} {dj : Tmp} (hdj : ds[j]? = some (some dj)) (hb : lk L dj = some (.bool b)) (hlt : Nat.ble (dj + 1) n = true) (hne : (b == want) = false) (hd : dok n d = true)
    (k : RP P r n ds ks rest Q D (bnd d undef L) M0 M Hs Hx) : RP P r n ds (1 :: ks) (⟨d, op, ty, pos, af, some (j, want)⟩ :: rest) Q D L M0 M Hs Hx :=
  RP.step_ (fun _ _ hO hf => .inr ⟨by rw [wanted_guard hf hO hdj hb hlt]; exact hne, rfl⟩) hd k
/-- a call that leaves the blocks as they are -/
theorem RP.callQ {f : Nat} {xs : List Operand} {vs : List Value} {ts : Array TypeId} [he : Ent P f] (hx : Evs L xs vs) (hd : dok n d = true) (hK : ∀ M' Hx', M0.le M' → K P f vs M' (Hs ++ Hx') (fun u M2 H2 => u = v ∧ M2 = M' ∧ H2 = Hs ++ Hx'))
    (k : RP P r n ds ks rest Q D (bnd d v L) M0 M Hs Hx) : RP P r n ds (1 :: ks) (⟨d, .call ⟨.value (.func f), xs.toArray, ts⟩, ty, pos, af, none⟩ :: rest) Q D L M0 M Hs Hx :=
  RP.step_ (fun _ a _ hf => .inl ⟨by simp [Region.wanted], fun M' Hx' w hM' hh' => by
    rw [callArgs_run hf hx]
    refine ⟨rfl, (hK M' Hx' hM' w hh').mono ?_⟩
    rintro e w' ⟨u, M2, H2, rfl, ⟨rfl, rfl, rfl⟩, hh2⟩
    exact ⟨rfl, hh2⟩⟩) hd k
theorem RP.callQT {f : Nat} {xs : List Operand} {vs : List Value} {ts : Array TypeId} [he : Ent P f] {j : Nat} {want : Bool} {dj : Tmp} (hdj : ds[j]? = some (some dj)) (hb : lk L dj = some (.bool want)) (hlt : Nat.ble (dj + 1) n = true) (hx : Evs L xs vs) (hd : dok n d = true) (hK : ∀ M' Hx', M0.le M' → K P f vs M' (Hs ++ Hx') (fun u M2 H2 => u = v ∧ M2 = M' ∧ H2 = Hs ++ Hx'))
    (k : RP P r n ds ks rest Q D (bnd d v L) M0 M Hs Hx) : RP P r n ds (1 :: ks) (⟨d, .call ⟨.value (.func f), xs.toArray, ts⟩, ty, pos, af, some (j, want)⟩ :: rest) Q D L M0 M Hs Hx :=
  RP.step_ (fun _ a hO hf => .inl ⟨by rw [wanted_guard hf hO hdj hb hlt]; simp, fun M' Hx' w hM' hh' => by
    rw [callArgs_run hf hx]
    refine ⟨rfl, (hK M' Hx' hM' w hh').mono ?_⟩
    rintro e w' ⟨u, M2, H2, rfl, ⟨rfl, rfl, rfl⟩, hh2⟩
    exact ⟨rfl, hh2⟩⟩) hd k
theorem RP.case (s : Tmp) {b : Bool} (hb : lk L s = some (.bool b))
    (h1 : b = true → RP P r n ds ks rest Q D ((s, .bool true) :: L) M0 M Hs Hx) (h2 : b = false → RP P r n ds ks rest Q D ((s, .bool false) :: L) M0 M Hs Hx) : RP P r n ds ks rest Q D L M0 M Hs Hx := by
  have hs : ∀ c, b = c → sub ((s, .bool c) :: L) L := by
    intro c hc t v ht
    rw [lk_cons] at ht
    split at ht
    · rename_i e; subst e; cases ht; rw [hb, hc]
    · exact ht
  cases b with
  | true => exact RP.weak (hs _ rfl) (h1 rfl)
  | false => exact RP.weak (hs _ rfl) (h2 rfl)

/-- what was told of a larger pool and of more blocks that stay -/
theorem AnyH.base {ops : Array Oper} {M0 M1 : Mem} {Hs E : Hp} (h0 : M0.le M1) : ∀ (f : Nat) (listed : Array Bool) (a : Act) (M : Mem) (Hx : Hp), AnyH r P ops M1 (Hs ++ E) Q f listed a M Hx → AnyH r P ops M0 Hs Q f listed a M (E ++ Hx)
  | 0, _, _, _, _, h => ⟨Mem.le_trans h0 h.1, h.2.1, fun w hh => h.2.2 w (by rw [List.append_assoc]; exact hh)⟩
  | f + 1, _, _, _, _, h => ⟨Mem.le_trans h0 h.1, fun e w hh => h.2.1 e w (by rw [List.append_assoc]; exact hh), fun i hi w hh =>
      wpOpIn_mono (fun a' w' ⟨M', Hx', hh', h'⟩ => ⟨M', E ++ Hx', by rw [← List.append_assoc]; exact hh', AnyH.base h0 f _ a' M' Hx' h'⟩) (h.2.2 i hi w (by rw [List.append_assoc]; exact hh))⟩
/-- what comes behind an operation that writes -/
def KP (P : Program) (r : Option Nat) (n : Nat) (ds : List (Option Tmp)) (ks : List Nat) (rest : List Oper) (Q : Post) (M0 : Mem) (Hs : Hp) (Kc : Act → World → Prop) : Prop :=
  ∀ D L' M1 M' E Hx', M0.le M1 → M1.le M' → RP P r n ds ks rest Q D L' M1 M' (Hs ++ E) Hx' → ∀ a w, Fr n D L' a → Heap w M' (Hs ++ (E ++ Hx')) → Kc a w
theorem Fin.kp {Kc : Act → World → Prop} (hk : KP P r n ds ks rest Q M0 Hs Kc) (hM : M0.le M) (ha : Arr H (Hs ++ Hx)) (h : RP P r n ds ks rest Q D L M0 M Hs Hx) : Fin n .normal (Exit.then Kc Q) D L M H :=
  fun a w hf hh => hk D L M0 M [] Hx (Mem.le_refl _) hM (by rw [List.append_nil]; exact h) a w hf (ha.heap hh)
/-- the pool as it stands now, and more blocks, stay from here on -/
theorem Fin.kpB {Kc : Act → World → Prop} {E : Hp} (hk : KP P r n ds ks rest Q M0 Hs Kc) (hM : M0.le M) (ha : Arr H (Hs ++ (E ++ Hx))) (h : RP P r n ds ks rest Q D L M M (Hs ++ E) Hx) : Fin n .normal (Exit.then Kc Q) D L M H :=
  fun a w hf hh => hk D L M M E Hx hM (Mem.le_refl _) h a w hf (ha.heap hh)
theorem wpIn_post {o : Oper} {a : Act} {w : World} {K : Act → World → Prop} {Q Q' : Post} (hp : ∀ c a w, Q (.panic c) a w → Q' (.panic c) a w) (ho : ∀ a w, Q .outgrown a w → Q' .outgrown a w) (h : o.wpIn (F0 r) 0 P a w K Q) : o.wpIn (F0 r) 0 P a w K Q' := by
  unfold Oper.wpIn at *
  refine ⟨h.1, ?_⟩
  have hh := h.2
  have hL : LetsOut Q → LetsOut Q' := fun ⟨a, w, hq⟩ => ⟨a, w, ho a w hq⟩
  generalize (o.semAt (F0 r).round a.eval).run P w = r at *
  cases r with
  | ok x w' =>
    cases x <;> simp only [Oper.uponIn] at hh ⊢
    case value => exact hh
    case skip => exact hh
    case defer => exact hh
    case enter => exact ⟨hh.1, CallsIn.mono hh.2 (fun e w'' he => by cases e <;> first | exact he | exact hp _ _ _ he | exact hL he)⟩
    case row => exact hh
    case round => exact ⟨hh.1, RoundIn.mono hh.2 (fun e w'' he => by cases e <;> first | exact he | exact hp _ _ _ he | exact hL he)⟩
  | halt x w' => cases x <;> simp only [Oper.uponIn] at hh ⊢; exact hp _ _ _ hh
theorem RP.eff_ (hw : ∀ (ops : Array Oper) (a : Act), OpsOf ds ops → Fr n D L a → Region.wanted ⟨d, op, ty, pos, af, g⟩ (yielded ops a.tmps) = true)
    (h : ∀ Kc, KP P r n ds ks rest Q M0 Hs Kc → ∀ ops, R false P r n ops [⟨d, op, ty, pos, af, none⟩] (Exit.then Kc Q) D L M (Hs ++ Hx)) : RP P r n ds (0 :: ks) (⟨d, op, ty, pos, af, g⟩ :: rest) Q D L M0 M Hs Hx := by
  intro ops js listed hO hS hN hQ hl hp hlen hM a hf
  cases js with
  | nil => exact hl.elim
  | cons j js =>
  have h0 : ops[j]? = some ⟨d, op, ty, pos, af, g⟩ := hl.1
  simp only [planFrom, Bool.and_eq_true, decide_eq_true_eq] at hp
  obtain ⟨⟨p1, p2⟩, p3⟩ := hp
  change AnyH r P ops M0 Hs Q (rest.length + 1) listed a M Hx
  refine ⟨hM, fun e => (by rw [p2] at e; cases e), fun i hi w hh => ?_⟩
  rw [p2] at hi
  simp only [List.mem_singleton] at hi
  subst hi
  have hk : KP P r n ds ks rest Q M0 Hs (fun a' w' => ∃ M' Hx', Heap w' M' (Hs ++ Hx') ∧ AnyH r P ops M0 Hs Q rest.length (listed.setIfInBounds i true) a' M' Hx') := by
    intro D' L' M1 M' E Hx' h1 hM' hRP a' w' hf' hh'
    exact ⟨M', E ++ Hx', hh', AnyH.base h1 _ _ _ _ _ (hRP ops js _ hO hS hN hQ hl.2 p3 (by simpa using hlen) hM' a' hf')⟩
  have h1 := h _ hk #[] a w hf hh
  unfold wpListIn at h1
  rw [if_pos (by simp [Region.wanted])] at h1
  unfold wpOpIn
  simp only [h0]
  rw [hw ops a hO hf, if_pos rfl]
  exact (wpIn_post (fun _ _ _ h => h) (fun _ _ h => h) h1 : (⟨d, op, ty, pos, af, none⟩ : Oper).wpIn (F0 r) 0 P a w _ Q)
theorem RP.eff (h : ∀ Kc, KP P r n ds ks rest Q M0 Hs Kc → ∀ ops, R false P r n ops [⟨d, op, ty, pos, af, none⟩] (Exit.then Kc Q) D L M (Hs ++ Hx)) : RP P r n ds (0 :: ks) (⟨d, op, ty, pos, af, none⟩ :: rest) Q D L M0 M Hs Hx :=
  RP.eff_ (fun _ _ _ _ => by simp [Region.wanted]) h
theorem RP.effT {j : Nat} {want : Bool} {dj : Tmp} (hdj : ds[j]? = some (some dj)) (hb : lk L dj = some (.bool want)) (hlt : Nat.ble (dj + 1) n = true)
    (h : ∀ Kc, KP P r n ds ks rest Q M0 Hs Kc → ∀ ops, R false P r n ops [⟨d, op, ty, pos, af, none⟩] (Exit.then Kc Q) D L M (Hs ++ Hx)) : RP P r n ds (0 :: ks) (⟨d, op, ty, pos, af, some (j, want)⟩ :: rest) Q D L M0 M Hs Hx :=
  RP.eff_ (fun _ _ hO hf => by rw [wanted_guard hf hO hdj hb hlt]; simp) h
/-- two operations that write, in either order: where they meet again -/
def KE (P : Program) (r : Option Nat) (n : Nat) (o : Oper) (Q' : Post) (M0 : Mem) (Hs : Hp) (Kc : Act → World → Prop) : Prop :=
  ∀ D L' M' Hx', M0.le M' → (∀ ops, R false P r n ops [o] Q' D L' M' (Hs ++ Hx')) → ∀ a w, Fr n D L' a → Heap w M' (Hs ++ Hx') → Kc a w
theorem Fin.ke {o : Oper} {Q' : Post} {Kc : Act → World → Prop} (hk : KE P r n o Q' M0 Hs Kc) (hM : M0.le M) (ha : Arr H (Hs ++ Hx)) (h : ∀ ops, R false P r n ops [o] Q' D L M (Hs ++ Hx)) : Fin n .normal (Exit.then Kc Q) D L M H :=
  fun a w hf hh => hk D L M Hx hM h a w hf (ha.heap hh)
/-- the meeting -/
def Meet {X : Type} (n : Nat) (D : List Deferred) (I : X → Prop) (Lf : X → Sl) (Mf : X → Mem) (Hf : X → Hp) (M0 : Mem) (Hs : Hp) (a : Act) (w : World) : Prop :=
  ∃ y, I y ∧ M0.le (Mf y) ∧ Fr n D (Lf y) a ∧ Heap w (Mf y) (Hs ++ Hf y)
theorem Fin.meet {X : Type} {I : X → Prop} {Lf : X → Sl} {Mf : X → Mem} {Hf : X → Hp} (y : X) (hI : I y) (hM0 : M0.le (Mf y)) (hL : sub (Lf y) L) (hM : M = Mf y) (ha : Arr H (Hs ++ Hf y)) : Fin n .normal (Exit.then (Meet n D I Lf Mf Hf M0 Hs) Q) D L M H := by
  intro a w hf hh
  subst hM
  exact ⟨y, hI, hM0, hf.weak hL, ha.heap hh⟩
theorem wpOpIn_eff {ops : Array Oper} {i : Nat} {op : Op} {ty : TypeId} {pos : String} {af : Array Edge} {a : Act} {w : World} {Kc : Act → World → Prop} (h0 : ops[i]? = some ⟨d, op, ty, pos, af, none⟩) (h1 : wpListIn (F0 r) 0 P #[] (Exit.then Kc Q) [⟨d, op, ty, pos, af, none⟩] a w) : wpOpIn (F0 r) 0 P ops Q i Kc a w := by
  unfold wpListIn at h1
  rw [if_pos (by simp [Region.wanted])] at h1
  unfold wpOpIn
  simp only [h0]
  rw [if_pos (by simp [Region.wanted])]
  exact (wpIn_post (fun _ _ _ h => h) (fun _ _ h => h) h1 : (⟨d, op, ty, pos, af, none⟩ : Oper).wpIn (F0 r) 0 P a w _ Q)
theorem RP.pair {X : Type} (I : X → Prop) (Lf : X → Sl) (Mf : X → Mem) (Hf : X → Hp) {d2 : Option Tmp} {op2 : Op} {ty2 : TypeId} {pos2 : String} {af2 : Array Edge}
    (h1 : ∀ Kc, KE P r n ⟨d2, op2, ty2, pos2, af2, none⟩ (Exit.then (Meet n D I Lf Mf Hf M0 Hs) Q) M0 Hs Kc → ∀ ops, R false P r n ops [⟨d, op, ty, pos, af, none⟩] (Exit.then Kc Q) D L M (Hs ++ Hx))
    (h2 : ∀ Kc, KE P r n ⟨d, op, ty, pos, af, none⟩ (Exit.then (Meet n D I Lf Mf Hf M0 Hs) Q) M0 Hs Kc → ∀ ops, R false P r n ops [⟨d2, op2, ty2, pos2, af2, none⟩] (Exit.then Kc Q) D L M (Hs ++ Hx))
    (k : ∀ y, I y → RP P r n ds ks rest Q D (Lf y) M0 (Mf y) Hs (Hf y)) : RP P r n ds (2 :: 2 :: ks) (⟨d, op, ty, pos, af, none⟩ :: ⟨d2, op2, ty2, pos2, af2, none⟩ :: rest) Q D L M0 M Hs Hx := by
  intro ops js listed hO hS hN hQ hl hp hlen hM a hf
  match js with
  | [] => exact hl.elim
  | [_] => exact hl.2.elim
  | i :: j :: js =>
  have hi0 : ops[i]? = some ⟨d, op, ty, pos, af, none⟩ := hl.1
  have hj0 : ops[j]? = some ⟨d2, op2, ty2, pos2, af2, none⟩ := hl.2.1
  simp only [planFrom, Bool.and_eq_true, decide_eq_true_eq] at hp
  obtain ⟨⟨⟨⟨⟨p1, p2⟩, p3⟩, p4⟩, p5⟩, p6⟩ := hp
  have hij : i ≠ j := fun e => by subst e; simp at p5
  have hcomm : (listed.setIfInBounds j true).setIfInBounds i true = (listed.setIfInBounds i true).setIfInBounds j true := Array.setIfInBounds_comm _ _ (Ne.symm hij)
  have key : ∀ a' w', Meet n D I Lf Mf Hf M0 Hs a' w' → ∃ M' Hx', Heap w' M' (Hs ++ Hx') ∧ AnyH r P ops M0 Hs Q rest.length ((listed.setIfInBounds i true).setIfInBounds j true) a' M' Hx' := by
    rintro a' w' ⟨y, hI, hMy, hfy, hhy⟩
    exact ⟨Mf y, Hf y, hhy, k y hI ops js _ hO hS hN hQ hl.2.2 p6 (by simpa using hlen) hMy a' hfy⟩
  change AnyH r P ops M0 Hs Q (rest.length + 2) listed a M Hx
  refine ⟨hM, fun e => (by rw [e] at p2; simp at p2), fun q hq w hh => ?_⟩
  have hq' := List.all_eq_true.1 p1 q hq
  rw [Bool.or_eq_true] at hq'
  rcases hq' with hq' | hq'
  · obtain rfl := Nat.eq_of_beq_eq_true hq'
    refine wpOpIn_eff hi0 (h1 _ ?_ #[] a w hf hh)
    intro D' L' M' Hx' hM' hR a' w' hf' hh'
    refine ⟨M', Hx', hh', ?_⟩
    refine ⟨hM', fun e => (by rw [p3] at e; cases e), fun q2 hq2 w2 hh2 => ?_⟩
    rw [p3, List.mem_singleton] at hq2
    subst hq2
    exact wpOpIn_mono key (wpOpIn_eff hj0 (hR #[] a' w2 hf' hh2))
  · obtain rfl := Nat.eq_of_beq_eq_true hq'
    refine wpOpIn_eff hj0 (h2 _ ?_ #[] a w hf hh)
    intro D' L' M' Hx' hM' hR a' w' hf' hh'
    refine ⟨M', Hx', hh', ?_⟩
    refine ⟨hM', fun e => (by rw [p4] at e; cases e), fun q2 hq2 w2 hh2 => ?_⟩
    rw [p4, List.mem_singleton] at hq2
    subst hq2
    refine wpOpIn_mono ?_ (wpOpIn_eff hi0 (hR #[] a' w2 hf' hh2))
    rw [hcomm]
    exact key
end
end Go.Sx
