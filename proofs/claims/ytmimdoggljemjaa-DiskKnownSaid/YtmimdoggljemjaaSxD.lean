/-
  Slices: read ('Rd', 'Pl'), owned and grown ('Own'); append, literals, make; strings and bytes.
-/
import Derived.Test.YtmimdoggljemjaaSxC
import Derived.Maps.AppendAt
import Derived.Laws.MakeOwn
import Derived.Laws.BytesString
import Derived.Laws.BytesArg
import Derived.Lib.AppendStr
namespace Go.Sx
open Go.RowKit
variable {P : Program} {r : Option Nat} {n : Nat} {D : List Deferred} {L L' : Sl} {M : Mem} {H H1 : Hp} {Q : Post}

/-- the slice's cells, by whatever state -/
def Rd (M : Mem) (H : Hp) (A : Option Addr) (xs : List Value) : Prop :=
  xs = [] ∨ ∃ ad, A = some ad ∧ ∀ w, Heap w M H → ∀ j u, xs[j]? = some u → w.cell? (ad.add j) = some u
/-- the slice's cells, in the pool -/
def Pl (M : Mem) (A : Option Addr) (xs : List Value) : Prop :=
  xs = [] ∨ ∃ b o c e fr, A = some ⟨b, o, none⟩ ∧ M.at_ b = some (.cells c e fr) ∧ ∀ j u, xs[j]? = some u → c[o + j]? = some u
theorem Pl.rd {A : Option Addr} {xs : List Value} (h : Pl M A xs) : Rd M H A xs := by
  rcases h with h | ⟨b, o, c, e, fr, rfl, hb, hc⟩
  · exact .inl h
  · refine .inr ⟨_, rfl, fun w hh j u hj => ?_⟩
    rw [Addr.add_lit]
    simp [World.cell?, hh.pool _ _ hb, hc j u hj]
theorem Rd.nil {A : Option Addr} : Rd M H A [] := .inl rfl
theorem Pl.nil {A : Option Addr} : Pl M A [] := .inl rfl
theorem Rd.at_ {b o : Nat} {l xs : List Value} {e : TypeId} {fr : Nat × Nat} {f : Obj → Hp} (h : At H b (.cells l.toArray e fr) f) (hx : ∀ j u, xs[j]? = some u → l[o + j]? = some u) : Rd M H (some ⟨b, o, none⟩) xs :=
  .inr ⟨_, rfl, fun w hh j u hj => by
    rw [Addr.add_lit]
    simp [World.cell?, hh.own _ h.mem, hx j u hj]⟩
theorem Pl.cut {A : Option Addr} {xs : List Value} {l size cap : Nat} (h : Pl M A xs) (hc : xs.length ≤ cap * size) : Pl M (adv A l size cap) (xs.drop (l * size)) := by
  rcases h with h | ⟨b, o, c, e, fr, rfl, hb, hx⟩
  · subst h; exact .inl (by simp)
  · unfold adv
    split
    · rename_i e'; subst e'
      exact .inl (List.drop_eq_nil_of_le hc)
    · refine .inr ⟨b, o + l * size, c, e, fr, by simp [Addr.add_lit], hb, fun j u hj => ?_⟩
      rw [List.getElem?_drop] at hj
      rw [Nat.add_assoc]; exact hx _ _ hj
theorem Pl.take {A : Option Addr} {xs : List Value} (k : Nat) (h : Pl M A xs) : Pl M A (xs.take k) := by
  rcases h with h | ⟨b, o, c, e, fr, rfl, hb, hx⟩
  · subst h; exact .inl (by simp)
  · refine .inr ⟨b, o, c, e, fr, rfl, hb, fun j u hj => hx j u ?_⟩
    rw [List.getElem?_take] at hj
    split at hj
    · exact hj
    · cases hj
/-- the pool grows -/
def Mem.le (M M' : Mem) : Prop := M'.os = M.os ∧ M'.out = M.out ∧ ∀ b o, M.at_ b = some o → M'.at_ b = some o
theorem Mem.le_refl (M : Mem) : M.le M := ⟨rfl, rfl, fun _ _ h => h⟩
theorem Mem.le_trans {M1 M2 M3 : Mem} (h : M1.le M2) (h' : M2.le M3) : M1.le M3 := ⟨h'.1.trans h.1, h'.2.1.trans h.2.1, fun b o hb => h'.2.2 b o (h.2.2 b o hb)⟩
theorem Mem.le.trans_ {M1 M2 M3 : Mem} (h : M1.le M2) (h' : M2.le M3) : M1.le M3 := Mem.le_trans h h'
theorem Mem.le_put {b : Nat} {o : Obj} (h : M.at_ b = none) : M.le (M.put b o) := ⟨rfl, rfl, fun k ok hk => by
  have : k ≠ b := fun e => by subst e; rw [h] at hk; cases hk
  simp [Mem.put, this, hk]⟩
theorem Mem.put_at {b : Nat} {o : Obj} : (M.put b o).at_ b = some o := by simp [Mem.put]
theorem Pl.mono {M' : Mem} (hM : M.le M') {A : Option Addr} {xs : List Value} (h : Pl M A xs) : Pl M' A xs := by
  rcases h with h | ⟨b, o, c, e, fr, h1, h2, h3⟩
  · exact .inl h
  · exact .inr ⟨b, o, c, e, fr, h1, hM.2.2 _ _ h2, h3⟩

/-- a segment taken out -/
inductive Tk : Hp → Hp → Hp → Prop
  | here (hp H : Hp) : Tk hp (hp ++ H) H
  | one (b : Nat) (o : Obj) (H : Hp) : Tk [(b, o)] ((b, o) :: H) H
  | none (H : Hp) : Tk [] H H
  | skip {hp H H1 : Hp} (x : Nat × Obj) (h : Tk hp H H1) : Tk hp (x :: H) (x :: H1)
  | skipA {hp H H1 : Hp} (s : Hp) (h : Tk hp H H1) : Tk hp (s ++ H) (s ++ H1)
theorem Tk.perm {hp H H1 : Hp} (h : Tk hp H H1) : H.Perm (hp ++ H1) := by
  induction h with
  | here hp H => exact .refl _
  | one b o H => exact .refl _
  | none H => exact .refl _
  | skip x h ih => exact (ih.cons x).trans List.perm_middle.symm
  | skipA s h ih =>
    refine (ih.append_left s).trans ?_
    rw [← List.append_assoc, ← List.append_assoc]
    exact List.perm_append_comm.append_right _
theorem At.app {b : Nat} {o : Obj} {f : Obj → Hp} (s : Hp) (h : At H b o f) : At (s ++ H) b o (fun o' => s ++ f o') := by
  induction s with
  | nil => exact h
  | cons x s ih => exact ih.tail x

/-- the blocks arranged anew; what is not wanted goes -/
inductive Arr : Hp → Hp → Prop
  | all (H : Hp) : Arr H H
  | cons {H H1 R : Hp} {x : Nat × Obj} (h : Tk [x] H H1) (t : Arr H1 R) : Arr H (x :: R)
  | app {H H1 R s : Hp} (h : Tk s H H1) (t : Arr H1 R) : Arr H (s ++ R)
  | drop {H R : Hp} (x : Nat × Obj) (t : Arr H R) : Arr (x :: H) R
  | dropA {H R : Hp} (s : Hp) (t : Arr H R) : Arr (s ++ H) R
theorem Heap.tailA {w : World} (s : Hp) (h : Heap w M (s ++ H)) : Heap w M H := by
  induction s with
  | nil => exact h
  | cons x s ih => exact ih h.tail
theorem Heap.appendL {w : World} {s R : Hp} (h : Heap w M (s ++ H)) (h' : Heap w M H → Heap w M R) (hsub : ∀ p ∈ R, p ∈ H) : Heap w M (s ++ R) := by
  have hR := h' (h.tailA s)
  refine ⟨h.os, h.out, h.pool, ?_, ?_, ?_⟩
  · intro p hp
    rcases List.mem_append.1 hp with hp | hp
    · exact h.own p (List.mem_append_left _ hp)
    · exact hR.own p hp
  · intro p hp
    rcases List.mem_append.1 hp with hp | hp
    · exact h.apart p (List.mem_append_left _ hp)
    · exact hR.apart p hp
  · have hnd := h.nodup
    rw [List.map_append, List.nodup_append] at hnd ⊢
    refine ⟨hnd.1, hR.nodup, fun a ha b hb => hnd.2.2 a ha b ?_⟩
    obtain ⟨p, hp, rfl⟩ := List.mem_map.1 hb
    exact List.mem_map.2 ⟨p, hsub p hp, rfl⟩
theorem Arr.sub {H R : Hp} (h : Arr H R) : ∀ p ∈ R, p ∈ H := by
  induction h with
  | all H => exact fun p hp => hp
  | cons h t ih => exact fun p hp => h.perm.mem_iff.2 (by
    rcases List.mem_cons.1 hp with rfl | hp
    · exact List.mem_cons_self ..
    · exact List.mem_cons_of_mem _ (ih p hp))
  | app h t ih => exact fun p hp => h.perm.mem_iff.2 (by
    rcases List.mem_append.1 hp with hp | hp
    · exact List.mem_append_left _ hp
    · exact List.mem_append_right _ (ih p hp))
  | drop x t ih => exact fun p hp => List.mem_cons_of_mem _ (ih p hp)
  | dropA s t ih => exact fun p hp => List.mem_append_right _ (ih p hp)
theorem Arr.heap {w : World} {H R : Hp} (h : Arr H R) : Heap w M H → Heap w M R := by
  induction h with
  | all H => exact id
  | @cons H H1 R x h t ih => exact fun hh => (hh.perm h.perm).appendL (s := [x]) ih t.sub
  | @app H H1 R s h t ih => exact fun hh => (hh.perm h.perm).appendL ih t.sub
  | drop x t ih => exact fun hh => ih hh.tail
  | dropA s t ih => exact fun hh => ih (hh.tailA s)
theorem Fin.arr {e : Exit} {H2 : Hp} (ha : Arr H H2) (h : Fin n e Q D L M H2) : Fin n e Q D L M H := fun a w hf hh => h a w hf (ha.heap hh)
theorem C.arr {c : Code} {H2 : Hp} (ha : Arr H H2) (h : C P r n c Q D L M H2) : C P r n c Q D L M H := fun a w hf hh => h a w hf (ha.heap hh)
theorem R.arr {ops : Array Oper} {rest : List Oper} {H2 : Hp} (ha : Arr H H2) (h : R false P r n ops rest Q D L M H2) : R false P r n ops rest Q D L M H := fun a w hf hh => h a w hf (ha.heap hh)
theorem K.arr {f : Nat} {args : List Value} {T : Value → Mem → Hp → Prop} {H2 : Hp} (ha : Arr H H2) (h : K P f args M H2 T) : K P f args M H T := fun w hh => h w (ha.heap hh)
/-- the end of a function: the blocks as the contract names them -/
theorem Fin.returnA {fn : Func} {T : Value → Mem → Hp → Prop} {rs : List ResultVar} {vs : List Value} {v : Value} {e : Exit} {H2 : Hp} (hq : RetOk P fn T Q) (he : e = .ret ∨ e = .normal) (hr : fn.results = rs.toArray) (h : Res P L M H rs vs) (hv : retv vs = v) (ha : Arr H H2) (ht : T v M H2) : Fin n e Q [] L M H :=
  hq n L M H H2 rs vs e he hr h (fun _ hh => ha.heap hh) (by rw [hv]; exact ht)

/-- a slice that the holder may write and grow: nil, or the head of a row of its own -/
def Own (e sz : Nat) (v : Value) (m : Nat) (xs : List Value) (hp : Hp) : Prop :=
  xs.length = m * sz ∧ ((v = .slice none 0 0 ∧ m = 0 ∧ hp = []) ∨
    ∃ b cap c, v = .slice (some ⟨b, 0, none⟩) m cap ∧ hp = [(b, .cells c e (0, 0))] ∧ m ≤ cap ∧ cap ≤ maxLen ∧ c.size = cap * sz ∧ c.toList.take (m * sz) = xs)
theorem Own.nil (e sz : Nat) : Own e sz (.slice none 0 0) 0 [] [] := ⟨by simp, .inl ⟨rfl, rfl, rfl⟩⟩
theorem Own.len {e sz m : Nat} {v : Value} {xs : List Value} {hp : Hp} (h : Own e sz v m xs hp) : xs.length = m * sz := h.1
theorem Own.form {e sz m : Nat} {v : Value} {xs : List Value} {hp : Hp} (h : Own e sz v m xs hp) : ∃ A cap, v = .slice A m cap ∧ m ≤ cap ∧ cap ≤ maxLen := by
  rcases h.2 with ⟨h1, h2, _⟩ | ⟨b, cap, c, h1, _, h2, h3, _⟩
  · exact ⟨none, 0, by rw [h1, h2], by omega, by unfold maxLen; omega⟩
  · exact ⟨_, cap, h1, h2, h3⟩
theorem Own.row {e sz m : Nat} {v : Value} {xs : List Value} {hp : Hp} {w : World} (h : Own e sz v m xs hp) (hh : Heap w M (hp ++ H)) : w.ownsRow 0 e sz v m xs := by
  refine ⟨h.1, ?_⟩
  rcases h.2 with ⟨h1, h2, _⟩ | ⟨b, cap, c, h1, h2, h3, h4, h5, h6⟩
  · exact .inl ⟨h1, h2⟩
  · exact .inr ⟨b, cap, c, h1, Nat.zero_le _, hh.own (b, _) (by subst h2; simp), h3, h4, h5, h6⟩
theorem Own.block {e sz m : Nat} {v : Value} {xs : List Value} {hp : Hp} (h : Own e sz v m xs hp) : hp.map Prod.fst = (v.ownBlock).toList := by
  rcases h.2 with ⟨h1, h2, h3⟩ | ⟨b, cap, c, h1, h2, _⟩
  · subst h1; subst h3; rfl
  · subst h1; subst h2; rfl

theorem Heap.grown {w w' : World} {hp hp' : Hp} (h : Heap w M (hp ++ H)) (hos : w'.os = w.os) (hout : w'.output = w.output)
    (hk : ∀ k, k < w.heap.size → k ∉ hp.map Prod.fst → w'.heap[k]? = w.heap[k]?) (hn : ∀ p ∈ hp', w'.heap[p.1]? = some p.2) (hb : ∀ p ∈ hp', p.1 ∈ hp.map Prod.fst ∨ w.heap.size ≤ p.1) (hnd : (hp'.map Prod.fst).Nodup) : Heap w' M (hp' ++ H) := by
  have hnd0 := h.nodup
  rw [List.map_append, List.nodup_append] at hnd0
  obtain ⟨_, n2, n3⟩ := hnd0
  have hH : ∀ p ∈ H, p.1 ∉ hp.map Prod.fst := fun p hp1 hm => n3 p.1 hm p.1 (List.mem_map.2 ⟨p, hp1, rfl⟩) rfl
  have hlt : ∀ p ∈ H, p.1 < w.heap.size := fun p hp1 => heap_lt (h.own p (List.mem_append_right _ hp1))
  refine ⟨hos.trans h.os, hout.trans h.out, ?_, ?_, ?_, ?_⟩
  · intro b o hbo
    rw [hk b (heap_lt (h.pool b o hbo))]
    · exact h.pool b o hbo
    · intro hm
      obtain ⟨p, hp1, rfl⟩ := List.mem_map.1 hm
      have := h.apart p (List.mem_append_left _ hp1)
      rw [this] at hbo; cases hbo
  · intro p hp1
    rcases List.mem_append.1 hp1 with hp1 | hp1
    · exact hn p hp1
    · rw [hk _ (hlt p hp1) (hH p hp1)]; exact h.own p (List.mem_append_right _ hp1)
  · intro p hp1
    rcases List.mem_append.1 hp1 with hp1 | hp1
    · rcases hb p hp1 with hm | hge
      · obtain ⟨q, hq, he⟩ := List.mem_map.1 hm
        rw [← he]; exact h.apart q (List.mem_append_left _ hq)
      · cases hM : M.at_ p.1 with
        | none => rfl
        | some o => have := heap_lt (h.pool _ _ hM); omega
    · exact h.apart p (List.mem_append_right _ hp1)
  · rw [List.map_append, List.nodup_append]
    refine ⟨hnd, n2, ?_⟩
    intro a ha b hb' e
    subst e
    obtain ⟨p, hp1, rfl⟩ := List.mem_map.1 ha
    obtain ⟨q, hq, he⟩ := List.mem_map.1 hb'
    rcases hb p hp1 with hm | hge
    · exact hH q hq (by rw [he]; exact hm)
    · have := hlt q hq; omega

theorem Own.of_row {e sz m k : Nat} {v v' : Value} {xs ys : List Value} {hp : Hp} {w w' : World} (h : Own e sz v m xs hp) (hh : Heap w M (hp ++ H)) (hr : w'.ownsRow 0 e sz v' k ys) (hg : w.grownBy w' v.ownBlock)
    (hat : v'.ownBlock = v.ownBlock ∨ v'.ownBlock = some w.heap.size) : ∃ hp', Own e sz v' k ys hp' ∧ Heap w' M (hp' ++ H) := by
  have hblk := h.block
  have hk : ∀ k, k < w.heap.size → k ∉ hp.map Prod.fst → w'.heap[k]? = w.heap[k]? := fun k hlt hm => hg.block k hlt (fun e' => hm (by rw [hblk, ← e']; simp))
  rcases hr with ⟨hl, ⟨h1, h2⟩ | ⟨g, cap, cur, h1, _, h3, h4, h5, h6, h7⟩⟩
  · refine ⟨[], ⟨hl, .inl ⟨h1, h2, rfl⟩⟩, ?_⟩
    exact hh.grown hg.os hg.output hk (by simp) (by simp) (by simp)
  · refine ⟨[(g, .cells cur e (0, 0))], ⟨hl, .inr ⟨g, cap, cur, h1, rfl, h4, h5, h6, h7⟩⟩, ?_⟩
    refine hh.grown hg.os hg.output hk (by simpa using h3) ?_ (by simp)
    intro p hp1
    simp only [List.mem_singleton] at hp1
    subst hp1
    subst h1
    change some g = v.ownBlock ∨ some g = some w.heap.size at hat
    rcases hat with hat | hat
    · left; rw [hblk, ← hat]; exact List.mem_singleton.2 rfl
    · right; cases hat; exact Nat.le_refl _

section
variable {d : Option Tmp} {ty : TypeId} {pos : String} {af : Array Edge} {ops : Array Oper} {rest : List Oper}

theorem append_nil_run {t ty e sz by_ m : Nat} {z : Value} {v : Value} {xs : List Value} {hp : Hp} {A : Option Addr} {c : Nat} [hs : Und P t (.slice e)] [hi : Inf P e sz by_ z] (hown : Own e sz v m xs hp) (w : World) :
    (Builtin.append_ #[t, t] ty #[v, .slice A 0 c]).run P w = .ok v w := by
  obtain ⟨A0, cap, rfl, hle, _⟩ := hown.form
  obtain ⟨inf, g1, g2, _, _⟩ := hi.h
  have h0 : (Builtin.firstCells sz 0 (.slice A 0 c)).run P w = .ok #[] w := by
    cases A <;> simp [Builtin.firstCells, loadCells, loadCellsFrom]
  cases A0 <;> simp [Builtin.append_, run_underlying hs.h, sizeOf, typeInfo, g1, g2, Builtin.lenOf, hle, h0, storeCells]

theorem append_run {t ty e sz by_ m : Nat} {z : Value} {v : Value} {xs news : List Value} {hp : Hp} {A : Option Addr} {k c : Nat} [hs : Und P t (.slice e)] [hi : Inf P e sz by_ z] (hz : z.cells.size = sz) (hsz : 0 < sz) (hby : 0 < by_)
    (hown : Own e sz v m xs hp) {w : World} (hh : Heap w M (hp ++ H)) (hl : news.length = k * sz) (hrd : Rd M (hp ++ H) A news) (hone : ∀ u ∈ news, u.oneCell' = true) (hbytes : (m + k) * by_ ≤ 140737488355328) :
    ∃ v' w' hp', (Builtin.append_ #[t, t] ty #[v, .slice A k c]).run P w = .ok v' w' ∧ Own e sz v' (m + k) (xs ++ news) hp' ∧ Heap w' M (hp' ++ H) := by
  obtain ⟨inf, g1, g2, g3, g4⟩ := hi.h
  have h63 : m + k ≤ maxLen := by
    have : (m + k) * 1 ≤ (m + k) * by_ := Nat.mul_le_mul_left _ hby
    unfold maxLen; omega
  rcases hrd with rfl | ⟨ad, rfl, hc⟩
  · have hk : k = 0 := by
      rcases Nat.eq_zero_or_pos k with h | h
      · exact h
      · have := Nat.mul_pos h hsz; simp at hl; omega
    subst hk
    exact ⟨v, w, hp, append_nil_run (e := e) (sz := sz) (z := z) (by_ := by_) hown w, by simpa using hown, hh⟩
  · obtain ⟨v', w', h1, h2, h3, _, h5⟩ := run_append_own_at (P := P) w 0 t ty e inf z sz by_ hs.h g1 g4 g2 g3 hz hsz v m xs (hown.row hh) ad k c news hl (hc w hh) hone h63 hbytes (Nat.zero_le _)
    obtain ⟨hp', h6, h7⟩ := hown.of_row hh h2 h3 h5
    exact ⟨v', w', hp', h1, h6, h7⟩

theorem builtin_run {b : Builtin} {xs : List Operand} {vs : List Value} {ts : Array TypeId} {a : Act} {g : Option (Nat × Bool)} (hf : Fr n D L a) (hx : Evs L xs vs) {s : Sem Value}
    (hb : ∀ cs, builtin b ts ty cs vs.toArray = (do pure (.value (← s)))) {w w' : World} {v : Value} (hs : s.run P w = .ok v w') :
    (execOp a.eval ⟨d, .call ⟨.builtin b, xs.toArray, ts⟩, ty, pos, af, g⟩).run P w = .ok (.value v) w' := by
  have h1 := hf.evs hx
  simp only [execOp, resolve, List.map_toArray, h1, Sem.run_bind, Sem.run_pure, Result.andThen, invoke]
  rw [hb]
  simp [hs]

theorem R.append {t e sz by_ m k c : Nat} {z : Value} {s x : Operand} {v : Value} {xs news : List Value} {hp : Hp} {A : Option Addr} [hst : Und P t (.slice e)] [hi : Inf P e sz by_ z]
    (hs : ev L s = some v) (hx : ev L x = some (.slice A k c)) (hown : Own e sz v m xs hp) (ht : Tk hp H H1) (hrd : Rd M (hp ++ H1) A news) (hl : news.length = k * sz) (hone : ∀ u ∈ news, u.oneCell' = true) (hbytes : (m + k) * by_ ≤ 140737488355328)
    (hz : z.cells.size = sz) (hsz : 0 < sz) (hby : 0 < by_) (hd : dok n d = true)
    (kk : ∀ v' hp', Own e sz v' (m + k) (xs ++ news) hp' → R false P r n ops rest Q D (bnd d v' L) M (hp' ++ H1)) :
    R false P r n ops (⟨d, .call ⟨.builtin .append, #[s, x], #[t, t]⟩, ty, pos, af, none⟩ :: rest) Q D L M H := by
  refine R.world rfl (by intro c h; cases h) fun a w hf hh => ?_
  have hh' := hh.perm ht.perm
  obtain ⟨v', w', hp', h1, h2, h3⟩ := append_run (P := P) (t := t) (e := e) (ty := ty) (c := c) hz hsz hby hown hh' hl hrd hone hbytes
  exact ⟨v', w', .inl (builtin_run (xs := [s, x]) (vs := [v, .slice A k c]) hf (.cons hs (.cons hx .nil)) (fun _ => rfl) h1), fun hf _ => kk v' hp' h2 _ _ (hf.put d hd v') h3⟩
end
end Go.Sx
