/- DiskRooms: the walk. -/
import Derived.Test.YtmimdoggljemjaaDoorD10p
import Derived.Test.YtmimdoggljemjaaDoorSxX
namespace Go.Sx
open Go Go.Proofs Go.RowKit
attribute [local irreducible] C R Fin K Own OwnT Rd Pl Ok KOf RetOk OpsOf RP KP Res NoPanic KV KE MapS ItS EntS FsO FsR RowD PlD
instance : Und Tryd.prog 31 (.array 4 9) := ⟨Tryd.underlying31⟩
def nms : List Txt := [[97], [98], [115, 48, 48, 48, 48, 48, 48, 48, 48, 48, 48, 48, 48, 48, 48, 49], [115, 110, 97, 112]]
structure StR where
  w : Int
  a : Int
  b : Int
  n : Value
  t : Value
  bs : Txt
  A : Option Addr
  c : Nat
  near : Bool
def stR (x : StR) : List Value := [.int .i64 x.w, .int .i64 x.a, .int .i64 x.b, x.n, x.t, .slice x.A x.bs.length x.c, .bool x.near]
section
variable {H : Type} {enc : TypeId × Value → H} {W : World} {m : Nat} {cs : List Value} {z : DataW H × List MemPlace}
def StRok (M : Mem) (x : StR) : Prop := x.bs.length ≤ x.c ∧ x.c ≤ 140737488351232 ∧ Pl M x.A (x.bs.map bv) ∧ (-9223372036854775808 ≤ x.b ∧ x.b ≤ 9223372036854775807)
theorem rd_stR (h : Trd enc Tryd.prog W m 34 cs z) (hw : Wgt Tryd.prog 34 z.1) : ∃ x : StR, cs = stR x ∧ StRok (Mem.of W) x := by
  obtain ⟨hl, k, hf⟩ := rd_fields Tryd.underlying34 h hw
  rw [show Tryd.prog.cellsOf 34 = 7 by kernel_rfl] at hl
  obtain ⟨y0, h0, _⟩ := hf 0 3 0 1 rfl (by kernel_rfl)
  obtain ⟨y1, h1, _⟩ := hf 1 3 1 1 rfl (by kernel_rfl)
  obtain ⟨y2, h2, _⟩ := hf 2 3 2 1 rfl (by kernel_rfl)
  obtain ⟨y5, h5, g5⟩ := hf 5 32 5 1 rfl (by kernel_rfl)
  obtain ⟨y6, h6, _⟩ := hf 6 4 6 1 rfl (by kernel_rfl)
  obtain ⟨a0, e0, w0⟩ := rd_int h0
  obtain ⟨a1, e1, w1⟩ := rd_int h1
  obtain ⟨a2, e2, w2⟩ := rd_int h2
  obtain ⟨A, bs, cap, e5, q1, q2, q3⟩ := rd_bytes (e := 5) h5 g5
  obtain ⟨ne, e6⟩ := rd_bool h6
  match cs, hl with
  | [x0, x1, x2, x3, x4, x5, x6], _ =>
    cases e0; cases e1; cases e2; cases e5; cases e6
    exact ⟨⟨a0, a1, a2, x3, x4, bs, A, cap, ne⟩, rfl, q1, q3, q2, i64_bd w2⟩
theorem rd_stRs : ∀ (css : List (List Value)), (∀ c ∈ css, c.length = 7 ∧ ∃ m y, Trd enc Tryd.prog W m 34 c y ∧ Wgt Tryd.prog 34 y.1) → ∃ xs : List StR, css = xs.map stR ∧ ∀ x ∈ xs, StRok (Mem.of W) x
  | [], _ => ⟨[], rfl, fun _ h => absurd h List.not_mem_nil⟩
  | c :: css, h => by
    obtain ⟨xs, h1, h2⟩ := rd_stRs css (fun c hc => h c (List.mem_cons_of_mem _ hc))
    obtain ⟨_, m, y, h5, h6⟩ := h c (List.mem_cons_self ..)
    obtain ⟨x, rfl, h7⟩ := rd_stR h5 h6
    refine ⟨x :: xs, by rw [h1]; rfl, fun a ha => ?_⟩
    rcases List.mem_cons.1 ha with rfl | ha
    · exact h7
    · exact h2 a ha
end
variable {M M' : Mem} {H H1 H2 : Hp}
theorem stR_at {A : Option Addr} {xs : List StR} {k : Nat} (hp : Pl M A (xs.map stR).flatten) (hk : k < xs.length) :
    ∃ b o c e fr, A = some ⟨b, o, none⟩ ∧ M.at_ b = some (.cells c e fr) ∧ ∀ (q : Nat) u, (stR xs[k])[q]? = some u → c[o + k * 7 + q]? = some u := by
  have hc : ∀ c ∈ xs.map stR, c.length = 7 := by intro c hc; obtain ⟨x, _, rfl⟩ := List.mem_map.1 hc; rfl
  have hkm : k < (xs.map stR).length := by rw [List.length_map]; exact hk
  have hfl : ∀ (q : Nat) u, (stR xs[k])[q]? = some u → (xs.map stR).flatten[k * 7 + q]? = some u := fun q u hq => rows_get hc hkm (by rw [List.getElem_map]; exact hq)
  obtain ⟨b, o, c, e, fr, g1, g2, _⟩ := hp.get (hfl 0 _ rfl)
  refine ⟨b, o, c, e, fr, g1, g2, fun q u hq => ?_⟩
  obtain ⟨b', o', c', e', fr', g1', g2', g3'⟩ := hp.get (hfl q u hq)
  rw [g1] at g1'
  cases g1'
  rw [g2] at g2'
  cases g2'
  rw [Nat.add_assoc]
  exact g3'
theorem nodup_le {α : Type} [DecidableEq α] : ∀ (ks l : List α), l.Nodup → (∀ a ∈ l, a ∈ ks) → l.length ≤ ks.length
  | [], l, _, h => by
    cases l with
    | nil => exact Nat.le_refl _
    | cons a l => exact absurd (h a (List.mem_cons_self ..)) List.not_mem_nil
  | k :: ks, l, hn, h => by
    have h1 := nodup_le ks (l.erase k) (hn.erase k) (fun a ha => by
      have h2 := (hn.mem_erase_iff).1 ha
      rcases List.mem_cons.1 (h a h2.2) with h3 | h3
      · exact absurd h3 h2.1
      · exact h3)
    rw [List.length_cons]
    by_cases hk : k ∈ l
    · rw [List.length_erase_of_mem hk] at h1
      omega
    · rw [List.erase_of_not_mem hk] at h1
      omega
/-- a disk of few files that nothing stops -/
def FewD (d : Dk) (R : Int) (n : Nat) : Prop := d.down = false ∧ d.fuse = -1 ∧ d.room = R ∧ (∀ k ∈ keyS d.now, k ∈ nms) ∧ d.ps.length ≤ n ∧ (sumF d.now : Int) ≤ R
theorem FewD.free {d : Dk} {R : Int} {n : Nat} (h : FewD d R n) : ¬ stopD d := by
  rintro (h1 | h1)
  · rw [h.1] at h1; cases h1
  · rw [h.2.1] at h1; cases h1
theorem FewD.cnt {d : Dk} {R : Int} {n : Nat} (h : FewD d R n) : cntD d = d := by
  rw [show cntD d = { d with fuse := if 0 < d.fuse then d.fuse - 1 else d.fuse } from if_neg h.free, if_neg (by rw [h.2.1]; decide)]
theorem putS_mem {α : Type} {l : List (Txt × α)} {k : Txt} {v : α} {x : Txt} (h : x ∈ keyS (putS l k v)) : x = k ∨ x ∈ keyS l := by
  unfold putS at h
  split at h
  · obtain ⟨p, hp, rfl⟩ := List.mem_map.1 h
    obtain ⟨q, hq, rfl⟩ := List.mem_map.1 hp
    by_cases hk : q.1 = k
    · rw [if_pos hk]; exact .inl rfl
    · rw [if_neg hk]; exact .inr (List.mem_map.2 ⟨q, hq, rfl⟩)
  · rw [keyS_app] at h
    rcases List.mem_append.1 h with h | h
    · exact .inr h
    · exact .inl (List.mem_singleton.1 h)
theorem delS_mem {α : Type} {l : List (Txt × α)} {k x : Txt} (h : x ∈ keyS (delS l k)) : x ∈ keyS l := by
  obtain ⟨p, hp, rfl⟩ := List.mem_map.1 h
  exact List.mem_map.2 ⟨p, (List.mem_filter.1 hp).1, rfl⟩
theorem FewD.app {d : Dk} {R : Int} {n : Nat} {k b : Txt} (h : FewD d R n) (hn : (keyS d.now).Nodup) (hk : k ∈ nms) :
    (sumF d.now + b.length ≤ R → appE d k b = 0 ∧ FewD (opD 0 d (.app k b)) R (n + 1)) ∧ (¬ sumF d.now + b.length ≤ R → appE d k b = 2 ∧ opD 2 d (.app k b) = d) := by
  have hnm : ∀ k ∈ nms, namedB k = true := by decide
  have hl : d.now.length ≤ 4 := by
    have := nodup_le nms (keyS d.now) hn h.2.2.2.1
    unfold keyS at this
    rw [List.length_map] at this
    exact this
  have hx : appE d k b = if d.room < (sumF d.now + b.length : Nat) ∨ (getS d.now k = none ∧ 64 ≤ d.now.length) then 2 else 0 := (if_neg h.free).trans (if_neg (by rw [hnm k hk]; decide))
  refine ⟨fun hf => ⟨?_, ?_⟩, fun hf => ⟨?_, ?_⟩⟩
  · rw [hx]
    refine if_neg ?_
    rw [h.2.2.1]
    rintro (h1 | h1)
    · omega
    · omega
  · refine ⟨?_, ?_, ?_, ?_, ?_, ?_⟩
    · show (cntD d).down = false
      rw [h.cnt]; exact h.1
    · show (cntD d).fuse = -1
      rw [h.cnt]; exact h.2.1
    · show (cntD d).room = R
      rw [h.cnt]; exact h.2.2.1
    · rw [opD_now]
      intro x hx
      rcases putS_mem hx with rfl | hx
      · exact hk
      · exact h.2.2.2.1 x hx
    · show (d.ps ++ [De.app k b]).length ≤ _
      rw [List.length_append, List.length_singleton]
      have := h.2.2.2.2.1
      omega
    · rw [opD_now]
      have := sumF_put (b := fileD d.now k ++ b) (n := k) hn
      rw [List.length_append] at this
      show (sumF (putS d.now k (fileD d.now k ++ b)) : Int) ≤ R
      omega
  · rw [hx]
    refine if_pos (.inl ?_)
    rw [h.2.2.1]
    omega
  · rw [opD_no (by decide), h.cnt]
theorem FewD.rem {d : Dk} {R : Int} {n : Nat} {k : Txt} (h : FewD d R n) (hn : (keyS d.now).Nodup) : FewD (opD (remE d k) d (.rem k)) R (n + 1) := by
  by_cases h0 : remE d k = 0
  · rw [h0]
    refine ⟨?_, ?_, ?_, ?_, ?_, ?_⟩
    · show (cntD d).down = false
      rw [h.cnt]; exact h.1
    · show (cntD d).fuse = -1
      rw [h.cnt]; exact h.2.1
    · show (cntD d).room = R
      rw [h.cnt]; exact h.2.2.1
    · rw [opD_now]
      intro x hx
      exact h.2.2.2.1 x (delS_mem hx)
    · show (d.ps ++ [De.rem k]).length ≤ _
      rw [List.length_append, List.length_singleton]
      have := h.2.2.2.2.1
      omega
    · rw [opD_now]
      have := sumF_del (n := k) hn
      have h1 := h.2.2.2.2.2
      show (sumF (delS d.now k) : Int) ≤ R
      omega
  · rw [opD_no h0, h.cnt]
    exact ⟨h.1, h.2.1, h.2.2.1, h.2.2.2.1, by have := h.2.2.2.2.1; omega, h.2.2.2.2.2⟩
end Go.Sx
