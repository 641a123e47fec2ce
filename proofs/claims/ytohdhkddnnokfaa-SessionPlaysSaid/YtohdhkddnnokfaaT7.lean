/- Plain: what is in a table behind a call. -/
import Derived.Test.YtohdhkddnnokfaaT5g
namespace Go.Sx
section
variable {κ υ : Type} [KOrd κ]
omit [KOrd κ] in
theorem getElem_pair {l : List (κ × υ)} {i : Nat} (hi : i < l.length) : (keysT l)[i]'(by rw [keysT_length]; exact hi) = l[i].1 := List.getElem_map ..
omit [KOrd κ] in
theorem keys_mem {l : List (κ × υ)} {k : κ} : k ∈ keysT l ↔ ∃ x, (k, x) ∈ l := by
  unfold keysT
  rw [List.mem_map]
  exact ⟨fun ⟨p, h, e⟩ => ⟨p.2, by rw [← e]; exact h⟩, fun ⟨x, h⟩ => ⟨_, h, rfl⟩⟩
theorem posS_at {l : List (κ × υ)} (hs : sortS (keysT l)) {i : Nat} (hi : i < l.length) : posS (keysT l) l[i].1 = i := by
  rw [← getElem_pair hi]
  exact posS_eq (by rw [keysT_length]; omega) (fun a ha hai => sort_lt hs (by rw [keysT_length]; exact hi) hai) (fun h => KOrd.irr _)
theorem mem_get {l : List (κ × υ)} {k : κ} {x : υ} (hs : sortS (keysT l)) : getT l k = some x ↔ (k, x) ∈ l := by
  unfold getT
  constructor
  · intro h
    split at h
    · rename_i hk
      obtain ⟨hi, hik⟩ := posS_in hs hk
      have hil : posS (keysT l) k < l.length := by rw [keysT_length] at hi; exact hi
      rw [List.getElem?_eq_getElem hil] at h
      rw [getElem_pair hil] at hik
      injection h with h
      have : l[posS (keysT l) k] = (k, x) := Prod.ext hik h
      rw [← this]
      exact List.getElem_mem _
    · cases h
  · intro h
    rw [if_pos (keys_mem.2 ⟨x, h⟩)]
    obtain ⟨i, hi, e⟩ := List.mem_iff_getElem.1 h
    have := posS_at hs hi
    rw [e] at this
    rw [this, List.getElem?_eq_getElem hi, e]
    rfl
theorem get_none {l : List (κ × υ)} {k : κ} (hs : sortS (keysT l)) : getT l k = none ↔ ¬ k ∈ keysT l := by
  constructor
  · intro h hk
    obtain ⟨x, hx⟩ := keys_mem.1 hk
    rw [(mem_get hs).2 hx] at h
    cases h
  · intro h
    unfold getT
    rw [if_neg h]
theorem uniq {l : List (κ × υ)} {k : κ} {x y : υ} (hs : sortS (keysT l)) (h : (k, x) ∈ l) (g : (k, y) ∈ l) : x = y := by
  have h1 := (mem_get hs).2 h
  have h2 := (mem_get hs).2 g
  rw [h1] at h2
  injection h2
theorem keysT_erase {l : List (κ × υ)} {k : κ} (hs : sortS (keysT l)) (hk : k ∈ keysT l) {p : κ × υ} : p ∈ l.take (posS (keysT l) k) ++ l.drop (posS (keysT l) k + 1) ↔ p ∈ l ∧ p.1 ≠ k := by
  obtain ⟨hi, hik⟩ := posS_in hs hk
  have hil : posS (keysT l) k < l.length := by rw [keysT_length] at hi; exact hi
  rw [getElem_pair hil] at hik
  have e : l = l.take (posS (keysT l) k) ++ l[posS (keysT l) k] :: l.drop (posS (keysT l) k + 1) := by rw [List.getElem_cons_drop, List.take_append_drop]
  constructor
  · intro h
    refine ⟨by rw [e]; rcases List.mem_append.1 h with h | h; exact List.mem_append_left _ h; exact List.mem_append_right _ (List.mem_cons_of_mem _ h), fun e2 => ?_⟩
    rw [List.mem_append, List.mem_iff_getElem, List.mem_iff_getElem] at h
    rcases h with ⟨a, ha, h⟩ | ⟨a, ha, h⟩
    · rw [List.length_take] at ha
      rw [List.getElem_take] at h
      have h2 : a < l.length := by omega
      have h3 := posS_at hs h2
      rw [h, e2] at h3
      omega
    · rw [List.length_drop] at ha
      rw [List.getElem_drop] at h
      have h2 : posS (keysT l) k + 1 + a < l.length := by omega
      have h3 := posS_at hs h2
      rw [h, e2] at h3
      omega
  · rintro ⟨h, hne⟩
    rw [e] at h
    rcases List.mem_append.1 h with h | h
    · exact List.mem_append_left _ h
    · rcases List.mem_cons.1 h with h | h
      · rw [h] at hne
        exact absurd hik hne
      · exact List.mem_append_right _ h
theorem mem_put {most : Int} {l : List (κ × υ)} {k : κ} {x : υ} (hs : sortS (keysT l)) {p : κ × υ} : p ∈ putT most l k x ↔ (putB most l k = true ∧ p = (k, x)) ∨ (p.1 ≠ k ∧ p ∈ l) := by
  unfold putT
  by_cases hk : k ∈ keysT l
  · rw [if_pos hk]
    have h1 := keysT_erase hs hk (p := p)
    rw [List.mem_append] at h1
    rw [List.mem_append, List.mem_cons, putB_in hk]
    constructor
    · rintro (h | h | h)
      · have := h1.1 (.inl h); exact .inr ⟨this.2, this.1⟩
      · exact .inl ⟨rfl, h⟩
      · have := h1.1 (.inr h); exact .inr ⟨this.2, this.1⟩
    · rintro (⟨_, h⟩ | ⟨h, g⟩)
      · exact .inr (.inl h)
      · rcases h1.2 ⟨g, h⟩ with h | h
        · exact .inl h
        · exact .inr (.inr h)
  · rw [if_neg hk]
    have hne : ∀ p ∈ l, p.1 ≠ k := fun p hp e => hk (by rw [← e]; exact List.mem_map_of_mem hp)
    split
    · rename_i hm
      rw [putB_full hk (by omega)]
      exact ⟨fun h => .inr ⟨hne p h, h⟩, fun h => h.elim (fun h => absurd h.1 (by decide)) (fun h => h.2)⟩
    · rename_i hm
      rw [putB_room (by omega)]
      have e : p ∈ l ↔ p ∈ l.take (posS (keysT l) k) ∨ p ∈ l.drop (posS (keysT l) k) := by rw [← List.mem_append, List.take_append_drop]
      rw [List.mem_append, List.mem_cons]
      constructor
      · rintro (h | h | h)
        · exact .inr ⟨hne p (e.2 (.inl h)), e.2 (.inl h)⟩
        · exact .inl ⟨rfl, h⟩
        · exact .inr ⟨hne p (e.2 (.inr h)), e.2 (.inr h)⟩
      · rintro (⟨_, h⟩ | ⟨_, h⟩)
        · exact .inr (.inl h)
        · rcases e.1 h with h | h
          · exact .inl h
          · exact .inr (.inr h)
theorem mem_drop {l : List (κ × υ)} {k : κ} (hs : sortS (keysT l)) {p : κ × υ} : p ∈ dropT l k ↔ p ∈ l ∧ p.1 ≠ k := by
  unfold dropT
  by_cases hk : k ∈ keysT l
  · rw [if_pos hk]
    exact keysT_erase hs hk
  · rw [if_neg hk]
    exact ⟨fun h => ⟨h, fun e => hk (by rw [← e]; exact List.mem_map_of_mem h)⟩, fun h => h.1⟩
theorem len_put_in {most : Int} {l : List (κ × υ)} {k : κ} {x : υ} (hs : sortS (keysT l)) (hk : k ∈ keysT l) : (putT most l k x).length = l.length := by
  obtain ⟨hi, _⟩ := posS_in hs hk
  rw [keysT_length] at hi
  unfold putT
  rw [if_pos hk, set_length hi]
theorem len_put_new {most : Int} {l : List (κ × υ)} {k : κ} {x : υ} (hk : ¬ k ∈ keysT l) (hm : (l.length : Int) < most) : (putT most l k x).length = l.length + 1 := by
  unfold putT
  rw [if_neg hk, if_neg (by omega), mid_length (by have := posS_le (keysT l) k; rw [keysT_length] at this; exact this)]
theorem put_full {most : Int} {l : List (κ × υ)} {k : κ} {x : υ} (hk : ¬ k ∈ keysT l) (hm : ¬ (l.length : Int) < most) : putT most l k x = l := by
  unfold putT
  rw [if_neg hk, if_pos (by omega)]
theorem len_drop {l : List (κ × υ)} {k : κ} (hs : sortS (keysT l)) (hk : k ∈ keysT l) : (dropT l k).length = l.length - 1 := by
  obtain ⟨hi, _⟩ := posS_in hs hk
  rw [keysT_length] at hi
  unfold dropT
  rw [if_pos hk, List.length_append, List.length_take, List.length_drop]
  omega
theorem drop_out {l : List (κ × υ)} {k : κ} (hk : ¬ k ∈ keysT l) : dropT l k = l := by
  unfold dropT
  rw [if_neg hk]
theorem keys_put_in {most : Int} {l : List (κ × υ)} {k : κ} {x : υ} (hs : sortS (keysT l)) (hk : k ∈ keysT l) : keysT (putT most l k x) = keysT l := by
  obtain ⟨hi, hik⟩ := posS_in hs hk
  unfold putT
  rw [if_pos hk]
  exact keysT_set hi hik
/-- a key behind all others -/
theorem put_last {most : Int} {l : List (κ × υ)} {k : κ} {x : υ} (h : ∀ j ∈ keysT l, KOrd.lt j k) (hm : (l.length : Int) < most) : putT most l k x = l ++ [(k, x)] ∧ ¬ k ∈ keysT l := by
  have hk : ¬ k ∈ keysT l := fun e => KOrd.irr _ (h k e)
  have hp : posS (keysT l) k = l.length := posS_eq (by rw [keysT_length]; omega) (fun a ha _ => h _ (List.getElem_mem _)) (fun hi => by rw [keysT_length] at hi; omega)
  refine ⟨?_, hk⟩
  unfold putT
  rw [if_neg hk, if_neg (by omega), hp, List.take_length, List.drop_length]
end
structure LpX where
  i : Nat
  ii : Int
  hp : Hp
theorem Tab.sorted {κ υ : Type} [KOrd κ] {eT eK eV W tb : Nat} {kv : κ → Value} {cs : υ → List Value} {most : Int} {l : List (κ × υ)} {hp : Hp} (h : Tab eT eK eV W kv cs tb most l hp) : sortS (keysT l) := h.1
theorem Tab.small {κ υ : Type} [KOrd κ] {eT eK eV W tb : Nat} {kv : κ → Value} {cs : υ → List Value} {most : Int} {l : List (κ × υ)} {hp : Hp} (h : Tab eT eK eV W kv cs tb most l hp) : (l.length : Int) ≤ most ∧ most ≤ 4096 := ⟨h.2.1, h.2.2.1⟩
open Go.Proofs Go.RowKit
attribute [local irreducible] C R Fin K Own OwnT Rd Pl Ok KOf RetOk OpsOf RP KP Res NoPanic KV Tab
variable {M M' : Mem} {H H1 : Hp}
theorem pick_K (x m : Int) (hm : 0 < m) (hm2 : m ≤ 9223372036854775807) : K Try.prog 15 [.int .i64 x, .int .i64 m] M H fun v M' H' => v = .int .i64 (x % m) ∧ M' = M ∧ H' = H := by
  obtain ⟨he, h1, h2⟩ := pick_eq x m hm
  refine K.enterK Try.func15 rfl rfl rfl ?_
  intro Q hNP hQ
  (repeat' (first | (apply R.step; (exact a_ok); exact rfl) | (first | (with_reducible first | apply R.nil | apply C.ret | apply C.block | apply C.skip | apply C.exit | apply Fin.thenRet | apply Fin.thenExit | apply Fin.blockNormal | apply Fin.blockRet | apply Fin.blockExit) | (with_reducible apply Fin.thenK; assumption) | (with_reducible apply C.seqK; intro _ _) | (with_reducible apply C.regionK; intro _ _) | (with_reducible apply C.regionQK; exact Mix.h; kernel_rfl; intro _ _) | (with_reducible apply Fin.blockOther; exact rfl)) | (first | (apply R.store; exact rfl; exact rfl; exact rfl; (exact a_at); (exact a_blit); exact rfl; (focus (simp [Value.oneCell']; done))) | (apply R.buildSlice0; exact rfl; intro bz) | (apply R.box; exact rfl; (simp only [Value.cells]; rfl); exact rfl; intro bx) | (apply R.alloc; (simp only [Value.cells]; rfl); exact rfl; intro ba) | (apply R.buildSlice; (exact a_prt); exact rfl; exact rfl; (exact a_fills); exact rfl; intro bl)) | (first | (apply R.guardT; assumption; exact rfl; exact rfl; exact rfl) | (apply R.guardF; assumption; exact rfl; exact rfl; exact rfl; exact rfl; exact rfl) | (apply R.guardU; assumption; exact rfl; exact rfl; exact rfl; exact rfl) | (apply R.guardDec; assumption; exact rfl; exact rfl; (intro h; skip; rotate_left; intro h; skip; rotate_left)) | (apply R.guardBeq; assumption; exact rfl; exact rfl; (intro h; skip; rotate_left; intro h; skip; rotate_left)) | (apply R.guardBne; assumption; exact rfl; exact rfl; (intro h; skip; rotate_left; intro h; skip; rotate_left)) | (apply R.guardNDec; assumption; exact rfl; exact rfl; (intro h; skip; rotate_left; intro h; skip; rotate_left)) | (apply R.guardNot; assumption; exact rfl; exact rfl; (intro h; skip; rotate_left; intro h; skip; rotate_left)) | (apply R.guardC; assumption; exact rfl; exact rfl; (intro h; skip; rotate_left; intro h; skip; rotate_left))) | (first | (apply C.condT; exact rfl) | (apply C.condF; exact rfl) | (apply C.condDec; exact rfl; (intro h; skip; rotate_left; intro h; skip; rotate_left)) | (apply C.condBeq; exact rfl; (intro h; skip; rotate_left; intro h; skip; rotate_left)) | (apply C.condBne; exact rfl; (intro h; skip; rotate_left; intro h; skip; rotate_left)) | (apply C.condNDec; exact rfl; (intro h; skip; rotate_left; intro h; skip; rotate_left)) | (apply C.condNot; exact rfl; (intro h; skip; rotate_left; intro h; skip; rotate_left)) | (apply C.cond; exact rfl; (intro h; skip; rotate_left; intro h; skip; rotate_left)))))
  · (refine Fin.rt ?_)
    have h : x.tmod m < 0 := by assumption
    exact ⟨by rw [← he, if_pos h], rfl, rfl⟩
  · (refine Fin.rt ?_)
    have h : ¬ x.tmod m < 0 := by assumption
    exact ⟨by rw [← he, if_neg h], rfl, rfl⟩
end Go.Sx
