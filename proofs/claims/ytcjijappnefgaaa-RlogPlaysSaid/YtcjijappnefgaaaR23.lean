/- What holds of a log from step to step; calls with what is one's own. -/
import Derived.Test.YtcjijappnefgaaaR18
import Derived.Test.YtcjijappnefgaaaR21
namespace Go.Sx
open Go.Proofs Go.RowKit
attribute [local irreducible] C R Fin K Own OwnT Rd Pl Ok KOf RetOk OpsOf RP KP Res NoPanic KV
variable {M M' : Mem} {H H1 hrow : Hp}
structure Inv (b : Ba) (es : List En) (N : Nat) : Prop where
  bi : 0 ≤ b.idx ∧ b.idx ≤ 72057594037927935
  bt : 0 ≤ b.term ∧ b.term ≤ 72057594037927935
  sq : seqE b es
  en : ∀ e ∈ es, entS e
  ln : es.length ≤ N
theorem entS_data {e : En} (h : entS e) : e.data.length ≤ 128 := by
  rcases h.2.2 with ⟨_, h, _⟩ | ⟨_, _, h, _⟩ | ⟨_, h, _⟩ <;> omega
theorem Inv.small {b : Ba} {es : List En} {N : Nat} (h : Inv b es N) (hN : N ≤ 1000) : small b es := ⟨h.bi.1, by have := h.bi.2; have := h.ln; omega⟩
theorem Inv.fits {b : Ba} {es : List En} {N : Nat} (h : Inv b es N) (hN : N ≤ 1000) : fits es := ⟨by have := h.ln; omega, fun e he => by have := entS_data (h.en e he); omega⟩
theorem Inv.term {b : Ba} {es : List En} {N : Nat} (h : Inv b es N) (k : Int) : 0 ≤ (termS b es k).1 ∧ (termS b es k).1 ≤ 72057594037927935 := by
  unfold termS
  split
  · exact h.bt
  · split
    · cases hg : es[(k - b.idx - 1).toNat]? with
      | none => exact ⟨by decide, by decide⟩
      | some e =>
        have := (h.en e (List.mem_of_getElem? hg)).1
        exact ⟨by have := this.1; simp only [Option.map_some, Option.getD_some]; omega, this.2⟩
    · exact ⟨by decide, by decide⟩
theorem Inv.le {b : Ba} {es : List En} {N N' : Nat} (h : Inv b es N) (hN : N ≤ N') : Inv b es N' := ⟨h.bi, h.bt, h.sq, h.en, Nat.le_trans h.ln hN⟩
theorem seqE_glue {b : Ba} {es gs : List En} {j : Nat} (h : seqE b es) (hj : j ≤ es.length) (hg : ∀ (i : Nat) (hi : i < gs.length), gs[i].idx = b.idx + (j : Int) + i + 1) : seqE b (es.take j ++ gs) := fun i hi => by
  rw [List.length_append, List.length_take, Nat.min_eq_left hj] at hi
  by_cases hij : i < j
  · rw [List.getElem_append_left (by rw [List.length_take]; omega), List.getElem_take]
    exact h i (by omega)
  · rw [List.getElem_append_right (by rw [List.length_take]; omega)]
    have := hg (i - (es.take j).length) (by rw [List.length_take]; omega)
    rw [this, List.length_take]
    omega
theorem Inv.app {b : Ba} {es fs : List En} {N : Nat} {t : Int} (h : Inv b es N) (hN : N + 6 ≤ 1000) (hf : followS (lastS b es) t fs) (hl : fs.length ≤ 6) : Inv b (es ++ fs) (N + 6) := by
  have hls : lastS b es = b.idx + es.length := rfl
  have h1 := h.bi
  have h2 := h.ln
  refine ⟨h.bi, h.bt, ?_, fun e he => ?_, by rw [List.length_append]; omega⟩
  · have := seqE_glue (gs := fs) h.sq (Nat.le_refl _) fun i hi => by
      rw [(followS_at hf i hi).2, hls, Int.emod_eq_of_lt (by omega) (by omega)]
    rwa [List.take_of_length_le (Nat.le_refl _)] at this
  · rcases List.mem_append.1 he with he | he
    · exact h.en e he
    · obtain ⟨i, hi, rfl⟩ := List.mem_iff_getElem.1 he
      exact (followS_at hf i hi).1
theorem putL_inv {b : Ba} {es : List En} {N : Nat} (h : Inv b es N) (hN : N ≤ 994) : ∀ {fs : List En} {k t : Int}, followS k t fs → b.idx ≤ k → k ≤ lastS b es → fs.length ≤ 6 → seqE b (putL b es fs).2 ∧ (∀ e ∈ (putL b es fs).2, entS e) ∧ (putL b es fs).2.length ≤ es.length + fs.length
  | [], k, t, _, _, _, _ => ⟨h.sq, h.en, by show es.length ≤ _; omega⟩
  | e :: fs, k, t, hf, h1, h2, h3 => by
    have hls : lastS b es = b.idx + es.length := rfl
    have hb := h.bi
    have hn := h.ln
    have e0 : putL b es (e :: fs) = if b.idx < e.idx ∧ e.idx ≤ lastS b es ∧ ((es[(e.idx - b.idx - 1).toNat]?).map En.term).getD 0 = e.term then putL b es fs else (e.idx, es.take (e.idx - b.idx - 1).toNat ++ e :: fs) := rfl
    have hidx : e.idx = k + 1 := by
      have := hf.2.1
      rw [Int.emod_eq_of_lt (by omega) (by omega)] at this
      exact this
    rw [e0]
    rw [List.length_cons] at h3 ⊢
    split
    · rename_i hc
      obtain ⟨q1, q2, q3⟩ := putL_inv h hN hf.2.2.2 (by omega) (by omega) (by omega)
      exact ⟨q1, q2, by omega⟩
    · have hj : (e.idx - b.idx - 1).toNat ≤ es.length := by omega
      refine ⟨seqE_glue h.sq hj fun i hi => ?_, fun x hx => ?_, ?_⟩
      · rw [(followS_at hf i hi).2, Int.emod_eq_of_lt (by omega) (by rw [List.length_cons] at hi; omega)]
        omega
      · rcases List.mem_append.1 hx with hx | hx
        · exact h.en x (List.mem_of_mem_take hx)
        · obtain ⟨i, hi, rfl⟩ := List.mem_iff_getElem.1 hx
          exact (followS_at hf i hi).1
      · rw [List.length_append, List.length_take, List.length_cons]
        omega
theorem Inv.put {b : Ba} {es fs : List En} {N : Nat} {k t : Int} (h : Inv b es N) (hN : N ≤ 994) (hl : fs.length ≤ 6) : Inv b (putS b es k t fs).2.2 (N + 6) := by
  unfold putS
  split
  · rename_i hc
    obtain ⟨h1, h2⟩ := termS_there hc.1 (h.small (by omega))
    obtain ⟨q1, q2, q3⟩ := putL_inv h hN hc.2.2 h1 h2 hl
    exact ⟨h.bi, h.bt, q1, q2, by have := h.ln; show (putL b es fs).2.length ≤ _; omega⟩
  · exact h.le (by omega)
theorem Inv.drop {b nb : Ba} {es : List En} {N : Nat} (h : Inv b es N) (h1 : b.idx ≤ nb.idx) (h2 : nb.idx ≤ lastS b es) (hi : 0 ≤ nb.idx ∧ nb.idx ≤ 72057594037927935) (ht : 0 ≤ nb.term ∧ nb.term ≤ 72057594037927935) : Inv nb (es.drop (nb.idx - b.idx).toNat) N := by
  have hls : lastS b es = b.idx + es.length := rfl
  refine ⟨hi, ht, fun i hi => ?_, fun e he => h.en e (List.mem_of_mem_drop he), by rw [List.length_drop]; have := h.ln; omega⟩
  rw [List.length_drop] at hi
  rw [List.getElem_drop, h.sq _ (by omega)]
  omega
theorem Inv.none {nb : Ba} {N : Nat} (hi : 0 ≤ nb.idx ∧ nb.idx ≤ 72057594037927935) (ht : 0 ≤ nb.term ∧ nb.term ≤ 72057594037927935) : Inv nb [] N :=
  ⟨hi, ht, fun i hi => absurd hi (Nat.not_lt_zero i), fun e he => absurd he (List.not_mem_nil), Nat.zero_le _⟩
theorem Inv.idx {b : Ba} {es : List En} {N : Nat} {k : Int} (h : Inv b es N) (h1 : b.idx < k) (h2 : k ≤ lastS b es) : k ≤ 72057594037927935 := by
  have hls : lastS b es = b.idx + es.length := rfl
  obtain ⟨j, hj⟩ : ∃ j : Nat, (j : Int) = k - b.idx - 1 := ⟨(k - b.idx - 1).toNat, by omega⟩
  have hjl : j < es.length := by omega
  have e1 := h.sq j hjl
  have e2 := (h.en _ (List.getElem_mem hjl)).2.1.2
  omega
theorem Inv.restore {b nb : Ba} {es : List En} {N : Nat} (h : Inv b es N) (hs : Go.Sx.small b es) (hr : baseR nb) : Inv nb (if (termS b es nb.idx).2 = true ∧ (termS b es nb.idx).1 = nb.term then es.drop (nb.idx - b.idx).toNat else []) N := by
  have hi := hr.1
  have ht := hr.2.1
  unfold numS at hi ht
  split
  · rename_i hc
    obtain ⟨q1, q2⟩ := termS_there hc.1 hs
    exact h.drop q1 q2 ⟨by omega, hi.2⟩ ⟨by omega, ht.2⟩
  · exact Inv.none ⟨by omega, hi.2⟩ ⟨by omega, ht.2⟩
theorem Append_KW {g : Nat} {b : Ba} {v ov : Value} {es : List En} {xs : List Ow} {hrO : Hp} (hown : OwnEs ov xs hrO) (ho : OwnP M v es hrow) (hs : small b es) (hf : fits (owE xs)) (hsum : (es.length + (owE xs).length) * 56 ≤ 140737488351232) : K Try.prog 53 [.pointer (some ⟨g, 0, none⟩), ov] M (hrO ++ (owH xs ++ (hrow ++ ((g, lgB b v) :: H)))) fun v' M' H' =>
    (¬ followS (lastS b es) (termS b es (lastS b es)).1 (owE xs) ∧ v' = .int .i64 1 ∧ M.le M' ∧ H' = hrO ++ (owH xs ++ (hrow ++ ((g, lgB b v) :: H)))) ∨
    (followS (lastS b es) (termS b es (lastS b es)).1 (owE xs) ∧ v' = .int .i64 0 ∧ ∃ lv hrow', OwnP M' lv (es ++ owE xs) hrow' ∧ M.le M' ∧ H' = hrO ++ (owH xs ++ (hrow' ++ ((g, lgB b lv) :: H)))) := by
  have h0 : K Try.prog 53 [.pointer (some ⟨g, 0, none⟩), ov] M (hrO ++ (owH xs ++ (hrow ++ ((g, lgB b v) :: H)))) fun v' M' H' =>
    (¬ followS (lastS b es) (termS b es (lastS b es)).1 (owE xs) ∧ v' = .int .i64 1 ∧ M' = M ∧ H' = (hrO ++ owH xs) ++ (hrow ++ ((g, lgB b v) :: H))) ∨
    (followS (lastS b es) (termS b es (lastS b es)).1 (owE xs) ∧ v' = .int .i64 0 ∧ ∃ lv hrow' hb, OwnQ M lv (es ++ owE xs) hrow' hb ∧ M' = M ∧ H' = (hrO ++ owH xs) ++ (hrow' ++ (hb ++ ((g, lgB b lv) :: H)))) :=
    K.lends (hp := hrO ++ owH xs) (H1 := hrow ++ ((g, lgB b v) :: H)) (by rw [List.append_assoc]; exact Arr.all _) fun M2 hM2 hin => by
      refine (Append_KQ ho hM2 hs (hown.enL hin) hf hsum).mono ?_
      rintro v' M' H' (⟨h1, h2, rfl, rfl⟩ | ⟨h1, h2, lv, hrow', hb, h3, rfl, rfl⟩)
      · exact ⟨rfl, .inl ⟨h1, h2, rfl, rfl⟩⟩
      · exact ⟨rfl, .inr ⟨h1, h2, lv, hrow', hb, h3, rfl, rfl⟩⟩
  refine h0.freezeT ?_
  rintro v' M' H' (⟨h1, h2, rfl, rfl⟩ | ⟨h1, h2, lv, hrow', hb, h3, rfl, rfl⟩)
  · exact ⟨[], hrO ++ (owH xs ++ (hrow ++ ((g, lgB b v) :: H))), by rw [List.append_assoc]; exact Arr.all _, fun M2 hM2 _ => .inl ⟨h1, h2, hM2, rfl⟩⟩
  · exact ⟨hb, hrO ++ (owH xs ++ (hrow' ++ ((g, lgB b lv) :: H))), by rw [List.append_assoc]; (exact a_arr), fun M2 hM2 hin => .inr ⟨h1, h2, lv, hrow', h3.ownP hM2 hin, hM2, rfl⟩⟩
theorem Put_KW {g : Nat} {b : Ba} {v ov : Value} {es : List En} {xs : List Ow} {hrO : Hp} {k t : Int} (hown : OwnEs ov xs hrO) (ho : OwnP M v es hrow) (hs : small b es) (hf : fits (owE xs)) (hsum : (es.length + (owE xs).length) * 56 ≤ 140737488351232) (hk : 0 ≤ k) : K Try.prog 14 [.pointer (some ⟨g, 0, none⟩), .int .u64 k, .int .u64 t, ov] M (hrO ++ (owH xs ++ (hrow ++ ((g, lgB b v) :: H)))) fun v' M' H' =>
    v' = .tuple #[.int .u64 (putS b es k t (owE xs)).1, .bool (putS b es k t (owE xs)).2.1] ∧ ∃ lv hrow', OwnP M' lv (putS b es k t (owE xs)).2.2 hrow' ∧ M.le M' ∧ H' = hrO ++ (owH xs ++ (hrow' ++ ((g, lgB b lv) :: H))) := by
  have h0 : K Try.prog 14 [.pointer (some ⟨g, 0, none⟩), .int .u64 k, .int .u64 t, ov] M (hrO ++ (owH xs ++ (hrow ++ ((g, lgB b v) :: H)))) fun v' M' H' =>
    v' = .tuple #[.int .u64 (putS b es k t (owE xs)).1, .bool (putS b es k t (owE xs)).2.1] ∧ ∃ lv hrow' hb, OwnQ M lv (putS b es k t (owE xs)).2.2 hrow' hb ∧ M' = M ∧ H' = (hrO ++ owH xs) ++ (hrow' ++ (hb ++ ((g, lgB b lv) :: H))) :=
    K.lends (hp := hrO ++ owH xs) (H1 := hrow ++ ((g, lgB b v) :: H)) (by rw [List.append_assoc]; exact Arr.all _) fun M2 hM2 hin => by
      refine (Put_KQ ho hM2 hs (hown.enL hin) hf hsum hk).mono ?_
      rintro v' M' H' ⟨h1, lv, hrow', hb, h3, rfl, rfl⟩
      exact ⟨rfl, h1, lv, hrow', hb, h3, rfl, rfl⟩
  refine h0.freezeT ?_
  rintro v' M' H' ⟨h1, lv, hrow', hb, h3, rfl, rfl⟩
  exact ⟨hb, hrO ++ (owH xs ++ (hrow' ++ ((g, lgB b lv) :: H))), by rw [List.append_assoc]; (exact a_arr), fun M2 hM2 hin => ⟨h1, lv, hrow', h3.ownP hM2 hin, hM2, rfl⟩⟩
theorem sents_KW {ov wv : Value} {xs : List Ow} {hrO : Hp} {fs : List En} (hown : OwnEs ov xs hrO) (hw : EnL M wv fs) : K Try.prog 15 [ov, wv] M (hrO ++ (owH xs ++ H)) fun v M' H' => v = .bool (decide (owE xs = fs)) ∧ M' = M ∧ H' = (hrO ++ owH xs) ++ H :=
  K.lendsR (hrow := hrO ++ owH xs) (by rw [List.append_assoc]; exact Arr.all _) fun M2 hM2 hin => sents_K (hown.enL hin) (hw.mono hM2)
end Go.Sx
