/- TableWords. -/
import Derived.Test.YtihcoebiglmbmaaT8
namespace Go.Sx
open Go.Proofs Go.RowKit
section
variable {κ υ : Type} [KOrd κ]
theorem put_sorted {most : Int} {l : List (κ × υ)} {k : κ} {x : υ} (hs : sortS (keysT l)) : sortS (keysT (putT most l k x)) := by
  by_cases hk : k ∈ keysT l
  · rw [keys_put_in hs hk]; exact hs
  · unfold putT
    rw [if_neg hk]
    split
    · exact hs
    · rw [keysT_append, keysT_take, show keysT ((k, x) :: l.drop (posS (keysT l) k)) = k :: keysT (l.drop (posS (keysT l) k)) from rfl, keysT_drop]
      exact sort_insert hs hk
theorem put_len {most : Int} {l : List (κ × υ)} {k : κ} {x : υ} (hs : sortS (keysT l)) : (putT most l k x).length ≤ l.length + 1 := by
  by_cases hk : k ∈ keysT l
  · rw [len_put_in hs hk]; omega
  · by_cases hm : (l.length : Int) < most
    · rw [len_put_new hk hm]; omega
    · rw [put_full hk hm]; omega
noncomputable def putAll (most : Int) (ps : List (κ × υ)) : List (κ × υ) := ps.foldl (fun l p => putT most l p.1 p.2) []
theorem putAll_snoc (most : Int) (ps : List (κ × υ)) (p : κ × υ) : putAll most (ps ++ [p]) = putT most (putAll most ps) p.1 p.2 := by
  unfold putAll
  rw [List.foldl_append]
  rfl
theorem snoc_ind {α : Type} {T : List α → Prop} (h0 : T []) (h1 : ∀ l a, T l → T (l ++ [a])) (l : List α) : T l := by
  have : ∀ n (l : List α), l.length = n → T l := by
    intro n
    induction n with
    | zero => intro l hl; rw [List.length_eq_zero_iff.1 hl]; exact h0
    | succ n ih =>
      intro l hl
      have hne : l ≠ [] := fun e => by rw [e] at hl; cases hl
      rw [← List.dropLast_concat_getLast hne]
      exact h1 _ _ (ih _ (by rw [List.length_dropLast]; omega))
  exact this _ l rfl
theorem putAll_ok (most : Int) (ps : List (κ × υ)) : sortS (keysT (putAll most ps)) ∧ (putAll most ps).length ≤ ps.length := by
  refine snoc_ind (T := fun ps => sortS (keysT (putAll most ps)) ∧ (putAll most ps).length ≤ ps.length) ⟨List.Pairwise.nil, Nat.le_refl _⟩ (fun l a ih => ?_) ps
  rw [putAll_snoc]
  exact ⟨put_sorted ih.1, by have := put_len (most := most) (k := a.1) (x := a.2) ih.1; rw [List.length_append]; simp only [List.length_cons, List.length_nil]; omega⟩
theorem putAll_get {most : Int} (ps : List (κ × υ)) : (ps.length : Int) ≤ most → ∀ (a : Nat) (ha : a < ps.length), (∀ (b : Nat) (hb : b < ps.length), a < b → ps[b].1 ≠ ps[a].1) → ps[a] ∈ putAll most ps := by
  refine snoc_ind (T := fun ps => (ps.length : Int) ≤ most → ∀ (a : Nat) (ha : a < ps.length), (∀ (b : Nat) (hb : b < ps.length), a < b → ps[b].1 ≠ ps[a].1) → ps[a] ∈ putAll most ps) (fun _ a ha => absurd ha (Nat.not_lt_zero a)) (fun l p ih => ?_) ps
  intro hm a ha hl
  rw [List.length_append] at ha hm
  simp only [List.length_cons, List.length_nil] at ha hm
  obtain ⟨hs, hle⟩ := putAll_ok most l
  rw [putAll_snoc]
  by_cases hal : a < l.length
  · have e : (l ++ [p])[a]'(by rw [List.length_append]; simp only [List.length_cons, List.length_nil]; omega) = l[a] := List.getElem_append_left hal
    have hp : (l ++ [p])[l.length]'(by rw [List.length_append]; simp only [List.length_cons, List.length_nil]; omega) = p := by simp
    rw [e]
    refine (mem_put hs).2 (.inr ⟨fun h => ?_, ih (by omega) a hal fun b hb hab => ?_⟩)
    · have := hl l.length (by rw [List.length_append]; simp only [List.length_cons, List.length_nil]; omega) hal
      rw [hp, e] at this
      exact this h.symm
    · have := hl b (by rw [List.length_append]; simp only [List.length_cons, List.length_nil]; omega) hab
      rw [e, List.getElem_append_left hb] at this
      exact this
  · obtain rfl : a = l.length := by omega
    have hp : (l ++ [p])[l.length]'(by rw [List.length_append]; simp only [List.length_cons, List.length_nil]; omega) = p := by simp
    rw [hp]
    exact (mem_put hs).2 (.inl ⟨putB_room (by omega), rfl⟩)
end
section
variable {P : Program} {L : Sl} {M : Mem} {H : Hp} {d : Option Tmp} {ty : TypeId} {pos : String} {af : Array Edge} {g : Option (Nat × Bool)} {t t' : TypeId} {x y : Operand}
theorem Ok.geStr {bs cs : List UInt8} (hx : ev L x = some (.string ⟨bs.toArray⟩)) (hy : ev L y = some (.string ⟨cs.toArray⟩)) : Ok P ⟨d, .binOp .geq t x y t', ty, pos, af, g⟩ L M H (.bool (!decide (ltB bs cs))) :=
  Ok.bin hx hy (fun w => by simp [eqGuard]) fun w => by
    simp [binOp, Op.stringOp, bytesLess_eq]
end
attribute [local irreducible] C R Fin K Own OwnT Rd Pl Ok KOf RetOk OpsOf RP KP Res NoPanic KV Tab
variable {M M' : Mem} {H H1 : Hp}
structure LpW where
  i : Nat
  ii : Int
  w : Int
theorem tableWords_K {A B : Option Addr} {ks : List (List UInt8)} {vs : List Int} {c1 c2 : Nat} (hp : Pl M A (ks.map sV)) (hq : Pl M B (vs.map iV)) (hn : ks.length ≤ 9223372036854775807) (hn2 : vs.length ≤ 9223372036854775807) : K Try.prog 3 [.slice A ks.length c1, .slice B vs.length c2] M H fun v' M' H' => v' = .bool true ∧ M.le M' := by
  refine K.enterK Try.func3 rfl rfl rfl ?_
  intro Q hNP hQ
  (repeat' (first | (apply R.step; (exact a_ok); exact rfl) | (first | (with_reducible first | apply R.nil | apply C.ret | apply C.block | apply C.skip | apply C.exit | apply Fin.thenRet | apply Fin.thenExit | apply Fin.blockNormal | apply Fin.blockRet | apply Fin.blockExit) | (with_reducible apply Fin.thenK; assumption) | (with_reducible apply C.seqK; intro _ _) | (with_reducible apply C.regionK; intro _ _) | (with_reducible apply Fin.blockOther; exact rfl)) | (first | (apply R.store; exact rfl; exact rfl; exact rfl; (exact a_at); (exact a_blit); exact rfl; (focus (simp [Value.oneCell']; done))) | (apply R.buildSlice0; exact rfl; intro bz) | (apply R.box; exact rfl; (simp only [Value.cells]; rfl); exact rfl; intro bx) | (apply R.alloc; (simp only [Value.cells]; rfl); exact rfl; intro ba) | (apply R.buildSlice; (exact a_prt); exact rfl; exact rfl; (exact a_fills); exact rfl; intro bl)) | (first | (apply R.guardT; assumption; exact rfl; exact rfl; exact rfl) | (apply R.guardF; assumption; exact rfl; exact rfl; exact rfl; exact rfl; exact rfl) | (apply R.guardU; assumption; exact rfl; exact rfl; exact rfl; exact rfl) | (apply R.guardDec; assumption; exact rfl; exact rfl; (intro h; skip; rotate_left; intro h; skip; rotate_left)) | (apply R.guardBeq; assumption; exact rfl; exact rfl; (intro h; skip; rotate_left; intro h; skip; rotate_left)) | (apply R.guardBne; assumption; exact rfl; exact rfl; (intro h; skip; rotate_left; intro h; skip; rotate_left)) | (apply R.guardNDec; assumption; exact rfl; exact rfl; (intro h; skip; rotate_left; intro h; skip; rotate_left)) | (apply R.guardNot; assumption; exact rfl; exact rfl; (intro h; skip; rotate_left; intro h; skip; rotate_left)) | (apply R.guardC; assumption; exact rfl; exact rfl; (intro h; skip; rotate_left; intro h; skip; rotate_left))) | (first | (apply C.condT; exact rfl) | (apply C.condF; exact rfl) | (apply C.condDec; exact rfl; (intro h; skip; rotate_left; intro h; skip; rotate_left)) | (apply C.condBeq; exact rfl; (intro h; skip; rotate_left; intro h; skip; rotate_left)) | (apply C.condBne; exact rfl; (intro h; skip; rotate_left; intro h; skip; rotate_left)) | (apply C.condNDec; exact rfl; (intro h; skip; rotate_left; intro h; skip; rotate_left)) | (apply C.condNot; exact rfl; (intro h; skip; rotate_left; intro h; skip; rotate_left)) | (apply C.cond; exact rfl; (intro h; skip; rotate_left; intro h; skip; rotate_left)))))
  (apply R.call; (exact a_evs); exact rfl; exact new_si (by omega) (by omega); rintro _ _ _ ⟨tb, hp0, rfl, ht0, e1_, e2_⟩; replace e1_ := e1_.symm; subst e1_; replace e2_ := e2_.symm; subst e2_)
  (repeat' (first | (apply R.step; (exact a_ok); exact rfl) | (first | (with_reducible first | apply R.nil | apply C.ret | apply C.block | apply C.skip | apply C.exit | apply Fin.thenRet | apply Fin.thenExit | apply Fin.blockNormal | apply Fin.blockRet | apply Fin.blockExit) | (with_reducible apply Fin.thenK; assumption) | (with_reducible apply C.seqK; intro _ _) | (with_reducible apply C.regionK; intro _ _) | (with_reducible apply Fin.blockOther; exact rfl)) | (first | (apply R.store; exact rfl; exact rfl; exact rfl; (exact a_at); (exact a_blit); exact rfl; (focus (simp [Value.oneCell']; done))) | (apply R.buildSlice0; exact rfl; intro bz) | (apply R.box; exact rfl; (simp only [Value.cells]; rfl); exact rfl; intro bx) | (apply R.alloc; (simp only [Value.cells]; rfl); exact rfl; intro ba) | (apply R.buildSlice; (exact a_prt); exact rfl; exact rfl; (exact a_fills); exact rfl; intro bl)) | (first | (apply R.guardT; assumption; exact rfl; exact rfl; exact rfl) | (apply R.guardF; assumption; exact rfl; exact rfl; exact rfl; exact rfl; exact rfl) | (apply R.guardU; assumption; exact rfl; exact rfl; exact rfl; exact rfl) | (apply R.guardDec; assumption; exact rfl; exact rfl; (intro h; skip; rotate_left; intro h; skip; rotate_left)) | (apply R.guardBeq; assumption; exact rfl; exact rfl; (intro h; skip; rotate_left; intro h; skip; rotate_left)) | (apply R.guardBne; assumption; exact rfl; exact rfl; (intro h; skip; rotate_left; intro h; skip; rotate_left)) | (apply R.guardNDec; assumption; exact rfl; exact rfl; (intro h; skip; rotate_left; intro h; skip; rotate_left)) | (apply R.guardNot; assumption; exact rfl; exact rfl; (intro h; skip; rotate_left; intro h; skip; rotate_left)) | (apply R.guardC; assumption; exact rfl; exact rfl; (intro h; skip; rotate_left; intro h; skip; rotate_left))) | (first | (apply C.condT; exact rfl) | (apply C.condF; exact rfl) | (apply C.condDec; exact rfl; (intro h; skip; rotate_left; intro h; skip; rotate_left)) | (apply C.condBeq; exact rfl; (intro h; skip; rotate_left; intro h; skip; rotate_left)) | (apply C.condBne; exact rfl; (intro h; skip; rotate_left; intro h; skip; rotate_left)) | (apply C.condNDec; exact rfl; (intro h; skip; rotate_left; intro h; skip; rotate_left)) | (apply C.condNot; exact rfl; (intro h; skip; rotate_left; intro h; skip; rotate_left)) | (apply C.cond; exact rfl; (intro h; skip; rotate_left; intro h; skip; rotate_left))) | (apply R.call; (exact a_evs); exact rfl; (first | exact tknown_K); rintro _ _ _ ⟨rfl, e1_, e2_⟩; replace e1_ := e1_.symm; subst e1_; replace e2_ := e2_.symm; subst e2_)))
  obtain ⟨n, hn1⟩ : ∃ n : Nat, (n : Int) = min (min (ks.length : Int) (vs.length : Int)) 200 := ⟨(min (min (ks.length : Int) (vs.length : Int)) 200).toNat, by omega⟩
  rw [← hn1]
  obtain ⟨ps, hpl, hps⟩ : ∃ ps : List (List UInt8 × Int), ps.length = min ks.length vs.length ∧ ∀ (i : Nat) (h1 : i < ks.length) (h2 : i < vs.length), ps[i]? = some (ks[i], vs[i]) :=
    ⟨ks.zip vs, List.length_zip, fun i h1 h2 => by rw [List.getElem?_eq_getElem (by rw [List.length_zip]; omega), List.getElem_zip]⟩
  apply C.loop (fun y : LpX => (y.i : Int) = y.ii ∧ y.i ≤ n ∧ Tab 96 9 3 1 sV iC tb 4096 (putAll 4096 (ps.take y.i)) y.hp)
    (fun y => [(0, .slice A ks.length c1), (1, .slice B vs.length c2), (4, .bool false), (5, .pointer (some ⟨tb, 0, none⟩)), (7, .int .i64 (n : Int)), (8, .int .i64 y.ii)]) (fun _ => M) (fun y => y.hp ++ H) (fun y => n - y.i) ⟨0, 0, hp0⟩
  · exact ⟨rfl, Nat.zero_le _, ht0⟩
  · (exact a_subs)
  · exact rfl
  · exact rfl
  rintro ⟨i, ii, hpi⟩ ⟨hii, hin, hti⟩
  dsimp only at hii hin hti ⊢
  subst hii
  (repeat' (first | (apply R.step; (exact a_ok); exact rfl) | (first | (with_reducible first | apply R.nil | apply C.ret | apply C.block | apply C.skip | apply C.exit | apply Fin.thenRet | apply Fin.thenExit | apply Fin.blockNormal | apply Fin.blockRet | apply Fin.blockExit) | (with_reducible apply Fin.thenK; assumption) | (with_reducible apply C.seqK; intro _ _) | (with_reducible apply C.regionK; intro _ _) | (with_reducible apply Fin.blockOther; exact rfl)) | (first | (apply R.store; exact rfl; exact rfl; exact rfl; (exact a_at); (exact a_blit); exact rfl; (focus (simp [Value.oneCell']; done))) | (apply R.buildSlice0; exact rfl; intro bz) | (apply R.box; exact rfl; (simp only [Value.cells]; rfl); exact rfl; intro bx) | (apply R.alloc; (simp only [Value.cells]; rfl); exact rfl; intro ba) | (apply R.buildSlice; (exact a_prt); exact rfl; exact rfl; (exact a_fills); exact rfl; intro bl)) | (first | (apply R.guardT; assumption; exact rfl; exact rfl; exact rfl) | (apply R.guardF; assumption; exact rfl; exact rfl; exact rfl; exact rfl; exact rfl) | (apply R.guardU; assumption; exact rfl; exact rfl; exact rfl; exact rfl) | (apply R.guardDec; assumption; exact rfl; exact rfl; (intro h; skip; rotate_left; intro h; skip; rotate_left)) | (apply R.guardBeq; assumption; exact rfl; exact rfl; (intro h; skip; rotate_left; intro h; skip; rotate_left)) | (apply R.guardBne; assumption; exact rfl; exact rfl; (intro h; skip; rotate_left; intro h; skip; rotate_left)) | (apply R.guardNDec; assumption; exact rfl; exact rfl; (intro h; skip; rotate_left; intro h; skip; rotate_left)) | (apply R.guardNot; assumption; exact rfl; exact rfl; (intro h; skip; rotate_left; intro h; skip; rotate_left)) | (apply R.guardC; assumption; exact rfl; exact rfl; (intro h; skip; rotate_left; intro h; skip; rotate_left))) | (first | (apply C.condT; exact rfl) | (apply C.condF; exact rfl) | (apply C.condDec; exact rfl; (intro h; skip; rotate_left; intro h; skip; rotate_left)) | (apply C.condBeq; exact rfl; (intro h; skip; rotate_left; intro h; skip; rotate_left)) | (apply C.condBne; exact rfl; (intro h; skip; rotate_left; intro h; skip; rotate_left)) | (apply C.condNDec; exact rfl; (intro h; skip; rotate_left; intro h; skip; rotate_left)) | (apply C.condNot; exact rfl; (intro h; skip; rotate_left; intro h; skip; rotate_left)) | (apply C.cond; exact rfl; (intro h; skip; rotate_left; intro h; skip; rotate_left)))))
  · have hlt : (i : Int) < (n : Int) := by assumption
    have hik : i < ks.length := by omega
    have hiv : i < vs.length := by omega
    obtain ⟨b0, o0, c0, e0, f0, hA, hMb, hc⟩ := hp.get (i := i) (v := sV ks[i]) (by rw [List.getElem?_map, List.getElem?_eq_getElem hik]; rfl)
    obtain ⟨b9, o9, c9, e9, f9, hB, hMb9, hc9⟩ := hq.get (i := i) (v := iV vs[i]) (by rw [List.getElem?_map, List.getElem?_eq_getElem hiv]; rfl)
    subst hA hB
    have hc' : c0[o0 + ((i : Int)).toNat * 1]? = some (sV ks[i]) := by rw [show o0 + ((i : Int)).toNat * 1 = o0 + i by omega]; exact hc
    have hc9' : c9[o9 + ((i : Int)).toNat * 1]? = some (iV vs[i]) := by rw [show o9 + ((i : Int)).toNat * 1 = o9 + i by omega]; exact hc9
    (apply C.regionO (ks := [true, true, true, true, true, true, true, true, true, false, true]) (is := [0, 1, 2, 3, 4, 5, 6, 7, 8, 9, 10]) (Hs := []); exact Mix.h; (first | exact Arr.all _ | (exact a_arr)); (exact a_np); (exact a_picked); kernel_rfl; intro _ e; subst e)
    (repeat' (first | (first | (apply RP.step; intro _ _ _; (exact a_ok); exact rfl) | (apply RP.stepT; exact rfl; exact rfl; exact rfl; intro _ _ _; (exact a_ok); exact rfl) | (apply RP.stepF; exact rfl; exact rfl; exact rfl; exact rfl; exact rfl) | (apply RP.effF; exact rfl; exact rfl; exact rfl; exact rfl; exact rfl)) | (apply RP.callQ; (exact a_evs); exact rfl)))
    (apply RP.eff; intro Kc hKc ops0)
    have hpi2 : ps.take (i + 1) = ps.take i ++ [(ks[i], vs[i])] := by
      rw [List.take_add_one, hps i hik hiv]
      rfl
    have hpa := putAll_ok 4096 (ps.take i)
    have hpal : (ps.take i).length ≤ i := by rw [List.length_take]; omega
    (apply R.call; (exact a_evs); exact rfl; (apply K.arr (h := put_si (k := ks[i]) (x := vs[i]) hti)); (exact a_arr); rintro _ _ _ ⟨rfl, hp1, ht1, e1_, e2_⟩; replace e1_ := e1_.symm; subst e1_; replace e2_ := e2_.symm; subst e2_)
    rw [putB_room (by omega)]
    rw [← putAll_snoc (p := (ks[i], vs[i])), ← hpi2] at ht1
    (apply R.nil; apply Fin.kp hKc; exact Mem.le_refl _; (exact a_arr))
    (repeat' (first | (first | (apply RP.step; intro _ _ _; (exact a_ok); exact rfl) | (apply RP.stepT; exact rfl; exact rfl; exact rfl; intro _ _ _; (exact a_ok); exact rfl) | (apply RP.stepF; exact rfl; exact rfl; exact rfl; exact rfl; exact rfl) | (apply RP.effF; exact rfl; exact rfl; exact rfl; exact rfl; exact rfl)) | (apply RP.callQ; (exact a_evs); exact rfl)))
    (first | apply RP.nil0 | apply RP.nil)
    (repeat' (first | (apply R.step; (exact a_ok); exact rfl) | (first | (with_reducible first | apply R.nil | apply C.ret | apply C.block | apply C.skip | apply C.exit | apply Fin.thenRet | apply Fin.thenExit | apply Fin.blockNormal | apply Fin.blockRet | apply Fin.blockExit) | (with_reducible apply Fin.thenK; assumption) | (with_reducible apply C.seqK; intro _ _) | (with_reducible apply C.regionK; intro _ _) | (with_reducible apply Fin.blockOther; exact rfl)) | (first | (apply R.store; exact rfl; exact rfl; exact rfl; (exact a_at); (exact a_blit); exact rfl; (focus (simp [Value.oneCell']; done))) | (apply R.buildSlice0; exact rfl; intro bz) | (apply R.box; exact rfl; (simp only [Value.cells]; rfl); exact rfl; intro bx) | (apply R.alloc; (simp only [Value.cells]; rfl); exact rfl; intro ba) | (apply R.buildSlice; (exact a_prt); exact rfl; exact rfl; (exact a_fills); exact rfl; intro bl)) | (first | (apply R.guardT; assumption; exact rfl; exact rfl; exact rfl) | (apply R.guardF; assumption; exact rfl; exact rfl; exact rfl; exact rfl; exact rfl) | (apply R.guardU; assumption; exact rfl; exact rfl; exact rfl; exact rfl) | (apply R.guardDec; assumption; exact rfl; exact rfl; (intro h; skip; rotate_left; intro h; skip; rotate_left)) | (apply R.guardBeq; assumption; exact rfl; exact rfl; (intro h; skip; rotate_left; intro h; skip; rotate_left)) | (apply R.guardBne; assumption; exact rfl; exact rfl; (intro h; skip; rotate_left; intro h; skip; rotate_left)) | (apply R.guardNDec; assumption; exact rfl; exact rfl; (intro h; skip; rotate_left; intro h; skip; rotate_left)) | (apply R.guardNot; assumption; exact rfl; exact rfl; (intro h; skip; rotate_left; intro h; skip; rotate_left)) | (apply R.guardC; assumption; exact rfl; exact rfl; (intro h; skip; rotate_left; intro h; skip; rotate_left))) | (first | (apply C.condT; exact rfl) | (apply C.condF; exact rfl) | (apply C.condDec; exact rfl; (intro h; skip; rotate_left; intro h; skip; rotate_left)) | (apply C.condBeq; exact rfl; (intro h; skip; rotate_left; intro h; skip; rotate_left)) | (apply C.condBne; exact rfl; (intro h; skip; rotate_left; intro h; skip; rotate_left)) | (apply C.condNDec; exact rfl; (intro h; skip; rotate_left; intro h; skip; rotate_left)) | (apply C.condNot; exact rfl; (intro h; skip; rotate_left; intro h; skip; rotate_left)) | (apply C.cond; exact rfl; (intro h; skip; rotate_left; intro h; skip; rotate_left)))))
    refine Fin.again (⟨i + 1, (i : Int) + 1, hp1⟩ : LpX) ⟨rfl, by dsimp only; omega, ht1⟩ (by dsimp only; omega) ?_ rfl rfl
    dsimp only
    (exact a_subs)
  have hge : ¬ (i : Int) < (n : Int) := by assumption
  obtain rfl : i = n := by omega
  apply C.loop (fun y : LpX => (y.i : Int) = y.ii ∧ y.i ≤ i)
    (fun y => [(0, .slice A ks.length c1), (1, .slice B vs.length c2), (4, .bool false), (5, .pointer (some ⟨tb, 0, none⟩)), (7, .int .i64 (i : Int)), (9, .int .i64 y.ii)]) (fun _ => M) (fun y => hpi ++ H) (fun y => i - y.i) ⟨0, 0, []⟩
  · exact ⟨rfl, Nat.zero_le _⟩
  · (exact a_subs)
  · exact rfl
  · exact rfl
  rintro ⟨j, jj, _⟩ ⟨hjj, hjn⟩
  dsimp only at hjj hjn ⊢
  subst hjj
  (repeat' (first | (apply R.step; (exact a_ok); exact rfl) | (first | (with_reducible first | apply R.nil | apply C.ret | apply C.block | apply C.skip | apply C.exit | apply Fin.thenRet | apply Fin.thenExit | apply Fin.blockNormal | apply Fin.blockRet | apply Fin.blockExit) | (with_reducible apply Fin.thenK; assumption) | (with_reducible apply C.seqK; intro _ _) | (with_reducible apply C.regionK; intro _ _) | (with_reducible apply Fin.blockOther; exact rfl)) | (first | (apply R.store; exact rfl; exact rfl; exact rfl; (exact a_at); (exact a_blit); exact rfl; (focus (simp [Value.oneCell']; done))) | (apply R.buildSlice0; exact rfl; intro bz) | (apply R.box; exact rfl; (simp only [Value.cells]; rfl); exact rfl; intro bx) | (apply R.alloc; (simp only [Value.cells]; rfl); exact rfl; intro ba) | (apply R.buildSlice; (exact a_prt); exact rfl; exact rfl; (exact a_fills); exact rfl; intro bl)) | (first | (apply R.guardT; assumption; exact rfl; exact rfl; exact rfl) | (apply R.guardF; assumption; exact rfl; exact rfl; exact rfl; exact rfl; exact rfl) | (apply R.guardU; assumption; exact rfl; exact rfl; exact rfl; exact rfl) | (apply R.guardDec; assumption; exact rfl; exact rfl; (intro h; skip; rotate_left; intro h; skip; rotate_left)) | (apply R.guardBeq; assumption; exact rfl; exact rfl; (intro h; skip; rotate_left; intro h; skip; rotate_left)) | (apply R.guardBne; assumption; exact rfl; exact rfl; (intro h; skip; rotate_left; intro h; skip; rotate_left)) | (apply R.guardNDec; assumption; exact rfl; exact rfl; (intro h; skip; rotate_left; intro h; skip; rotate_left)) | (apply R.guardNot; assumption; exact rfl; exact rfl; (intro h; skip; rotate_left; intro h; skip; rotate_left)) | (apply R.guardC; assumption; exact rfl; exact rfl; (intro h; skip; rotate_left; intro h; skip; rotate_left))) | (first | (apply C.condT; exact rfl) | (apply C.condF; exact rfl) | (apply C.condDec; exact rfl; (intro h; skip; rotate_left; intro h; skip; rotate_left)) | (apply C.condBeq; exact rfl; (intro h; skip; rotate_left; intro h; skip; rotate_left)) | (apply C.condBne; exact rfl; (intro h; skip; rotate_left; intro h; skip; rotate_left)) | (apply C.condNDec; exact rfl; (intro h; skip; rotate_left; intro h; skip; rotate_left)) | (apply C.condNot; exact rfl; (intro h; skip; rotate_left; intro h; skip; rotate_left)) | (apply C.cond; exact rfl; (intro h; skip; rotate_left; intro h; skip; rotate_left)))))
  · have hjlt : (j : Int) < (i : Int) := by assumption
    have hjk : j < ks.length := by omega
    have hjv : j < vs.length := by omega
    obtain ⟨b0, o0, c0, e0, f0, rfl, hMb, hc⟩ := hp.cell (by rw [List.length_map]; omega)
    obtain ⟨b9, o9, c9, e9, f9, rfl, hMb9, hc9⟩ := hq.cell (by rw [List.length_map]; omega)
    have hck : ∀ (q : Nat) (h : q < ks.length), c0[o0 + ((q : Int)).toNat * 1]? = some (sV ks[q]) := fun q h => by
      rw [show o0 + ((q : Int)).toNat * 1 = o0 + q by omega]
      exact hc q _ (by rw [List.getElem?_map, List.getElem?_eq_getElem h]; rfl)
    have hcv : ∀ (q : Nat) (h : q < vs.length), c9[o9 + ((q : Int)).toNat * 1]? = some (iV vs[q]) := fun q h => by
      rw [show o9 + ((q : Int)).toNat * 1 = o9 + q by omega]
      exact hc9 q _ (by rw [List.getElem?_map, List.getElem?_eq_getElem h]; rfl)
    have hc' := hck j hjk
    have hc9' := hcv j hjv
    (repeat' (first | (apply R.step; (exact a_ok); exact rfl) | (first | (with_reducible first | apply R.nil | apply C.ret | apply C.block | apply C.skip | apply C.exit | apply Fin.thenRet | apply Fin.thenExit | apply Fin.blockNormal | apply Fin.blockRet | apply Fin.blockExit) | (with_reducible apply Fin.thenK; assumption) | (with_reducible apply C.seqK; intro _ _) | (with_reducible apply C.regionK; intro _ _) | (with_reducible apply Fin.blockOther; exact rfl)) | (first | (apply R.store; exact rfl; exact rfl; exact rfl; (exact a_at); (exact a_blit); exact rfl; (focus (simp [Value.oneCell']; done))) | (apply R.buildSlice0; exact rfl; intro bz) | (apply R.box; exact rfl; (simp only [Value.cells]; rfl); exact rfl; intro bx) | (apply R.alloc; (simp only [Value.cells]; rfl); exact rfl; intro ba) | (apply R.buildSlice; (exact a_prt); exact rfl; exact rfl; (exact a_fills); exact rfl; intro bl)) | (first | (apply R.guardT; assumption; exact rfl; exact rfl; exact rfl) | (apply R.guardF; assumption; exact rfl; exact rfl; exact rfl; exact rfl; exact rfl) | (apply R.guardU; assumption; exact rfl; exact rfl; exact rfl; exact rfl) | (apply R.guardDec; assumption; exact rfl; exact rfl; (intro h; skip; rotate_left; intro h; skip; rotate_left)) | (apply R.guardBeq; assumption; exact rfl; exact rfl; (intro h; skip; rotate_left; intro h; skip; rotate_left)) | (apply R.guardBne; assumption; exact rfl; exact rfl; (intro h; skip; rotate_left; intro h; skip; rotate_left)) | (apply R.guardNDec; assumption; exact rfl; exact rfl; (intro h; skip; rotate_left; intro h; skip; rotate_left)) | (apply R.guardNot; assumption; exact rfl; exact rfl; (intro h; skip; rotate_left; intro h; skip; rotate_left)) | (apply R.guardC; assumption; exact rfl; exact rfl; (intro h; skip; rotate_left; intro h; skip; rotate_left))) | (first | (apply C.condT; exact rfl) | (apply C.condF; exact rfl) | (apply C.condDec; exact rfl; (intro h; skip; rotate_left; intro h; skip; rotate_left)) | (apply C.condBeq; exact rfl; (intro h; skip; rotate_left; intro h; skip; rotate_left)) | (apply C.condBne; exact rfl; (intro h; skip; rotate_left; intro h; skip; rotate_left)) | (apply C.condNDec; exact rfl; (intro h; skip; rotate_left; intro h; skip; rotate_left)) | (apply C.condNot; exact rfl; (intro h; skip; rotate_left; intro h; skip; rotate_left)) | (apply C.cond; exact rfl; (intro h; skip; rotate_left; intro h; skip; rotate_left)))))
    apply C.loop (fun y : LpW => (y.i : Int) = y.ii ∧ y.i ≤ i ∧ j < y.i ∧ ∃ a, a < y.i ∧ ps[a]? = some (ks[j], y.w) ∧ ∀ b p, a < b → b < y.i → ps[b]? = some p → p.1 ≠ ks[j])
      (fun y => [(0, .slice (some ⟨b0, o0, none⟩) ks.length c1), (1, .slice (some ⟨b9, o9, none⟩) vs.length c2), (4, .bool false), (5, .pointer (some ⟨tb, 0, none⟩)), (7, .int .i64 (i : Int)), (9, .int .i64 (j : Int)), (10, .int .i64 y.w), (11, .int .i64 y.ii)]) (fun _ => M) (fun y => hpi ++ H) (fun y => i - y.i) ⟨j + 1, (j : Int) + 1, vs[j]⟩
    · exact ⟨by dsimp only; omega, by dsimp only; omega, by dsimp only; omega, j, by dsimp only; omega, hps j hjk hjv, fun b p h1 h2 => absurd h2 (by dsimp only; omega)⟩
    · (exact a_subs)
    · exact rfl
    · exact rfl
    rintro ⟨q, qq, w⟩ ⟨hqq, hqn, hjq, a, haq, haw, hab⟩
    dsimp only at hqq hqn hjq haq haw hab ⊢
    subst hqq
    (repeat' (first | (apply R.step; (exact a_ok); exact rfl) | (first | (with_reducible first | apply R.nil | apply C.ret | apply C.block | apply C.skip | apply C.exit | apply Fin.thenRet | apply Fin.thenExit | apply Fin.blockNormal | apply Fin.blockRet | apply Fin.blockExit) | (with_reducible apply Fin.thenK; assumption) | (with_reducible apply C.seqK; intro _ _) | (with_reducible apply C.regionK; intro _ _) | (with_reducible apply Fin.blockOther; exact rfl)) | (first | (apply R.store; exact rfl; exact rfl; exact rfl; (exact a_at); (exact a_blit); exact rfl; (focus (simp [Value.oneCell']; done))) | (apply R.buildSlice0; exact rfl; intro bz) | (apply R.box; exact rfl; (simp only [Value.cells]; rfl); exact rfl; intro bx) | (apply R.alloc; (simp only [Value.cells]; rfl); exact rfl; intro ba) | (apply R.buildSlice; (exact a_prt); exact rfl; exact rfl; (exact a_fills); exact rfl; intro bl)) | (first | (apply R.guardT; assumption; exact rfl; exact rfl; exact rfl) | (apply R.guardF; assumption; exact rfl; exact rfl; exact rfl; exact rfl; exact rfl) | (apply R.guardU; assumption; exact rfl; exact rfl; exact rfl; exact rfl) | (apply R.guardDec; assumption; exact rfl; exact rfl; (intro h; skip; rotate_left; intro h; skip; rotate_left)) | (apply R.guardBeq; assumption; exact rfl; exact rfl; (intro h; skip; rotate_left; intro h; skip; rotate_left)) | (apply R.guardBne; assumption; exact rfl; exact rfl; (intro h; skip; rotate_left; intro h; skip; rotate_left)) | (apply R.guardNDec; assumption; exact rfl; exact rfl; (intro h; skip; rotate_left; intro h; skip; rotate_left)) | (apply R.guardNot; assumption; exact rfl; exact rfl; (intro h; skip; rotate_left; intro h; skip; rotate_left)) | (apply R.guardC; assumption; exact rfl; exact rfl; (intro h; skip; rotate_left; intro h; skip; rotate_left))) | (first | (apply C.condT; exact rfl) | (apply C.condF; exact rfl) | (apply C.condDec; exact rfl; (intro h; skip; rotate_left; intro h; skip; rotate_left)) | (apply C.condBeq; exact rfl; (intro h; skip; rotate_left; intro h; skip; rotate_left)) | (apply C.condBne; exact rfl; (intro h; skip; rotate_left; intro h; skip; rotate_left)) | (apply C.condNDec; exact rfl; (intro h; skip; rotate_left; intro h; skip; rotate_left)) | (apply C.condNot; exact rfl; (intro h; skip; rotate_left; intro h; skip; rotate_left)) | (apply C.cond; exact rfl; (intro h; skip; rotate_left; intro h; skip; rotate_left)))))
    · have hqlt : (q : Int) < (i : Int) := by assumption
      have hqk : q < ks.length := by omega
      have hqv : q < vs.length := by omega
      have hq1 := hck q hqk
      have hq9 := hcv q hqv
      (apply C.regionO (ks := [true, true, true, true, true, true, true, true, true]) (is := [0, 1, 2, 3, 4, 5, 6, 7, 8]) (Hs := []); exact Mix.h; (first | exact Arr.all _ | (exact a_arr)); (exact a_np); (exact a_picked); kernel_rfl; intro _ e; subst e)
      (repeat' (first | (apply RP.step; intro _ _ _; (apply Ok.move; exact rfl); exact rfl) | (apply RP.step; intro _ _ _; (apply Ok.eqStr; exact rfl; exact rfl); exact rfl) | (first | (apply RP.step; intro _ _ _; (exact a_ok); exact rfl) | (apply RP.stepT; exact rfl; exact rfl; exact rfl; intro _ _ _; (exact a_ok); exact rfl) | (apply RP.stepF; exact rfl; exact rfl; exact rfl; exact rfl; exact rfl) | (apply RP.effF; exact rfl; exact rfl; exact rfl; exact rfl; exact rfl)) | (apply RP.callQ; (exact a_evs); exact rfl)))
      (first | apply RP.nil0 | apply RP.nil)
      (repeat' (first | (apply R.step; (exact a_ok); exact rfl) | (first | (with_reducible first | apply R.nil | apply C.ret | apply C.block | apply C.skip | apply C.exit | apply Fin.thenRet | apply Fin.thenExit | apply Fin.blockNormal | apply Fin.blockRet | apply Fin.blockExit) | (with_reducible apply Fin.thenK; assumption) | (with_reducible apply C.seqK; intro _ _) | (with_reducible apply C.regionK; intro _ _) | (with_reducible apply Fin.blockOther; exact rfl)) | (first | (apply R.store; exact rfl; exact rfl; exact rfl; (exact a_at); (exact a_blit); exact rfl; (focus (simp [Value.oneCell']; done))) | (apply R.buildSlice0; exact rfl; intro bz) | (apply R.box; exact rfl; (simp only [Value.cells]; rfl); exact rfl; intro bx) | (apply R.alloc; (simp only [Value.cells]; rfl); exact rfl; intro ba) | (apply R.buildSlice; (exact a_prt); exact rfl; exact rfl; (exact a_fills); exact rfl; intro bl)) | (first | (apply R.guardT; assumption; exact rfl; exact rfl; exact rfl) | (apply R.guardF; assumption; exact rfl; exact rfl; exact rfl; exact rfl; exact rfl) | (apply R.guardU; assumption; exact rfl; exact rfl; exact rfl; exact rfl) | (apply R.guardDec; assumption; exact rfl; exact rfl; (intro h; skip; rotate_left; intro h; skip; rotate_left)) | (apply R.guardBeq; assumption; exact rfl; exact rfl; (intro h; skip; rotate_left; intro h; skip; rotate_left)) | (apply R.guardBne; assumption; exact rfl; exact rfl; (intro h; skip; rotate_left; intro h; skip; rotate_left)) | (apply R.guardNDec; assumption; exact rfl; exact rfl; (intro h; skip; rotate_left; intro h; skip; rotate_left)) | (apply R.guardNot; assumption; exact rfl; exact rfl; (intro h; skip; rotate_left; intro h; skip; rotate_left)) | (apply R.guardC; assumption; exact rfl; exact rfl; (intro h; skip; rotate_left; intro h; skip; rotate_left))) | (first | (apply C.condT; exact rfl) | (apply C.condF; exact rfl) | (apply C.condDec; exact rfl; (intro h; skip; rotate_left; intro h; skip; rotate_left)) | (apply C.condBeq; exact rfl; (intro h; skip; rotate_left; intro h; skip; rotate_left)) | (apply C.condBne; exact rfl; (intro h; skip; rotate_left; intro h; skip; rotate_left)) | (apply C.condNDec; exact rfl; (intro h; skip; rotate_left; intro h; skip; rotate_left)) | (apply C.condNot; exact rfl; (intro h; skip; rotate_left; intro h; skip; rotate_left)) | (apply C.cond; exact rfl; (intro h; skip; rotate_left; intro h; skip; rotate_left)))))
      · have he : ks[q] = ks[j] := by assumption
        refine Fin.again (⟨q + 1, (q : Int) + 1, vs[q]⟩ : LpW) ⟨by dsimp only; omega, by dsimp only; omega, by dsimp only; omega, q, by dsimp only; omega, by rw [hps q hqk hqv, he], fun b p h1 h2 => absurd h2 (by dsimp only; omega)⟩ (by dsimp only; omega) ?_ rfl rfl
        dsimp only
        (exact a_subs)
      · have he : ¬ ks[q] = ks[j] := by assumption
        refine Fin.again (⟨q + 1, (q : Int) + 1, w⟩ : LpW) ⟨by dsimp only; omega, by dsimp only; omega, by dsimp only; omega, a, by dsimp only; omega, haw, fun b p h1 h2 h3 => ?_⟩ (by dsimp only; omega) ?_ rfl rfl
        · by_cases hbq : b = q
          · subst hbq
            rw [hps b hqk hqv] at h3
            injection h3 with h3
            rw [← h3]
            exact he
          · exact hab b p h1 (by dsimp only at h2; omega) h3
        dsimp only
        (exact a_subs)
    · have hqge : ¬ (q : Int) < (i : Int) := by assumption
      obtain rfl : q = i := by omega
      have hval : getT (putAll 4096 (ps.take q)) ks[j] = some w := by
        obtain ⟨hs, _⟩ := putAll_ok 4096 (ps.take q)
        refine (mem_get hs).2 ?_
        have hal : a < (ps.take q).length := by rw [List.length_take]; omega
        have e1 : (ps.take q)[a] = (ks[j], w) := by
          rw [List.getElem_take]
          have := List.getElem?_eq_getElem (l := ps) (i := a) (by omega)
          rw [haw] at this
          injection this with this
          exact this.symm
        have := putAll_get (most := 4096) (ps.take q) (by rw [List.length_take]; omega) a hal fun b hb h1 => by
          rw [e1]
          have hbp : b < ps.length := by rw [List.length_take] at hb; omega
          refine hab b _ h1 (by rw [List.length_take] at hb; omega) ?_
          rw [List.getElem_take]
          exact List.getElem?_eq_getElem hbp
        rw [e1] at this
        exact this
      have hin2 : ks[j] ∈ keysT (putAll 4096 (ps.take q)) := by
        obtain ⟨hs, _⟩ := putAll_ok 4096 (ps.take q)
        exact keys_mem.2 ⟨w, (mem_get hs).1 hval⟩
      (apply R.call; (exact a_evs); exact rfl); exact get_si (k := ks[j]) hti; rintro _ _ _ ⟨rfl, e1_, e2_⟩; replace e1_ := e1_.symm; subst e1_; replace e2_ := e2_.symm; subst e2_
      rw [hval, decide_eq_true hin2]
      (repeat' (first | (apply R.step; (exact a_ok); exact rfl) | (first | (with_reducible first | apply R.nil | apply C.ret | apply C.block | apply C.skip | apply C.exit | apply Fin.thenRet | apply Fin.thenExit | apply Fin.blockNormal | apply Fin.blockRet | apply Fin.blockExit) | (with_reducible apply Fin.thenK; assumption) | (with_reducible apply C.seqK; intro _ _) | (with_reducible apply C.regionK; intro _ _) | (with_reducible apply Fin.blockOther; exact rfl)) | (first | (apply R.store; exact rfl; exact rfl; exact rfl; (exact a_at); (exact a_blit); exact rfl; (focus (simp [Value.oneCell']; done))) | (apply R.buildSlice0; exact rfl; intro bz) | (apply R.box; exact rfl; (simp only [Value.cells]; rfl); exact rfl; intro bx) | (apply R.alloc; (simp only [Value.cells]; rfl); exact rfl; intro ba) | (apply R.buildSlice; (exact a_prt); exact rfl; exact rfl; (exact a_fills); exact rfl; intro bl)) | (first | (apply R.guardT; assumption; exact rfl; exact rfl; exact rfl) | (apply R.guardF; assumption; exact rfl; exact rfl; exact rfl; exact rfl; exact rfl) | (apply R.guardU; assumption; exact rfl; exact rfl; exact rfl; exact rfl) | (apply R.guardDec; assumption; exact rfl; exact rfl; (intro h; skip; rotate_left; intro h; skip; rotate_left)) | (apply R.guardBeq; assumption; exact rfl; exact rfl; (intro h; skip; rotate_left; intro h; skip; rotate_left)) | (apply R.guardBne; assumption; exact rfl; exact rfl; (intro h; skip; rotate_left; intro h; skip; rotate_left)) | (apply R.guardNDec; assumption; exact rfl; exact rfl; (intro h; skip; rotate_left; intro h; skip; rotate_left)) | (apply R.guardNot; assumption; exact rfl; exact rfl; (intro h; skip; rotate_left; intro h; skip; rotate_left)) | (apply R.guardC; assumption; exact rfl; exact rfl; (intro h; skip; rotate_left; intro h; skip; rotate_left))) | (first | (apply C.condT; exact rfl) | (apply C.condF; exact rfl) | (apply C.condDec; exact rfl; (intro h; skip; rotate_left; intro h; skip; rotate_left)) | (apply C.condBeq; exact rfl; (intro h; skip; rotate_left; intro h; skip; rotate_left)) | (apply C.condBne; exact rfl; (intro h; skip; rotate_left; intro h; skip; rotate_left)) | (apply C.condNDec; exact rfl; (intro h; skip; rotate_left; intro h; skip; rotate_left)) | (apply C.condNot; exact rfl; (intro h; skip; rotate_left; intro h; skip; rotate_left)) | (apply C.cond; exact rfl; (intro h; skip; rotate_left; intro h; skip; rotate_left)))))
      refine Fin.again (⟨j + 1, (j : Int) + 1, []⟩ : LpX) ⟨rfl, by dsimp only; omega⟩ (by dsimp only; omega) ?_ rfl rfl
      dsimp only
      (exact a_subs)
  · have hjge : ¬ (j : Int) < (i : Int) := by assumption
    obtain rfl : j = i := by omega
    (apply R.call; (exact a_evs); exact rfl; exact keys_si hti; rintro _ _ _ ⟨hk, ok, e1_, e2_⟩; replace e1_ := e1_.symm; subst e1_; replace e2_ := e2_.symm; subst e2_)
    obtain ⟨A1, cp1, rfl, _, _⟩ := ok.form
    (apply R.freezes; exact Tk.here _ _; intro hm1)
    have hz := ok.pl (M := M)
    generalize M.puts hk = M3 at hm1 hz ⊢
    (repeat' (first | (apply R.step; (exact a_ok); exact rfl) | (first | (with_reducible first | apply R.nil | apply C.ret | apply C.block | apply C.skip | apply C.exit | apply Fin.thenRet | apply Fin.thenExit | apply Fin.blockNormal | apply Fin.blockRet | apply Fin.blockExit) | (with_reducible apply Fin.thenK; assumption) | (with_reducible apply C.seqK; intro _ _) | (with_reducible apply C.regionK; intro _ _) | (with_reducible apply Fin.blockOther; exact rfl)) | (first | (apply R.store; exact rfl; exact rfl; exact rfl; (exact a_at); (exact a_blit); exact rfl; (focus (simp [Value.oneCell']; done))) | (apply R.buildSlice0; exact rfl; intro bz) | (apply R.box; exact rfl; (simp only [Value.cells]; rfl); exact rfl; intro bx) | (apply R.alloc; (simp only [Value.cells]; rfl); exact rfl; intro ba) | (apply R.buildSlice; (exact a_prt); exact rfl; exact rfl; (exact a_fills); exact rfl; intro bl)) | (first | (apply R.guardT; assumption; exact rfl; exact rfl; exact rfl) | (apply R.guardF; assumption; exact rfl; exact rfl; exact rfl; exact rfl; exact rfl) | (apply R.guardU; assumption; exact rfl; exact rfl; exact rfl; exact rfl) | (apply R.guardDec; assumption; exact rfl; exact rfl; (intro h; skip; rotate_left; intro h; skip; rotate_left)) | (apply R.guardBeq; assumption; exact rfl; exact rfl; (intro h; skip; rotate_left; intro h; skip; rotate_left)) | (apply R.guardBne; assumption; exact rfl; exact rfl; (intro h; skip; rotate_left; intro h; skip; rotate_left)) | (apply R.guardNDec; assumption; exact rfl; exact rfl; (intro h; skip; rotate_left; intro h; skip; rotate_left)) | (apply R.guardNot; assumption; exact rfl; exact rfl; (intro h; skip; rotate_left; intro h; skip; rotate_left)) | (apply R.guardC; assumption; exact rfl; exact rfl; (intro h; skip; rotate_left; intro h; skip; rotate_left))) | (first | (apply C.condT; exact rfl) | (apply C.condF; exact rfl) | (apply C.condDec; exact rfl; (intro h; skip; rotate_left; intro h; skip; rotate_left)) | (apply C.condBeq; exact rfl; (intro h; skip; rotate_left; intro h; skip; rotate_left)) | (apply C.condBne; exact rfl; (intro h; skip; rotate_left; intro h; skip; rotate_left)) | (apply C.condNDec; exact rfl; (intro h; skip; rotate_left; intro h; skip; rotate_left)) | (apply C.condNot; exact rfl; (intro h; skip; rotate_left; intro h; skip; rotate_left)) | (apply C.cond; exact rfl; (intro h; skip; rotate_left; intro h; skip; rotate_left)))))
    have hso : sortS (keysT (putAll 4096 (ps.take j))) := (putAll_ok 4096 (ps.take j)).1
    have hlo : (putAll 4096 (ps.take j)).length ≤ 4096 := by
      have := (putAll_ok 4096 (ps.take j)).2
      rw [List.length_take] at this
      omega
    generalize putAll 4096 (ps.take j) = l at hso hlo hz hti ⊢
    have hkl := keysT_length l
    apply C.loop (fun y : LpX => (y.i : Int) = y.ii ∧ 1 ≤ y.i)
      (fun y => [(4, .bool false), (5, .pointer (some ⟨tb, 0, none⟩)), (14, .slice A1 l.length cp1), (15, .int .i64 y.ii)]) (fun _ => M3) (fun y => hpi ++ H) (fun y => l.length - y.i) ⟨1, 1, []⟩
    · exact ⟨rfl, Nat.le_refl _⟩
    · (exact a_subs)
    · exact rfl
    · exact rfl
    rintro ⟨q, qq, _⟩ ⟨hqq, hq1⟩
    dsimp only at hqq hq1 ⊢
    subst hqq
    (repeat' (first | (apply R.step; (exact a_ok); exact rfl) | (first | (with_reducible first | apply R.nil | apply C.ret | apply C.block | apply C.skip | apply C.exit | apply Fin.thenRet | apply Fin.thenExit | apply Fin.blockNormal | apply Fin.blockRet | apply Fin.blockExit) | (with_reducible apply Fin.thenK; assumption) | (with_reducible apply C.seqK; intro _ _) | (with_reducible apply C.regionK; intro _ _) | (with_reducible apply Fin.blockOther; exact rfl)) | (first | (apply R.store; exact rfl; exact rfl; exact rfl; (exact a_at); (exact a_blit); exact rfl; (focus (simp [Value.oneCell']; done))) | (apply R.buildSlice0; exact rfl; intro bz) | (apply R.box; exact rfl; (simp only [Value.cells]; rfl); exact rfl; intro bx) | (apply R.alloc; (simp only [Value.cells]; rfl); exact rfl; intro ba) | (apply R.buildSlice; (exact a_prt); exact rfl; exact rfl; (exact a_fills); exact rfl; intro bl)) | (first | (apply R.guardT; assumption; exact rfl; exact rfl; exact rfl) | (apply R.guardF; assumption; exact rfl; exact rfl; exact rfl; exact rfl; exact rfl) | (apply R.guardU; assumption; exact rfl; exact rfl; exact rfl; exact rfl) | (apply R.guardDec; assumption; exact rfl; exact rfl; (intro h; skip; rotate_left; intro h; skip; rotate_left)) | (apply R.guardBeq; assumption; exact rfl; exact rfl; (intro h; skip; rotate_left; intro h; skip; rotate_left)) | (apply R.guardBne; assumption; exact rfl; exact rfl; (intro h; skip; rotate_left; intro h; skip; rotate_left)) | (apply R.guardNDec; assumption; exact rfl; exact rfl; (intro h; skip; rotate_left; intro h; skip; rotate_left)) | (apply R.guardNot; assumption; exact rfl; exact rfl; (intro h; skip; rotate_left; intro h; skip; rotate_left)) | (apply R.guardC; assumption; exact rfl; exact rfl; (intro h; skip; rotate_left; intro h; skip; rotate_left))) | (first | (apply C.condT; exact rfl) | (apply C.condF; exact rfl) | (apply C.condDec; exact rfl; (intro h; skip; rotate_left; intro h; skip; rotate_left)) | (apply C.condBeq; exact rfl; (intro h; skip; rotate_left; intro h; skip; rotate_left)) | (apply C.condBne; exact rfl; (intro h; skip; rotate_left; intro h; skip; rotate_left)) | (apply C.condNDec; exact rfl; (intro h; skip; rotate_left; intro h; skip; rotate_left)) | (apply C.condNot; exact rfl; (intro h; skip; rotate_left; intro h; skip; rotate_left)) | (apply C.cond; exact rfl; (intro h; skip; rotate_left; intro h; skip; rotate_left)))))
    · have hql : (q : Int) < (l.length : Int) := by assumption
      obtain ⟨b0, o0, c0, e0, f0, rfl, hMb, hc⟩ := hz.cell (by rw [List.length_map]; omega)
      have hck : ∀ (a : Nat) (h : a < (keysT l).length) (z : Int), (a : Int) = z → c0[o0 + z.toNat * 1]? = some (sV (keysT l)[a]) := fun a h z hz => by
        rw [show o0 + z.toNat * 1 = o0 + a by omega]
        exact hc a _ (by rw [List.getElem?_map, List.getElem?_eq_getElem h]; rfl)
      have hq3 := hck q (by omega) (q : Int) rfl
      have hq4 := hck (q - 1) (by omega) ((q : Int) - 1) (by omega)
      (apply C.regionO (ks := [true, true, true, true, true, true, true, true, true, true]) (is := [0, 1, 2, 3, 4, 5, 6, 7, 8, 9]) (Hs := []); exact Mix.h; (first | exact Arr.all _ | (exact a_arr)); (exact a_np); (exact a_picked); kernel_rfl; intro _ e; subst e)
      (repeat' (first | (apply RP.step; intro _ _ _; (apply Ok.move; exact rfl); exact rfl) | (apply RP.step; intro _ _ _; (apply Ok.geStr; exact rfl; exact rfl); exact rfl) | (first | (apply RP.step; intro _ _ _; (exact a_ok); exact rfl) | (apply RP.stepT; exact rfl; exact rfl; exact rfl; intro _ _ _; (exact a_ok); exact rfl) | (apply RP.stepF; exact rfl; exact rfl; exact rfl; exact rfl; exact rfl) | (apply RP.effF; exact rfl; exact rfl; exact rfl; exact rfl; exact rfl)) | (apply RP.callQ; (exact a_evs); exact rfl)))
      have hord : ltB (keysT l)[q - 1] (keysT l)[q] := sort_lt hso (by omega) (by omega)
      rw [decide_eq_true hord]
      (repeat' (first | (first | (apply RP.step; intro _ _ _; (exact a_ok); exact rfl) | (apply RP.stepT; exact rfl; exact rfl; exact rfl; intro _ _ _; (exact a_ok); exact rfl) | (apply RP.stepF; exact rfl; exact rfl; exact rfl; exact rfl; exact rfl) | (apply RP.effF; exact rfl; exact rfl; exact rfl; exact rfl; exact rfl)) | (apply RP.callQ; (exact a_evs); exact rfl)))
      (first | apply RP.nil0 | apply RP.nil)
      (repeat' (first | (apply R.step; (exact a_ok); exact rfl) | (first | (with_reducible first | apply R.nil | apply C.ret | apply C.block | apply C.skip | apply C.exit | apply Fin.thenRet | apply Fin.thenExit | apply Fin.blockNormal | apply Fin.blockRet | apply Fin.blockExit) | (with_reducible apply Fin.thenK; assumption) | (with_reducible apply C.seqK; intro _ _) | (with_reducible apply C.regionK; intro _ _) | (with_reducible apply Fin.blockOther; exact rfl)) | (first | (apply R.store; exact rfl; exact rfl; exact rfl; (exact a_at); (exact a_blit); exact rfl; (focus (simp [Value.oneCell']; done))) | (apply R.buildSlice0; exact rfl; intro bz) | (apply R.box; exact rfl; (simp only [Value.cells]; rfl); exact rfl; intro bx) | (apply R.alloc; (simp only [Value.cells]; rfl); exact rfl; intro ba) | (apply R.buildSlice; (exact a_prt); exact rfl; exact rfl; (exact a_fills); exact rfl; intro bl)) | (first | (apply R.guardT; assumption; exact rfl; exact rfl; exact rfl) | (apply R.guardF; assumption; exact rfl; exact rfl; exact rfl; exact rfl; exact rfl) | (apply R.guardU; assumption; exact rfl; exact rfl; exact rfl; exact rfl) | (apply R.guardDec; assumption; exact rfl; exact rfl; (intro h; skip; rotate_left; intro h; skip; rotate_left)) | (apply R.guardBeq; assumption; exact rfl; exact rfl; (intro h; skip; rotate_left; intro h; skip; rotate_left)) | (apply R.guardBne; assumption; exact rfl; exact rfl; (intro h; skip; rotate_left; intro h; skip; rotate_left)) | (apply R.guardNDec; assumption; exact rfl; exact rfl; (intro h; skip; rotate_left; intro h; skip; rotate_left)) | (apply R.guardNot; assumption; exact rfl; exact rfl; (intro h; skip; rotate_left; intro h; skip; rotate_left)) | (apply R.guardC; assumption; exact rfl; exact rfl; (intro h; skip; rotate_left; intro h; skip; rotate_left))) | (first | (apply C.condT; exact rfl) | (apply C.condF; exact rfl) | (apply C.condDec; exact rfl; (intro h; skip; rotate_left; intro h; skip; rotate_left)) | (apply C.condBeq; exact rfl; (intro h; skip; rotate_left; intro h; skip; rotate_left)) | (apply C.condBne; exact rfl; (intro h; skip; rotate_left; intro h; skip; rotate_left)) | (apply C.condNDec; exact rfl; (intro h; skip; rotate_left; intro h; skip; rotate_left)) | (apply C.condNot; exact rfl; (intro h; skip; rotate_left; intro h; skip; rotate_left)) | (apply C.cond; exact rfl; (intro h; skip; rotate_left; intro h; skip; rotate_left)))))
      refine Fin.again (⟨q + 1, (q : Int) + 1, []⟩ : LpX) ⟨rfl, by dsimp only; omega⟩ (by dsimp only; omega) ?_ rfl rfl
      dsimp only
      (exact a_subs)
    · (apply R.call; (exact a_evs); exact rfl); exact len_si hti; rintro _ _ _ ⟨rfl, e1_, e2_⟩; replace e1_ := e1_.symm; subst e1_; replace e2_ := e2_.symm; subst e2_
      (repeat' (first | (apply R.step; (apply Ok.move; exact rfl); exact rfl) | (apply R.step; (apply Ok.eqIS; exact rfl; exact rfl); exact rfl) | (apply R.step; (exact a_ok); exact rfl) | (first | (with_reducible first | apply R.nil | apply C.ret | apply C.block | apply C.skip | apply C.exit | apply Fin.thenRet | apply Fin.thenExit | apply Fin.blockNormal | apply Fin.blockRet | apply Fin.blockExit) | (with_reducible apply Fin.thenK; assumption) | (with_reducible apply C.seqK; intro _ _) | (with_reducible apply C.regionK; intro _ _) | (with_reducible apply Fin.blockOther; exact rfl)) | (first | (apply R.store; exact rfl; exact rfl; exact rfl; (exact a_at); (exact a_blit); exact rfl; (focus (simp [Value.oneCell']; done))) | (apply R.buildSlice0; exact rfl; intro bz) | (apply R.box; exact rfl; (simp only [Value.cells]; rfl); exact rfl; intro bx) | (apply R.alloc; (simp only [Value.cells]; rfl); exact rfl; intro ba) | (apply R.buildSlice; (exact a_prt); exact rfl; exact rfl; (exact a_fills); exact rfl; intro bl)) | (first | (apply R.guardT; assumption; exact rfl; exact rfl; exact rfl) | (apply R.guardF; assumption; exact rfl; exact rfl; exact rfl; exact rfl; exact rfl) | (apply R.guardU; assumption; exact rfl; exact rfl; exact rfl; exact rfl) | (apply R.guardDec; assumption; exact rfl; exact rfl; (intro h; skip; rotate_left; intro h; skip; rotate_left)) | (apply R.guardBeq; assumption; exact rfl; exact rfl; (intro h; skip; rotate_left; intro h; skip; rotate_left)) | (apply R.guardBne; assumption; exact rfl; exact rfl; (intro h; skip; rotate_left; intro h; skip; rotate_left)) | (apply R.guardNDec; assumption; exact rfl; exact rfl; (intro h; skip; rotate_left; intro h; skip; rotate_left)) | (apply R.guardNot; assumption; exact rfl; exact rfl; (intro h; skip; rotate_left; intro h; skip; rotate_left)) | (apply R.guardC; assumption; exact rfl; exact rfl; (intro h; skip; rotate_left; intro h; skip; rotate_left))) | (first | (apply C.condT; exact rfl) | (apply C.condF; exact rfl) | (apply C.condDec; exact rfl; (intro h; skip; rotate_left; intro h; skip; rotate_left)) | (apply C.condBeq; exact rfl; (intro h; skip; rotate_left; intro h; skip; rotate_left)) | (apply C.condBne; exact rfl; (intro h; skip; rotate_left; intro h; skip; rotate_left)) | (apply C.condNDec; exact rfl; (intro h; skip; rotate_left; intro h; skip; rotate_left)) | (apply C.condNot; exact rfl; (intro h; skip; rotate_left; intro h; skip; rotate_left)) | (apply C.cond; exact rfl; (intro h; skip; rotate_left; intro h; skip; rotate_left)))))
      (apply Fin.returnA (H2 := H); assumption; exact .inl rfl; exact rfl; (exact a_res); (simp only [retv]; rfl); (exact a_arr))
      exact ⟨by simp, hm1⟩
end Go.Sx
