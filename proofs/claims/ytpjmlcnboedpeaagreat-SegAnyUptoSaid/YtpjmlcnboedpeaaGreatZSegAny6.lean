import Derived.Test.YtpjmlcnboedpeaaGreatRows
import Derived.Test.YtpjmlcnboedpeaaGreatZSegAny5
section
namespace Go.Sx
open Go Go.Proofs Go.RowKit
attribute [local irreducible] C R Fin K Own OwnT Rd Pl Ok KOf RetOk OpsOf RP KP Res NoPanic KV KE MapS ItS EntS FsO FsR RowD PlD DkO PlFs RT KT OneT RS KS OneS RdO SgO RgO
variable {M M' : Mem} {H H1 H2 : Hp}
theorem feC_two (es : List FE) : ∀ c ∈ es.map feC, c.length = 2 := by
  intro c hc
  obtain ⟨x, _, rfl⟩ := List.mem_map.1 hc
  rfl
theorem feC_flat (es : List FE) : (es.map feC).flatten.length = es.length * 2 := by
  rw [rows_len (feC_two es), List.length_map]
theorem fileRow {v : Value} {es : List FE} {hp : Hp} (h : Own 37 2 v es.length (es.map feC).flatten hp) {k : Nat} (hk : k < es.length) : ∃ b cap, ∃ l : List Value, v = .slice (some ⟨b, 0, none⟩) es.length cap ∧ hp = [(b, .cells l.toArray 37 (0, 0))] ∧ es.length ≤ cap ∧ cap ≤ 9223372036854775807 ∧ k * 2 + 1 < l.length ∧ l[k * 2]? = some (str es[k].n) ∧ l[k * 2 + 1]? = some es[k].v ∧
    (∀ u x, Own 37 2 v (es.set k ⟨es[k].n, u, x⟩).length ((es.set k ⟨es[k].n, u, x⟩).map feC).flatten [(b, .cells (l.set (k * 2 + 1) u).toArray 37 (0, 0))]) ∧
    (∀ n', Own 37 2 v (es.set k ⟨n', es[k].v, es[k].b⟩).length ((es.set k ⟨n', es[k].v, es[k].b⟩).map feC).flatten [(b, .cells (l.set (k * 2) (str n')).toArray 37 (0, 0))]) := by
  unfold Own at h ⊢
  rcases h.2 with ⟨_, h2, _⟩ | ⟨b, cap, c, h1, h2, h3, h4, h5, h6⟩
  · omega
  · have hms : es.length * 2 ≤ cap * 2 := Nat.mul_le_mul_right _ h3
    have hcl : c.toList.length = cap * 2 := by rw [Array.length_toList, h5]
    have hget : ∀ q u, (feC es[k])[q]? = some u → c.toList[k * 2 + q]? = some u := by
      intro q u hq
      have h7 := flat_get (sz := 2) _ (feC_two es) k q (feC es[k]) u (by rw [List.getElem?_map, List.getElem?_eq_getElem hk]; rfl) hq
      rw [← h6, List.getElem?_take] at h7
      split at h7
      · exact h7
      · cases h7
    have hset : ∀ q u (x : FE), q < 2 → feC x = (feC es[k]).set q u → (c.toList.set (k * 2 + q) u).take (es.length * 2) = ((es.set k x).map feC).flatten := by
      intro q u x hq hx
      rw [List.take_set, h6, rows_set (n := 2) (feC_two es) (i := k) (q := q) (by rw [List.length_map]; exact hk) hq, List.map_set, List.getElem_map, hx]
    refine ⟨b, cap, c.toList, h1, by rw [h2], h3, by unfold maxLen at h4; omega, by omega, hget 0 _ rfl, hget 1 _ rfl, fun u x => ⟨by rw [feC_flat], .inr ⟨b, cap, (c.toList.set (k * 2 + 1) u).toArray, ?_, rfl, ?_, h4, ?_, ?_⟩⟩, fun n' => ⟨by rw [feC_flat], .inr ⟨b, cap, (c.toList.set (k * 2) (str n')).toArray, ?_, rfl, ?_, h4, ?_, ?_⟩⟩⟩
    · rw [List.length_set]; exact h1
    · rw [List.length_set]; exact h3
    · rw [List.size_toArray, List.length_set, hcl]
    · rw [List.length_set, List.toList_toArray]
      exact hset 1 u _ (by decide) rfl
    · rw [List.length_set]; exact h1
    · rw [List.length_set]; exact h3
    · rw [List.size_toArray, List.length_set, hcl]
    · rw [List.length_set, List.toList_toArray]
      exact hset 0 (str n') _ (by decide) rfl
theorem mendR_sz : ∀ (ns : List Nat) (d : Dk), szD (mendR d ns).2 ≤ szD d + ns.length
  | [], d => Nat.le_refl _
  | n :: ns, d => by
    unfold mendR
    split
    · have := opD_sz d (remE d (nameS n)) (.rem (nameS n))
      rw [List.length_cons]
      dsimp only
      omega
    · have h1 := opD_sz d 0 (.rem (nameS n))
      have h2 := mendR_sz ns (opD 0 d (.rem (nameS n)))
      rw [List.length_cons]
      omega
theorem mendD_sz (d : Dk) (ns : List Nat) (f : Nat) (it : List (En × Nat)) : szD (mendD d ns f it).2 ≤ szD d + ns.length + 1 := by
  have h1 := mendR_sz ns.tail.reverse d
  rw [List.length_reverse, List.length_tail] at h1
  unfold mendD
  split
  · omega
  · unfold mendE
    split
    · have := opD_sz (mendR d ns.tail.reverse).2 (remE (mendR d ns.tail.reverse).2 (nameS f)) (.rem (nameS f))
      exact Nat.le_trans this (by omega)
    · have := opD_sz (mendR d ns.tail.reverse).2 (trcE (mendR d ns.tail.reverse).2 (nameS f) ((it.map Prod.snd).sum : Int)) (.trc (nameS f) (it.map Prod.snd).sum)
      exact Nat.le_trans this (by omega)
theorem openG_sz {d : Dk} : ∀ (ns : List Nat) (acc : List Sg), szD (openG d ns acc).2.1 ≤ szD d + ns.length + 1
  | [], acc => by
    show szD d ≤ _
    omega
  | n :: ns, acc => by
    have hm := mendD_sz d (n :: ns) n (readF (lastO acc) n ((readD d (nameS n)).getD [])).1
    rw [openG]
    split
    · have := openG_sz (d := d) ns (if 0 < (readF (lastO acc) n ((readD d (nameS n)).getD [])).1.length then acc ++ [⟨n, (readF (lastO acc) n ((readD d (nameS n)).getD [])).1⟩] else acc)
      rw [List.length_cons]
      omega
    · split
      · exact hm
      · exact hm
theorem openS_sz (d : Dk) : szD (openS d).2.1 ≤ szD d + d.now.length + 1 := by
  have h1 := openG_sz (d := d) (numsF (namesD d.down d.now)) []
  have h2 := Nat.le_trans (numsF_len (namesD d.down d.now)) (namesD_len (d := d))
  unfold openS
  omega
structure RkX where
  i : Nat
  ii : Int
  v : Value
  es : List FE
  hp : Hp
  M : Mem
theorem EsOk.set {es : List FE} {k : Nat} {x : FE} (h : EsOk M es) (hx : PlB M x.v x.b) : EsOk M (es.set k x) := fun e he => by
  rcases List.mem_or_eq_of_mem_set he with he | he
  · exact h e he
  · rw [he]; exact hx
def smF (N : Nat) (es : List FE) : Prop := ∀ e ∈ es, e.n.length ≤ 1048576 ∧ e.b.length ≤ N
theorem smF.set {N : Nat} {es : List FE} {k : Nat} {x : FE} (h : smF N es) (h1 : x.n.length ≤ 1048576) (h2 : x.b.length ≤ N) : smF N (es.set k x) := fun e he => by
  rcases List.mem_or_eq_of_mem_set he with he | he
  · exact h e he
  · rw [he]; exact ⟨h1, h2⟩
theorem smF.mono {N N' : Nat} {es : List FE} (h : smF N es) (hN : N ≤ N') : smF N' es := fun e he => ⟨(h e he).1, Nat.le_trans (h e he).2 hN⟩
set_option maxHeartbeats 8000000 in
theorem segAny_K {F T : Option Addr} {cf ct : Nat} {fes : List FE} {lv : Value} {l : List En} {ats : List Int} {lm : Int} (hf : Pl M F (fes.map feC).flatten) (hfo : EsOk M fes) (hfl : fes.length ≤ cf) (hfc : cf ≤ 9223372036854775807) (hfn : fes.length ≤ 1048576) (hfs : smF 1048576 fes) (hl : EnL M lv l) (hlr : ∀ e ∈ l, rng e) (hll : l.length ≤ 1048576) (hT : Pl M T (ats.map fun n : Int => .int .i64 n)) (hTl : ats.length ≤ ct) (hTn : ats.length ≤ 1048576) : K Tryz.prog 3 [.slice F fes.length cf, lv, .slice T ats.length ct, .int .i64 lm] M H fun v' M' H' => v' = .bool true ∧ M.le M' := by
  obtain ⟨Al, cl, vl, rfl, _⟩ := id hl
  refine K.enterK Tryz.func3 rfl rfl rfl ?_
  intro Q hNP hQ
  have hlm : 0 ≤ lm % 200 ∧ lm % 200 < 200 := ⟨Int.emod_nonneg _ (by decide), Int.emod_lt_of_pos _ (by decide)⟩
  (repeat' (first | refine a_go ?_ | (refine a_kn ?_; intro _ _) | (refine a_bz ?_; intro bz) | (refine a_bx ?_; intro bx) | (refine a_ba ?_; intro ba) | (refine a_bl ?_; intro bl) | (refine a_sp ?_ ?_; intro h; rotate_left; intro h; rotate_left) | fail))
  (apply R.call; (exact a_evs); exact rfl; (first | exact pick_K lm 200 (by decide) (by decide)); rintro _ _ _ ⟨rfl, e1_, e2_⟩; replace e1_ := e1_.symm; subst e1_; replace e2_ := e2_.symm; subst e2_)
  (repeat' (first | refine a_mv ?_ | (apply R.step; (apply Ok.addQ (64 + lm % 200); exact rfl; exact rfl; exact rfl; apply w64; omega; omega); exact rfl) | refine a_go ?_ | (refine a_kn ?_; intro _ _) | (refine a_bz ?_; intro bz) | (refine a_bx ?_; intro bx) | (refine a_ba ?_; intro ba) | (refine a_bl ?_; intro bl) | (refine a_sp ?_ ?_; intro h; rotate_left; intro h; rotate_left) | fail))
  generalize hlim : 64 + lm % 200 = lim
  have hlim2 : 64 ≤ lim ∧ lim ≤ 16384 := by omega
  have hl5 : 0 ≤ (l.length : Int) % 5 ∧ (l.length : Int) % 5 < 5 := ⟨Int.emod_nonneg _ (by decide), Int.emod_lt_of_pos _ (by decide)⟩
  (repeat' (first | refine a_mv ?_ | (apply R.step; (first | (apply Ok.remP; exact rfl; exact rfl; omega; decide) | (apply Ok.convB; exact rfl; apply wu64; omega; omega)); exact rfl) | refine a_go ?_ | (refine a_kn ?_; intro _ _) | (refine a_bz ?_; intro bz) | (refine a_bx ?_; intro bx) | (refine a_ba ?_; intro ba) | (refine a_bl ?_; intro bl) | (refine a_sp ?_ ?_; intro h; rotate_left; intro h; rotate_left) | fail))
  (apply R.call; (exact a_evs); exact rfl; exact hEntries_K (i := (l.length : Int) % 5) (t := 1) (m := 20) hl hlr (by omega) (by decide) (by decide); rintro fv M1 _ ⟨hrf, hof, hM1, rfl⟩)
  have hfl20 : (l.take (20 : Int).toNat).length ≤ 20 := by rw [List.length_take]; exact Nat.min_le_left _ _
  have hffol : folE none (handE ((l.length : Int) % 5) 1 (l.take (20 : Int).toNat)) := handE_fol _ _ _ _ (by omega) (by omega) (by decide) (by omega) (fun a h => by cases h)
  have hfle := handE_len (l.take (20 : Int).toNat) ((l.length : Int) % 5) 1
  generalize handE ((l.length : Int) % 5) 1 (l.take (20 : Int).toNat) = fs at hof hffol hfle
  have hfent := folE_drop hffol
  obtain ⟨Af, cfs, rfl, hcf, hcf2⟩ := hof.form
  (apply R.ice (hp := hrf) (Arr.all _); intro M2 hM2 hin2)
  have hEf : EnL M2 (.slice Af fs.length cfs) fs := (hof.mono hM2).enL hin2
  have hM12 := hM1.trans_ hM2
  replace hf := hf.mono hM12
  replace hfo := hfo.mono hM12
  replace hT := hT.mono hM12
  obtain ⟨Aq, cq, vq, e9, k9, k10, p9, q9⟩ := id hEf
  cases e9
  clear hin2
  (repeat' (first | refine a_go ?_ | (refine a_kn ?_; intro _ _) | (refine a_bz ?_; intro bz) | (refine a_bx ?_; intro bx) | (refine a_ba ?_; intro ba) | (refine a_bl ?_; intro bl) | (refine a_sp ?_ ?_; intro h; rotate_left; intro h; rotate_left) | fail))
  apply C.loop (fun y : RkX => (y.i : Int) = y.ii ∧ y.i ≤ fs.length ∧ M2.le y.M ∧ Own 37 2 y.v y.es.length (y.es.map feC).flatten y.hp ∧ EsOk y.M y.es ∧ y.es.length ≤ y.i ∧ smF (200 * y.i) y.es)
    (fun y => [(0, .slice F fes.length cf), (2, .slice T ats.length ct), (3, .int .i64 lim), (9, y.v), (10, .slice Af fs.length cfs), (11, .int .i64 y.ii)]) (fun y => y.M) (fun y => y.hp ++ H) (fun y => fs.length - y.i) ⟨0, 0, .slice none 0 0, [], [], M2⟩
  · exact ⟨rfl, Nat.zero_le _, Mem.le_refl _, Own.nil _ _, fun e h => absurd h List.not_mem_nil, Nat.le_refl _, fun e h => absurd h List.not_mem_nil⟩
  · (exact a_subs)
  · exact rfl
  · exact rfl
  rintro ⟨i, ii, v, es, hp, M3⟩ ⟨hii, hi, hM3, hown, heo, hel, hsm⟩
  dsimp only at hii hi hM3 hown heo hel hsm ⊢
  obtain ⟨Av, cv, rfl, v1, v2⟩ := hown.form
  by_cases hlt : i < fs.length
  · obtain ⟨b2, o2, c2, e2, fr2, Ai, ci, hAf, hMb2, hcell2, _, i1, i2, i3⟩ := en_at p9 q9 hlt
    rw [show o2 + i * 5 = o2 + ii.toNat * 5 by omega] at hcell2
    have hE := hfent _ (List.getElem_mem hlt)
    generalize fs[i] = x at hcell2 i1 i3 hE
    have hMb2' := hM3.2.2 _ _ hMb2
    have hxk := (entS_kind hE).2.2.2.2.2
    have hz := layF_len hE
    rw [hAf]
    (repeat' (first | refine a_mv ?_ | (apply R.step; (exact a_cmp); exact rfl) | (apply R.step; (first | (apply Ok.indexAddr; exact rfl; exact rfl; omega; omega) | (apply Ok.loadAggP (vs := ecells x (.slice Ai x.data.length ci)); exact rfl; exact rfl; exact hMb2'; exact rfl; exact hcell2)); exact rfl) | refine a_go ?_ | (refine a_kn ?_; intro _ _) | (refine a_bz ?_; intro bz) | (refine a_bx ?_; intro bx) | (refine a_ba ?_; intro ba) | (refine a_bl ?_; intro bl) | (refine a_sp ?_ ?_; intro h; rotate_left; intro h; rotate_left) | fail))
    (apply R.call; (exact a_evs); exact rfl; exact r5layEntry_K (e := x) (i3.mono hM3); rintro _ M4 _ ⟨hM4, rfl, hL2⟩)
    rcases hL2 with ⟨_, w, rfl, hw⟩ | ⟨hno, _⟩
    rotate_left
    · exact absurd hE hno
    obtain ⟨Aw, cw, rfl, w1, w2, w3⟩ := id hw
    (repeat' (first | refine a_go ?_ | (refine a_kn ?_; intro _ _) | (refine a_bz ?_; intro bz) | (refine a_bx ?_; intro bx) | (refine a_ba ?_; intro ba) | (refine a_bl ?_; intro bl) | (refine a_sp ?_ ?_; intro h; rotate_left; intro h; rotate_left) | fail))
    (apply R.call; (exact a_evs); exact rfl; exact rframe_KF w3 rfl (by omega); rintro _ M5 _ ⟨hfw, hM5, rfl⟩)
    obtain ⟨Ax, cx, rfl, f1, f2, f3⟩ := id hfw
    have hM35 := hM4.trans_ hM5
    have hMb5 := hM35.2.2 _ _ hMb2'
    have hidx : c2[o2 + ii.toNat * 5 + 2]? = some (.int .u64 x.idx) := hcell2 2 _ rfl
    have hxi : ((x.idx.toNat : Nat) : Int) = x.idx := Int.toNat_of_nonneg (by omega)
    have hKn : K Tryz.prog 9 [.int .u64 x.idx] M5 (hp ++ H) fun v' M' H' => v' = str (nameS x.idx.toNat) ∧ M' = M5 ∧ H' = hp ++ H := by
      have := rName_K (M := M5) (H := hp ++ H) (n := x.idx.toNat) (by omega)
      rw [hxi] at this
      exact this
    have hnl := nameS_len (n := x.idx.toNat) (by omega)
    (repeat' (first | refine a_g0 ?_ | (refine a_kr ?_; intro _ _) | (refine a_bz ?_; intro bz) | (refine a_bx ?_; intro bx) | (refine a_ba ?_; intro ba) | (refine a_bl ?_; intro bl) | (refine a_s3 ?_ ?_; intro h; rotate_left; intro h; rotate_left) | fail))
    apply C.seqCut (X := RkX) (fun y => (y.ii = (y.es.length : Int) ∧ 0 < y.es.length) ∧ y.es.length ≤ i + 1 ∧ M2.le y.M ∧ Own 37 2 y.v y.es.length (y.es.map feC).flatten y.hp ∧ EsOk M5 y.es ∧ smF (200 * i) y.es ∧ M3.le y.M)
      (fun y => [(0, .slice F fes.length cf), (2, .slice T ats.length ct), (3, .int .i64 lim), (9, y.v), (10, .slice (some ⟨b2, o2, none⟩) fs.length cfs), (11, .int .i64 ii), (14, .slice Ax (frameS (layE x)).length cx), (15, .int .i64 y.ii)]) (fun y => M5) (fun y => y.hp ++ H)
    · by_cases hn0 : es.length = 0
      · (repeat' (first | refine a_mv ?_ | (apply R.step; (exact a_cmp); exact rfl) | (apply R.step; (apply Ok.eqIR; exact rfl; exact rfl; omega); exact rfl) | (apply R.step; (first | (apply Ok.indexAddr; exact rfl; exact rfl; omega; omega) | (apply Ok.loadP; exact rfl; exact rfl; exact hMb5; exact hidx)); exact rfl) | refine a_go ?_ | (refine a_kn ?_; intro _ _) | (refine a_bz ?_; intro bz) | (refine a_bx ?_; intro bx) | (refine a_ba ?_; intro ba) | (refine a_bl ?_; intro bl) | (refine a_sp ?_ ?_; intro h; rotate_left; intro h; rotate_left) | fail))
        all_goals (first | (exfalso; omega) | skip)
        (apply R.call; (exact a_evs); exact rfl; exact hKn; rintro _ M5 _ ⟨rfl, rfl, rfl⟩)
        (repeat' (first | refine a_go ?_ | (refine a_kn ?_; intro _ _) | (refine a_bz ?_; intro bz) | (refine a_bx ?_; intro bx) | (refine a_ba ?_; intro ba) | (refine a_bl ?_; intro bl) | (refine a_sp ?_ ?_; intro h; rotate_left; intro h; rotate_left) | fail))
        (apply R.append (news := feC ⟨nameS x.idx.toNat, .slice none 0 0, []⟩) (k := 1); exact rfl; exact rfl; exact hown; (exact a_tk); exact Rd.at_ (l := feC ⟨nameS x.idx.toNat, .slice none 0 0, []⟩) (by (exact a_at)) (fun j u h => by rw [Nat.zero_add]; exact h); exact rfl; (intro u hu; rcases List.mem_cons.mp hu with rfl | hu; exact rfl; rw [List.mem_singleton] at hu; subst hu; rfl); omega; exact rfl; decide; decide; exact rfl; rintro v5 hp5 hown5)
        (repeat' (first | refine a_go ?_ | (refine a_kn ?_; intro _ _) | (refine a_bz ?_; intro bz) | (refine a_bx ?_; intro bx) | (refine a_ba ?_; intro ba) | (refine a_bl ?_; intro bl) | (refine a_sp ?_ ?_; intro h; rotate_left; intro h; rotate_left) | fail))
        (apply Fin.arr (H2 := hp5 ++ H); (exact a_arrs))
        refine Fin.join (⟨0, (es.length : Int) + 1, v5, es ++ [⟨nameS x.idx.toNat, .slice none 0 0, []⟩], hp5, M5⟩ : RkX) ⟨⟨by dsimp only; rw [List.length_append]; rfl, by dsimp only; rw [List.length_append]; exact Nat.zero_lt_succ _⟩, by dsimp only; rw [List.length_append]; show es.length + 1 ≤ _; omega, hM3.trans_ hM35, ?_, ?_, ?_, hM35⟩ ?_ rfl rfl
        · dsimp only
          rw [List.length_append, List.map_append, List.flatten_append]
          exact hown5
        · intro e he
          rcases List.mem_append.1 he with he | he
          · exact (heo e he).mono hM35
          · rw [List.mem_singleton] at he
            subst he
            exact PlB.nil1
        · intro e he
          rcases List.mem_append.1 he with he | he
          · exact hsm e he
          · rw [List.mem_singleton] at he
            subst he
            exact ⟨by show (nameS x.idx.toNat).length ≤ _; rw [hnl]; decide, Nat.zero_le _⟩
        (exact a_subs)
      · by_cases ha : i < ats.length
        · obtain ⟨a0, ha0⟩ : ∃ a0, a0 = ats[i] := ⟨_, rfl⟩
          have hca : (ats.map fun n : Int => Value.int .i64 n)[i]? = some (.int .i64 a0) := by rw [List.getElem?_map, List.getElem?_eq_getElem ha, ha0]; rfl
          obtain ⟨b9, o9, c9, e9, fr9, hT9, hMb9, hcell9⟩ := hT.get hca
          rw [show o9 + i = o9 + ii.toNat * 1 by omega] at hcell9
          have hMb9' := (hM3.trans_ hM35).2.2 _ _ hMb9
          rw [hT9]
          (repeat' (first | refine a_mv ?_ | (apply R.step; (exact a_cmp); exact rfl) | (apply R.step; (first | (apply Ok.eqIF; exact rfl; exact rfl; omega) | (apply Ok.rem; exact rfl; exact rfl; decide)); exact rfl) | (apply R.step; (first | (apply Ok.indexAddr; exact rfl; exact rfl; omega; omega) | (apply Ok.loadP; exact rfl; exact rfl; exact hMb9'; exact hcell9)); exact rfl) | refine a_go ?_ | (refine a_kn ?_; intro _ _) | (refine a_bz ?_; intro bz) | (refine a_bx ?_; intro bx) | (refine a_ba ?_; intro ba) | (refine a_bl ?_; intro bl) | (refine a_sp ?_ ?_; intro h; rotate_left; intro h; rotate_left) | fail))
          all_goals (first | (exfalso; omega) | skip)
          · skip
            (apply R.call; (exact a_evs); exact rfl; exact hKn; rintro _ M5 _ ⟨rfl, rfl, rfl⟩)
            (repeat' (first | refine a_go ?_ | (refine a_kn ?_; intro _ _) | (refine a_bz ?_; intro bz) | (refine a_bx ?_; intro bx) | (refine a_ba ?_; intro ba) | (refine a_bl ?_; intro bl) | (refine a_sp ?_ ?_; intro h; rotate_left; intro h; rotate_left) | fail))
            (apply R.append (news := feC ⟨nameS x.idx.toNat, .slice none 0 0, []⟩) (k := 1); exact rfl; exact rfl; exact hown; (exact a_tk); exact Rd.at_ (l := feC ⟨nameS x.idx.toNat, .slice none 0 0, []⟩) (by (exact a_at)) (fun j u h => by rw [Nat.zero_add]; exact h); exact rfl; (intro u hu; rcases List.mem_cons.mp hu with rfl | hu; exact rfl; rw [List.mem_singleton] at hu; subst hu; rfl); omega; exact rfl; decide; decide; exact rfl; rintro v5 hp5 hown5)
            (repeat' (first | refine a_go ?_ | (refine a_kn ?_; intro _ _) | (refine a_bz ?_; intro bz) | (refine a_bx ?_; intro bx) | (refine a_ba ?_; intro ba) | (refine a_bl ?_; intro bl) | (refine a_sp ?_ ?_; intro h; rotate_left; intro h; rotate_left) | fail))
            (apply Fin.arr (H2 := hp5 ++ H); (exact a_arrs))
            refine Fin.join (⟨0, (es.length : Int) + 1, v5, es ++ [⟨nameS x.idx.toNat, .slice none 0 0, []⟩], hp5, M5⟩ : RkX) ⟨⟨by dsimp only; rw [List.length_append]; rfl, by dsimp only; rw [List.length_append]; exact Nat.zero_lt_succ _⟩, by dsimp only; rw [List.length_append]; show es.length + 1 ≤ _; omega, hM3.trans_ hM35, ?_, ?_, ?_, hM35⟩ ?_ rfl rfl
            · dsimp only
              rw [List.length_append, List.map_append, List.flatten_append]
              exact hown5
            · intro e he
              rcases List.mem_append.1 he with he | he
              · exact (heo e he).mono hM35
              · rw [List.mem_singleton] at he
                subst he
                exact PlB.nil1
            · intro e he
              rcases List.mem_append.1 he with he | he
              · exact hsm e he
              · rw [List.mem_singleton] at he
                subst he
                exact ⟨by show (nameS x.idx.toNat).length ≤ _; rw [hnl]; decide, Nat.zero_le _⟩
            (exact a_subs)
          · skip
            refine Fin.join (⟨0, (es.length : Int), .slice Av es.length cv, es, hp, M5⟩ : RkX) ⟨⟨rfl, by dsimp only; omega⟩, by dsimp only; omega, hM3.trans_ hM35, hown, heo.mono hM35, hsm, hM35⟩ ?_ rfl rfl
            (exact a_subs)
        · (repeat' (first | refine a_mv ?_ | (apply R.step; (exact a_cmp); exact rfl) | (apply R.step; (first | (apply Ok.eqIF; exact rfl; exact rfl; omega)); exact rfl) | refine a_go ?_ | (refine a_kn ?_; intro _ _) | (refine a_bz ?_; intro bz) | (refine a_bx ?_; intro bx) | (refine a_ba ?_; intro ba) | (refine a_bl ?_; intro bl) | (refine a_sp ?_ ?_; intro h; rotate_left; intro h; rotate_left) | fail))
          all_goals (first | (exfalso; omega) | skip)
          refine Fin.join (⟨0, (es.length : Int), .slice Av es.length cv, es, hp, M5⟩ : RkX) ⟨⟨rfl, by dsimp only; omega⟩, by dsimp only; omega, hM3.trans_ hM35, hown, heo.mono hM35, hsm, hM35⟩ ?_ rfl rfl
          (exact a_subs)
    rintro ⟨_, n6, v6, es6, hp6, _⟩ ⟨⟨hn6, h60⟩, h6l, _, hown6, heo6, hsm6, _⟩
    dsimp only at hn6 h60 h6l hown6 heo6 hsm6 ⊢
    obtain ⟨b6, cap6, l6, rfl, rfl, r1, r2, r3, r4, r5, r6, _⟩ := fileRow hown6 (k := es6.length - 1) (by omega)
    have hlast := hsm6 _ (List.getElem_mem (show es6.length - 1 < es6.length by omega))
    have hlo := heo6 _ (List.getElem_mem (show es6.length - 1 < es6.length by omega))
    generalize es6[es6.length - 1]'(by omega) = z at r4 r5 r6 hlast hlo
    obtain ⟨zn, zv, zb⟩ := z
    dsimp only at r4 r5 r6 hlast hlo
    obtain ⟨Az, cz, rfl, z1, z2, z3⟩ := id hlo
    have hll : n6 - 1 = ((es6.length - 1 : Nat) : Int) := by omega
    have r5' : l6[0 + ((es6.length - 1 : Nat) : Int).toNat * 2 + 1]? = some (.slice Az zb.length cz) := by rw [Int.toNat_natCast, Nat.zero_add]; exact r5
    (repeat' (first | refine a_mv ?_ | (apply R.step; (first | (apply Ok.subQ ((es6.length - 1 : Nat) : Int); exact rfl; exact rfl; exact hll; apply w64; omega; omega) | (apply Ok.indexAddr; exact rfl; exact rfl; omega; omega) | (apply Ok.load; exact rfl; exact rfl; (exact a_at); exact r5')); exact rfl) | refine a_go ?_ | (refine a_kn ?_; intro _ _) | (refine a_bz ?_; intro bz) | (refine a_bx ?_; intro bx) | (refine a_ba ?_; intro ba) | (refine a_bl ?_; intro bl) | (refine a_sp ?_ ?_; intro h; rotate_left; intro h; rotate_left) | fail))
    (apply R.append (news := zb.map bv) (k := zb.length); exact rfl; exact rfl; exact Own.empty; (exact a_tk); exact Pl.rd (show Pl M5 Az (zb.map bv) from z3); (rw [List.length_map, Nat.mul_one]); exact bv_one _; omega; exact rfl; decide; decide; exact rfl; rintro v7 hp7 hown7)
    rw [List.nil_append, Nat.zero_add] at hown7
    obtain ⟨A7, c7, rfl, _, _⟩ := hown7.form
    (repeat' (first | refine a_go ?_ | (refine a_kn ?_; intro _ _) | (refine a_bz ?_; intro bz) | (refine a_bx ?_; intro bx) | (refine a_ba ?_; intro ba) | (refine a_bl ?_; intro bl) | (refine a_sp ?_ ?_; intro h; rotate_left; intro h; rotate_left) | fail))
    (apply R.append (news := (frameS (layE x)).map bv) (k := (frameS (layE x)).length); exact rfl; exact rfl; exact hown7; (exact a_tk); exact Pl.rd f3; (rw [List.length_map, Nat.mul_one]); exact bv_one _; omega; exact rfl; decide; decide; exact rfl; rintro v8 hp8 hown8)
    rw [← List.map_append, ← List.length_append] at hown8
    obtain ⟨A8, c8, rfl, _, _⟩ := hown8.form
    apply R.ice (hp := hp8) (H1 := (b6, .cells l6.toArray 37 (0, 0)) :: H) (by (exact a_arrs))
    intro M8 hM8 hin8
    have hb8 := hown8.plB hin8
    have hfl3 : (zb ++ frameS (layE x)).length ≤ 200 * (i + 1) := by rw [List.length_append]; omega
    have hown9 := r6 (.slice A8 (zb ++ frameS (layE x)).length c8) (zb ++ frameS (layE x))
    have hM58 := hM3.trans_ (hM35.trans_ hM8)
    have hsm7 : smF (200 * (i + 1)) es6 := hsm6.mono (by omega)
    generalize zb ++ frameS (layE x) = zf at hb8 hfl3 hown9
    (repeat' (first | refine a_mv ?_ | (apply R.step; (apply Ok.indexAddr; exact rfl; exact rfl; omega; omega); exact rfl) | refine a_go ?_ | (refine a_kn ?_; intro _ _) | (refine a_bz ?_; intro bz) | (refine a_bx ?_; intro bx) | (refine a_ba ?_; intro ba) | (refine a_bl ?_; intro bl) | (refine a_sp ?_ ?_; intro h; rotate_left; intro h; rotate_left) | fail))
    (apply R.storeI (v := .slice A8 zf.length c8); exact rfl; exact rfl; exact rfl; (exact a_at); (rw [Int.toNat_natCast]; omega); exact rfl)
    rw [Int.toNat_natCast, Nat.zero_add]
    (repeat' (first | refine a_go ?_ | (refine a_kn ?_; intro _ _) | (refine a_bz ?_; intro bz) | (refine a_bx ?_; intro bx) | (refine a_ba ?_; intro ba) | (refine a_bl ?_; intro bl) | (refine a_sp ?_ ?_; intro h; rotate_left; intro h; rotate_left) | fail))
    (apply Fin.arr (H2 := [(b6, .cells (l6.set ((es6.length - 1) * 2 + 1) (.slice A8 zf.length c8)).toArray 37 (0, 0))] ++ H); (exact a_arrs))
    refine Fin.again (⟨i + 1, ii + 1, .slice (some ⟨b6, 0, none⟩) es6.length cap6, es6.set (es6.length - 1) ⟨zn, .slice A8 zf.length c8, zf⟩, [(b6, .cells (l6.set ((es6.length - 1) * 2 + 1) (.slice A8 zf.length c8)).toArray 37 (0, 0))], M8⟩ : RkX) ⟨by dsimp only; omega, by dsimp only; omega, hM58, hown9, EsOk.set (heo6.mono hM8) hb8, by dsimp only; rw [List.length_set]; exact h6l, smF.set hsm7 hlast.1 hfl3⟩ (by dsimp only; omega) ?_ rfl rfl
    (exact a_subs)
  have hie : i = fs.length := by omega
  have hi20 : i ≤ 20 := by omega
  have hsm4 : smF 4000 es := hsm.mono (by omega)
  have hes20 : es.length ≤ 20 := by omega
  clear hsm
  (repeat' (first | refine a_mv ?_ | (apply R.step; (exact a_cmp); exact rfl) | refine a_go ?_ | (refine a_kn ?_; intro _ _) | (refine a_bz ?_; intro bz) | (refine a_bx ?_; intro bx) | (refine a_ba ?_; intro ba) | (refine a_bl ?_; intro bl) | (refine a_sp ?_ ?_; intro h; rotate_left; intro h; rotate_left) | fail))
  apply C.loop (fun y : RkX => (y.i : Int) = y.ii ∧ y.i ≤ 3 ∧ y.i ≤ fes.length ∧ M2.le y.M ∧ Own 37 2 y.v y.es.length (y.es.map feC).flatten y.hp ∧ EsOk y.M y.es ∧ y.es.length ≤ 20 + y.i ∧ smF (1048576 + 1048576 * y.i) y.es)
    (fun y => [(0, .slice F fes.length cf), (3, .int .i64 lim), (9, y.v), (16, .int .i64 y.ii)]) (fun y => y.M) (fun y => y.hp ++ H) (fun y => 3 - y.i) ⟨0, 0, .slice Av es.length cv, es, hp, M3⟩
  · exact ⟨rfl, Nat.zero_le _, Nat.zero_le _, hM3, hown, heo, by dsimp only; omega, hsm4.mono (by dsimp only; omega)⟩
  · (exact a_subs)
  · exact rfl
  · exact rfl
  clear hown heo hel hsm4 hes20 hM3 v1 v2
  rintro ⟨k, kk, v, es, hp, M3⟩ ⟨hkk, hk3, hkf, hM3, hown, heo, hel, hsm⟩
  dsimp only at hkk hk3 hkf hM3 hown heo hel hsm ⊢
  obtain ⟨Av, cv, rfl, v1, v2⟩ := hown.form
  by_cases hgo : k < fes.length ∧ k < 3 ∧ 0 < es.length
  rotate_left
  · have hle : k ≤ fes.length := hkf
    by_cases h1 : k < fes.length
    · by_cases h2 : k < 3
      · have h3 : es.length = 0 := by
          apply Classical.byContradiction
          intro h
          exact hgo ⟨h1, h2, by omega⟩
        (repeat' (first | refine a_mv ?_ | (apply R.step; (exact a_cmp); exact rfl) | refine a_go ?_ | (refine a_kn ?_; intro _ _) | (refine a_bz ?_; intro bz) | (refine a_bx ?_; intro bx) | (refine a_ba ?_; intro ba) | (refine a_bl ?_; intro bl) | (refine a_sp ?_ ?_; intro h; rotate_left; intro h; rotate_left) | fail))
        (apply R.ice (hp := hp) (H1 := H) (Arr.all _); intro M4 hM4 hin4)
        have hfs2 := PlFs.mk (cap := cv) v1 (by unfold maxLen at v2; omega) (hown.plIn hin4) (heo.mono hM4)
        (apply R.call; (exact a_evs); exact rfl; exact pair_K (room := 1048576) (by decide) (by decide) hfs2 (fun q hq => by (obtain ⟨e, he, rfl⟩ := List.mem_map.mp hq; have h := hsm e he; exact ⟨Nat.le_trans h.1 (by decide), Nat.le_trans h.2 (by omega)⟩)); rintro _ M5 _ ⟨db, rb, hpd, hqd, rfl, hM5, ho, hr, rfl⟩)
        have hszd : szD (pairD 1048576 (es.map feP)) ≤ 40 := by
          have h1 := synD_sz (appsD (newD 1048576) ((es.map feP).take 20))
          have h2 := appsD_sz ((es.map feP).take 20) (newD 1048576)
          have h3 : szD (newD 1048576) = 0 := rfl
          have h4 : ((es.map feP).take 20).length ≤ 20 := by rw [List.length_take]; omega
          show szD (synD (appsD (newD 1048576) ((es.map feP).take 20))) ≤ 40
          omega
        generalize pairD 1048576 (es.map feP) = d at ho hr hszd
        (repeat' (first | refine a_go ?_ | (refine a_kn ?_; intro _ _) | (refine a_bz ?_; intro bz) | (refine a_bx ?_; intro bx) | (refine a_ba ?_; intro ba) | (refine a_bl ?_; intro bl) | (refine a_sp ?_ ?_; intro h; rotate_left; intro h; rotate_left) | fail))
        (apply R.call; (exact a_evs); exact rfl; exact known9_K; rintro _ M6 H' ⟨rfl, hM6, e2_⟩)
        subst e2_
        replace ho := ho.mono hM6
        replace hr := hr.mono hM6
        have hnw := now_sz d
        have hpw := ps_sz d
        obtain ⟨o1, o2', o3⟩ := openS_is ho.isok
        (repeat' (first | refine a_go ?_ | (refine a_kn ?_; intro _ _) | (refine a_bz ?_; intro bz) | (refine a_bx ?_; intro bx) | (refine a_ba ?_; intro ba) | (refine a_bl ?_; intro bl) | (refine a_sp ?_ ?_; intro h; rotate_left; intro h; rotate_left) | fail))
        (apply R.call; (exact a_evs); exact rfl; exact sopen_K (lim := lim) hlim2 ho (by omega) (by omega); rintro _ M7 _ ⟨hM7, hp7, ho7, hcase⟩)
        have hMM := hM12.trans_ (hM3.trans_ (hM4.trans_ (hM5.trans_ (hM6.trans_ hM7))))
        rcases hcase with ⟨hne, rfl, rfl⟩ | ⟨hz, lb, hL, rfl, hgl, rfl⟩
        · (repeat' (first | refine a_go ?_ | (refine a_kn ?_; intro _ _) | (refine a_bz ?_; intro bz) | (refine a_bx ?_; intro bx) | (refine a_ba ?_; intro ba) | (refine a_bl ?_; intro bl) | (refine a_sp ?_ ?_; intro h; rotate_left; intro h; rotate_left) | fail))
          apply R.arr (H2 := hqd ++ (hp7 ++ H)) (by (exact a_arrs))
          (apply R.call; (exact a_evs); exact rfl; exact rOpenLog_K (lim := lim) hlim2 (hr.mono hM7) (by omega); rintro _ M8 _ ⟨hM8, hq8, hr8, hcase8⟩)
          rcases hcase8 with ⟨_, rfl, rfl⟩ | ⟨hz8, _⟩
          rotate_left
          · exact absurd hz8 hne
          (repeat' (first | refine a_mv ?_ | (apply R.step; (first | (apply Ok.neIR; exact rfl; exact rfl; exact rfl) | (apply Ok.neIT; exact rfl; exact rfl; exact hne) | (apply Ok.eqPNN; exact rfl; exact rfl)); exact rfl) | refine a_go ?_ | (refine a_kn ?_; intro _ _) | (refine a_bz ?_; intro bz) | (refine a_bx ?_; intro bx) | (refine a_ba ?_; intro ba) | (refine a_bl ?_; intro bl) | (refine a_sp ?_ ?_; intro h; rotate_left; intro h; rotate_left) | fail))
          (apply Fin.returnA (H2 := H); assumption; (first | exact .inl rfl | exact .inr rfl); exact rfl; (exact a_res); (simp only [retv]; rfl); (exact a_arr))
          exact ⟨rfl, hMM.trans_ hM8⟩
        · (repeat' (first | refine a_go ?_ | (refine a_kn ?_; intro _ _) | (refine a_bz ?_; intro bz) | (refine a_bx ?_; intro bx) | (refine a_ba ?_; intro ba) | (refine a_bl ?_; intro bl) | (refine a_sp ?_ ?_; intro h; rotate_left; intro h; rotate_left) | fail))
          apply R.arr (H2 := hqd ++ (hL ++ (hp7 ++ H))) (by (exact a_arrs))
          (apply R.call; (exact a_evs); exact rfl; exact rOpenLog_K (lim := lim) hlim2 (hr.mono hM7) (by omega); rintro _ M8 _ ⟨hM8, hq8, hr8, hcase8⟩)
          rcases hcase8 with ⟨hne8, _⟩ | ⟨_, lq, hR, rfl, hgr, rfl⟩
          · exact absurd hz hne8
          have hos := openS_sz d
          have hlb := list_bd o2'
          (repeat' (first | refine a_mv ?_ | (apply R.step; (first | (apply Ok.neIR; exact rfl; exact rfl; exact rfl) | (apply Ok.eqPN; exact rfl; exact rfl) | (apply Ok.neBoS; exact rfl; exact rfl)); exact rfl) | refine a_go ?_ | (refine a_kn ?_; intro _ _) | (refine a_bz ?_; intro bz) | (refine a_bx ?_; intro bx) | (refine a_ba ?_; intro ba) | (refine a_bl ?_; intro bl) | (refine a_sp ?_ ?_; intro h; rotate_left; intro h; rotate_left) | fail))
          apply R.arr (H2 := hp7 ++ (hq8 ++ (hL ++ (hR ++ H)))) (by (exact a_arrs))
          (apply R.call; (exact a_evs); exact rfl; exact lawSame9_K (ho7.mono hM8) hr8 (hgl.mono hM8) hgr o1.sgs (by omega) o1.first (by omega); rintro _ M9 _ ⟨rfl, hM9, rfl⟩)
          (repeat' (first | refine a_go ?_ | (refine a_kn ?_; intro _ _) | (refine a_bz ?_; intro bz) | (refine a_bx ?_; intro bx) | (refine a_ba ?_; intro ba) | (refine a_bl ?_; intro bl) | (refine a_sp ?_ ?_; intro h; rotate_left; intro h; rotate_left) | fail))
          (apply Fin.returnA (H2 := H); assumption; (first | exact .inl rfl | exact .inr rfl); exact rfl; (exact a_res); (simp only [retv]; rfl); (exact a_arr))
          exact ⟨rfl, hMM.trans_ (hM8.trans_ hM9)⟩
      · (repeat' (first | refine a_mv ?_ | (apply R.step; (exact a_cmp); exact rfl) | refine a_go ?_ | (refine a_kn ?_; intro _ _) | (refine a_bz ?_; intro bz) | (refine a_bx ?_; intro bx) | (refine a_ba ?_; intro ba) | (refine a_bl ?_; intro bl) | (refine a_sp ?_ ?_; intro h; rotate_left; intro h; rotate_left) | fail))
        (apply R.ice (hp := hp) (H1 := H) (Arr.all _); intro M4 hM4 hin4)
        have hfs2 := PlFs.mk (cap := cv) v1 (by unfold maxLen at v2; omega) (hown.plIn hin4) (heo.mono hM4)
        (apply R.call; (exact a_evs); exact rfl; exact pair_K (room := 1048576) (by decide) (by decide) hfs2 (fun q hq => by (obtain ⟨e, he, rfl⟩ := List.mem_map.mp hq; have h := hsm e he; exact ⟨Nat.le_trans h.1 (by decide), Nat.le_trans h.2 (by omega)⟩)); rintro _ M5 _ ⟨db, rb, hpd, hqd, rfl, hM5, ho, hr, rfl⟩)
        have hszd : szD (pairD 1048576 (es.map feP)) ≤ 40 := by
          have h1 := synD_sz (appsD (newD 1048576) ((es.map feP).take 20))
          have h2 := appsD_sz ((es.map feP).take 20) (newD 1048576)
          have h3 : szD (newD 1048576) = 0 := rfl
          have h4 : ((es.map feP).take 20).length ≤ 20 := by rw [List.length_take]; omega
          show szD (synD (appsD (newD 1048576) ((es.map feP).take 20))) ≤ 40
          omega
        generalize pairD 1048576 (es.map feP) = d at ho hr hszd
        (repeat' (first | refine a_go ?_ | (refine a_kn ?_; intro _ _) | (refine a_bz ?_; intro bz) | (refine a_bx ?_; intro bx) | (refine a_ba ?_; intro ba) | (refine a_bl ?_; intro bl) | (refine a_sp ?_ ?_; intro h; rotate_left; intro h; rotate_left) | fail))
        (apply R.call; (exact a_evs); exact rfl; exact known9_K; rintro _ M6 H' ⟨rfl, hM6, e2_⟩)
        subst e2_
        replace ho := ho.mono hM6
        replace hr := hr.mono hM6
        have hnw := now_sz d
        have hpw := ps_sz d
        obtain ⟨o1, o2', o3⟩ := openS_is ho.isok
        (repeat' (first | refine a_go ?_ | (refine a_kn ?_; intro _ _) | (refine a_bz ?_; intro bz) | (refine a_bx ?_; intro bx) | (refine a_ba ?_; intro ba) | (refine a_bl ?_; intro bl) | (refine a_sp ?_ ?_; intro h; rotate_left; intro h; rotate_left) | fail))
        (apply R.call; (exact a_evs); exact rfl; exact sopen_K (lim := lim) hlim2 ho (by omega) (by omega); rintro _ M7 _ ⟨hM7, hp7, ho7, hcase⟩)
        have hMM := hM12.trans_ (hM3.trans_ (hM4.trans_ (hM5.trans_ (hM6.trans_ hM7))))
        rcases hcase with ⟨hne, rfl, rfl⟩ | ⟨hz, lb, hL, rfl, hgl, rfl⟩
        · (repeat' (first | refine a_go ?_ | (refine a_kn ?_; intro _ _) | (refine a_bz ?_; intro bz) | (refine a_bx ?_; intro bx) | (refine a_ba ?_; intro ba) | (refine a_bl ?_; intro bl) | (refine a_sp ?_ ?_; intro h; rotate_left; intro h; rotate_left) | fail))
          apply R.arr (H2 := hqd ++ (hp7 ++ H)) (by (exact a_arrs))
          (apply R.call; (exact a_evs); exact rfl; exact rOpenLog_K (lim := lim) hlim2 (hr.mono hM7) (by omega); rintro _ M8 _ ⟨hM8, hq8, hr8, hcase8⟩)
          rcases hcase8 with ⟨_, rfl, rfl⟩ | ⟨hz8, _⟩
          rotate_left
          · exact absurd hz8 hne
          (repeat' (first | refine a_mv ?_ | (apply R.step; (first | (apply Ok.neIR; exact rfl; exact rfl; exact rfl) | (apply Ok.neIT; exact rfl; exact rfl; exact hne) | (apply Ok.eqPNN; exact rfl; exact rfl)); exact rfl) | refine a_go ?_ | (refine a_kn ?_; intro _ _) | (refine a_bz ?_; intro bz) | (refine a_bx ?_; intro bx) | (refine a_ba ?_; intro ba) | (refine a_bl ?_; intro bl) | (refine a_sp ?_ ?_; intro h; rotate_left; intro h; rotate_left) | fail))
          (apply Fin.returnA (H2 := H); assumption; (first | exact .inl rfl | exact .inr rfl); exact rfl; (exact a_res); (simp only [retv]; rfl); (exact a_arr))
          exact ⟨rfl, hMM.trans_ hM8⟩
        · (repeat' (first | refine a_go ?_ | (refine a_kn ?_; intro _ _) | (refine a_bz ?_; intro bz) | (refine a_bx ?_; intro bx) | (refine a_ba ?_; intro ba) | (refine a_bl ?_; intro bl) | (refine a_sp ?_ ?_; intro h; rotate_left; intro h; rotate_left) | fail))
          apply R.arr (H2 := hqd ++ (hL ++ (hp7 ++ H))) (by (exact a_arrs))
          (apply R.call; (exact a_evs); exact rfl; exact rOpenLog_K (lim := lim) hlim2 (hr.mono hM7) (by omega); rintro _ M8 _ ⟨hM8, hq8, hr8, hcase8⟩)
          rcases hcase8 with ⟨hne8, _⟩ | ⟨_, lq, hR, rfl, hgr, rfl⟩
          · exact absurd hz hne8
          have hos := openS_sz d
          have hlb := list_bd o2'
          (repeat' (first | refine a_mv ?_ | (apply R.step; (first | (apply Ok.neIR; exact rfl; exact rfl; exact rfl) | (apply Ok.eqPN; exact rfl; exact rfl) | (apply Ok.neBoS; exact rfl; exact rfl)); exact rfl) | refine a_go ?_ | (refine a_kn ?_; intro _ _) | (refine a_bz ?_; intro bz) | (refine a_bx ?_; intro bx) | (refine a_ba ?_; intro ba) | (refine a_bl ?_; intro bl) | (refine a_sp ?_ ?_; intro h; rotate_left; intro h; rotate_left) | fail))
          apply R.arr (H2 := hp7 ++ (hq8 ++ (hL ++ (hR ++ H)))) (by (exact a_arrs))
          (apply R.call; (exact a_evs); exact rfl; exact lawSame9_K (ho7.mono hM8) hr8 (hgl.mono hM8) hgr o1.sgs (by omega) o1.first (by omega); rintro _ M9 _ ⟨rfl, hM9, rfl⟩)
          (repeat' (first | refine a_go ?_ | (refine a_kn ?_; intro _ _) | (refine a_bz ?_; intro bz) | (refine a_bx ?_; intro bx) | (refine a_ba ?_; intro ba) | (refine a_bl ?_; intro bl) | (refine a_sp ?_ ?_; intro h; rotate_left; intro h; rotate_left) | fail))
          (apply Fin.returnA (H2 := H); assumption; (first | exact .inl rfl | exact .inr rfl); exact rfl; (exact a_res); (simp only [retv]; rfl); (exact a_arr))
          exact ⟨rfl, hMM.trans_ (hM8.trans_ hM9)⟩
    · (repeat' (first | refine a_mv ?_ | (apply R.step; (exact a_cmp); exact rfl) | refine a_go ?_ | (refine a_kn ?_; intro _ _) | (refine a_bz ?_; intro bz) | (refine a_bx ?_; intro bx) | (refine a_ba ?_; intro ba) | (refine a_bl ?_; intro bl) | (refine a_sp ?_ ?_; intro h; rotate_left; intro h; rotate_left) | fail))
      (apply R.ice (hp := hp) (H1 := H) (Arr.all _); intro M4 hM4 hin4)
      have hfs2 := PlFs.mk (cap := cv) v1 (by unfold maxLen at v2; omega) (hown.plIn hin4) (heo.mono hM4)
      (apply R.call; (exact a_evs); exact rfl; exact pair_K (room := 1048576) (by decide) (by decide) hfs2 (fun q hq => by (obtain ⟨e, he, rfl⟩ := List.mem_map.mp hq; have h := hsm e he; exact ⟨Nat.le_trans h.1 (by decide), Nat.le_trans h.2 (by omega)⟩)); rintro _ M5 _ ⟨db, rb, hpd, hqd, rfl, hM5, ho, hr, rfl⟩)
      have hszd : szD (pairD 1048576 (es.map feP)) ≤ 40 := by
        have h1 := synD_sz (appsD (newD 1048576) ((es.map feP).take 20))
        have h2 := appsD_sz ((es.map feP).take 20) (newD 1048576)
        have h3 : szD (newD 1048576) = 0 := rfl
        have h4 : ((es.map feP).take 20).length ≤ 20 := by rw [List.length_take]; omega
        show szD (synD (appsD (newD 1048576) ((es.map feP).take 20))) ≤ 40
        omega
      generalize pairD 1048576 (es.map feP) = d at ho hr hszd
      (repeat' (first | refine a_go ?_ | (refine a_kn ?_; intro _ _) | (refine a_bz ?_; intro bz) | (refine a_bx ?_; intro bx) | (refine a_ba ?_; intro ba) | (refine a_bl ?_; intro bl) | (refine a_sp ?_ ?_; intro h; rotate_left; intro h; rotate_left) | fail))
      (apply R.call; (exact a_evs); exact rfl; exact known9_K; rintro _ M6 H' ⟨rfl, hM6, e2_⟩)
      subst e2_
      replace ho := ho.mono hM6
      replace hr := hr.mono hM6
      have hnw := now_sz d
      have hpw := ps_sz d
      obtain ⟨o1, o2', o3⟩ := openS_is ho.isok
      (repeat' (first | refine a_go ?_ | (refine a_kn ?_; intro _ _) | (refine a_bz ?_; intro bz) | (refine a_bx ?_; intro bx) | (refine a_ba ?_; intro ba) | (refine a_bl ?_; intro bl) | (refine a_sp ?_ ?_; intro h; rotate_left; intro h; rotate_left) | fail))
      (apply R.call; (exact a_evs); exact rfl; exact sopen_K (lim := lim) hlim2 ho (by omega) (by omega); rintro _ M7 _ ⟨hM7, hp7, ho7, hcase⟩)
      have hMM := hM12.trans_ (hM3.trans_ (hM4.trans_ (hM5.trans_ (hM6.trans_ hM7))))
      rcases hcase with ⟨hne, rfl, rfl⟩ | ⟨hz, lb, hL, rfl, hgl, rfl⟩
      · (repeat' (first | refine a_go ?_ | (refine a_kn ?_; intro _ _) | (refine a_bz ?_; intro bz) | (refine a_bx ?_; intro bx) | (refine a_ba ?_; intro ba) | (refine a_bl ?_; intro bl) | (refine a_sp ?_ ?_; intro h; rotate_left; intro h; rotate_left) | fail))
        apply R.arr (H2 := hqd ++ (hp7 ++ H)) (by (exact a_arrs))
        (apply R.call; (exact a_evs); exact rfl; exact rOpenLog_K (lim := lim) hlim2 (hr.mono hM7) (by omega); rintro _ M8 _ ⟨hM8, hq8, hr8, hcase8⟩)
        rcases hcase8 with ⟨_, rfl, rfl⟩ | ⟨hz8, _⟩
        rotate_left
        · exact absurd hz8 hne
        (repeat' (first | refine a_mv ?_ | (apply R.step; (first | (apply Ok.neIR; exact rfl; exact rfl; exact rfl) | (apply Ok.neIT; exact rfl; exact rfl; exact hne) | (apply Ok.eqPNN; exact rfl; exact rfl)); exact rfl) | refine a_go ?_ | (refine a_kn ?_; intro _ _) | (refine a_bz ?_; intro bz) | (refine a_bx ?_; intro bx) | (refine a_ba ?_; intro ba) | (refine a_bl ?_; intro bl) | (refine a_sp ?_ ?_; intro h; rotate_left; intro h; rotate_left) | fail))
        (apply Fin.returnA (H2 := H); assumption; (first | exact .inl rfl | exact .inr rfl); exact rfl; (exact a_res); (simp only [retv]; rfl); (exact a_arr))
        exact ⟨rfl, hMM.trans_ hM8⟩
      · (repeat' (first | refine a_go ?_ | (refine a_kn ?_; intro _ _) | (refine a_bz ?_; intro bz) | (refine a_bx ?_; intro bx) | (refine a_ba ?_; intro ba) | (refine a_bl ?_; intro bl) | (refine a_sp ?_ ?_; intro h; rotate_left; intro h; rotate_left) | fail))
        apply R.arr (H2 := hqd ++ (hL ++ (hp7 ++ H))) (by (exact a_arrs))
        (apply R.call; (exact a_evs); exact rfl; exact rOpenLog_K (lim := lim) hlim2 (hr.mono hM7) (by omega); rintro _ M8 _ ⟨hM8, hq8, hr8, hcase8⟩)
        rcases hcase8 with ⟨hne8, _⟩ | ⟨_, lq, hR, rfl, hgr, rfl⟩
        · exact absurd hz hne8
        have hos := openS_sz d
        have hlb := list_bd o2'
        (repeat' (first | refine a_mv ?_ | (apply R.step; (first | (apply Ok.neIR; exact rfl; exact rfl; exact rfl) | (apply Ok.eqPN; exact rfl; exact rfl) | (apply Ok.neBoS; exact rfl; exact rfl)); exact rfl) | refine a_go ?_ | (refine a_kn ?_; intro _ _) | (refine a_bz ?_; intro bz) | (refine a_bx ?_; intro bx) | (refine a_ba ?_; intro ba) | (refine a_bl ?_; intro bl) | (refine a_sp ?_ ?_; intro h; rotate_left; intro h; rotate_left) | fail))
        apply R.arr (H2 := hp7 ++ (hq8 ++ (hL ++ (hR ++ H)))) (by (exact a_arrs))
        (apply R.call; (exact a_evs); exact rfl; exact lawSame9_K (ho7.mono hM8) hr8 (hgl.mono hM8) hgr o1.sgs (by omega) o1.first (by omega); rintro _ M9 _ ⟨rfl, hM9, rfl⟩)
        (repeat' (first | refine a_go ?_ | (refine a_kn ?_; intro _ _) | (refine a_bz ?_; intro bz) | (refine a_bx ?_; intro bx) | (refine a_ba ?_; intro ba) | (refine a_bl ?_; intro bl) | (refine a_sp ?_ ?_; intro h; rotate_left; intro h; rotate_left) | fail))
        (apply Fin.returnA (H2 := H); assumption; (first | exact .inl rfl | exact .inr rfl); exact rfl; (exact a_res); (simp only [retv]; rfl); (exact a_arr))
        exact ⟨rfl, hMM.trans_ (hM8.trans_ hM9)⟩
  obtain ⟨hg1, hg2, hg3⟩ := hgo
  obtain ⟨b2, o2, c2, e2, fr2, hF2, hMb2, hcell2⟩ := row_agg hf (feC_two fes) (by decide) (k := k) (by rw [List.length_map]; exact hg1)
  rw [List.getElem_map] at hcell2
  have hfz := hfs _ (List.getElem_mem hg1)
  have hfo2 := hfo _ (List.getElem_mem hg1)
  generalize fes[k] = x at hcell2 hfz hfo2
  obtain ⟨xn, xv, xb⟩ := x
  dsimp only at hcell2 hfz hfo2
  obtain ⟨Ax, cx, rfl, x1, x2, x3⟩ := id hfo2
  have hMb2' := hM3.2.2 _ _ hMb2
  have hcn : c2[o2 + kk.toNat * 2 + 0]? = some (str xn) := by rw [show kk.toNat = k by omega]; exact hcell2 0 _ rfl
  have hcb : c2[o2 + kk.toNat * 2 + 1]? = some (.slice Ax xb.length cx) := by rw [show kk.toNat = k by omega]; exact hcell2 1 _ rfl
  rw [hF2]
  have hnk : (xn.length : Int) + kk = ((xn.length + k : Nat) : Int) := by omega
  (repeat' (first | refine a_mv ?_ | (apply R.step; (exact a_cmp); exact rfl) | (apply R.step; (first | (apply Ok.lenT; exact rfl) | (apply Ok.indexAddr; exact rfl; exact rfl; omega; omega) | (apply Ok.loadP; exact rfl; exact rfl; exact hMb2'; exact hcn) | (apply Ok.addQ ((xn.length + k : Nat) : Int); exact rfl; exact rfl; exact hnk; apply w64; omega; omega)); exact rfl) | refine a_go ?_ | (refine a_kn ?_; intro _ _) | (refine a_bz ?_; intro bz) | (refine a_bx ?_; intro bx) | (refine a_ba ?_; intro ba) | (refine a_bl ?_; intro bl) | (refine a_sp ?_ ?_; intro h; rotate_left; intro h; rotate_left) | fail))
  (apply R.call; (exact a_evs); exact rfl; (first | exact pick_K ((xn.length + k : Nat) : Int) (es.length : Int) (by omega) (by omega)); rintro _ _ _ ⟨rfl, e1_, e2_⟩; replace e1_ := e1_.symm; subst e1_; replace e2_ := e2_.symm; subst e2_)
  obtain ⟨p, hp2⟩ : ∃ p : Nat, (p : Int) = ((xn.length + k : Nat) : Int) % (es.length : Int) := ⟨_, Int.toNat_of_nonneg (Int.emod_nonneg _ (by omega))⟩
  have hpl : p < es.length := by
    have := Int.emod_lt_of_pos ((xn.length + k : Nat) : Int) (show 0 < (es.length : Int) by omega)
    omega
  rw [← hp2]
  clear hp2
  obtain ⟨b6, cap6, l6, hv6, rfl, r1, r2, r3, r4, r5, r6, r7⟩ := fileRow hown (k := p) hpl
  injection hv6 with e1_ e2_ e3_
  subst e1_ e3_
  have hlast := hsm _ (List.getElem_mem hpl)
  have hlo := heo _ (List.getElem_mem hpl)
  generalize es[p] = z at r4 r5 r6 r7 hlast hlo
  obtain ⟨zn, zv, zb⟩ := z
  dsimp only at r4 r5 r6 r7 hlast hlo
  obtain ⟨Az, cz, rfl, z1, z2, z3⟩ := id hlo
  have r5' : l6[0 + ((p : Nat) : Int).toNat * 2 + 1]? = some (.slice Az zb.length cz) := by rw [Int.toNat_natCast, Nat.zero_add]; exact r5
  have hAG : ∀ (u : Value) (zf : Txt) (M4 : Mem), M3.le M4 → PlB M4 u zf → zf.length ≤ 1048576 + 1048576 * (k + 1) → (fun y : RkX => (y.i : Int) = y.ii ∧ y.i ≤ 3 ∧ y.i ≤ fes.length ∧ M2.le y.M ∧ Own 37 2 y.v y.es.length (y.es.map feC).flatten y.hp ∧ EsOk y.M y.es ∧ y.es.length ≤ 20 + y.i ∧ smF (1048576 + 1048576 * y.i) y.es) ⟨k + 1, kk + 1, Value.slice (some ⟨b6, 0, none⟩) es.length cv, es.set p ⟨zn, u, zf⟩, [(b6, .cells (l6.set (p * 2 + 1) u).toArray 37 (0, 0))], M4⟩ := by
    intro u zf M4 hM4 hu hzf
    have hsm7 : smF (1048576 + 1048576 * (k + 1)) es := hsm.mono (by omega)
    exact ⟨by dsimp only; omega, by dsimp only; omega, by dsimp only; omega, hM3.trans_ hM4, r6 u zf, EsOk.set (heo.mono hM4) hu, by dsimp only; rw [List.length_set]; omega, smF.set hsm7 hlast.1 hzf⟩
  have hq4 : 0 ≤ (xb.length : Int) % 4 ∧ (xb.length : Int) % 4 < 4 := ⟨Int.emod_nonneg _ (by decide), Int.emod_lt_of_pos _ (by decide)⟩
  by_cases hq0 : (xb.length : Int) % 4 = 0
  · (repeat' (first | refine a_mv ?_ | (apply R.step; (exact a_cmp); exact rfl) | (apply R.step; (first | (apply Ok.lenT; exact rfl) | (apply Ok.indexAddr; exact rfl; exact rfl; omega; omega) | (apply Ok.loadP; exact rfl; exact rfl; exact hMb2'; exact hcb) | (apply Ok.remP; exact rfl; exact rfl; omega; decide) | (apply Ok.eqIR; exact rfl; exact rfl; omega)); exact rfl) | refine a_go ?_ | (refine a_kn ?_; intro _ _) | (refine a_bz ?_; intro bz) | (refine a_bx ?_; intro bx) | (refine a_ba ?_; intro ba) | (refine a_bl ?_; intro bl) | (refine a_sp ?_ ?_; intro h; rotate_left; intro h; rotate_left) | fail))
    all_goals (first | (exfalso; omega) | skip)
    (apply C.regionS (A := [0, 1, 2, 3, 4, 5, 6, 7, 8, 9, 10, 11, 12, 13, 14]) (t := .free 0 (.free 1 (.free 3 (.free 4 (.free 5 (.free 6 (.free 7 (.free 9 (.free 10 (.free 11 (.free 12 (.free 13 (.one 2 (.one 8 (.one 14 .nil))))))))))))))) (u := .free 15 (.free 16 (.one 17 .nil))) (Hs := [(b6, .cells l6.toArray 37 (0, 0))]); exact Mix.h; (first | exact Arr.all _ | (exact a_arr) | (exact a_arrs)); (exact a_np); kernel_rfl)
    (repeat' (first | (apply RS.step; exact rfl; intro _ _ _; (apply Ok.move; exact rfl); exact rfl) | (apply RS.step; exact rfl; intro _ _ hMx; (first | (apply Ok.indexAddr; exact rfl; exact rfl; omega; omega) | (apply Ok.load; exact rfl; exact rfl; (exact a_at); exact r5') | (apply Ok.loadP; exact rfl; exact rfl; exact hMx.2.2 _ _ hMb2'; exact hcb)); exact rfl) | refine a_os ?_ | fail))
    (apply RS.one; apply OneS.eff; exact rfl; intro Kc hKc ops0)
    (apply R.buildSlice0; exact rfl; intro bz)
    (apply R.nil; apply Fin.ks (Hx := (bz, .cells #[] 5 (0, 0)) :: H) hKc; exact Mem.le_refl _; (exact a_art))
    (apply RS.one; apply OneS.eff; exact rfl; intro Kc hKc ops0)
    apply R.arr (H2 := (bz, .cells #[] 5 (0, 0)) :: (b6, .cells l6.toArray 37 (0, 0)) :: H) (by (exact a_art))
    (apply R.append (news := zb.map bv) (k := zb.length); exact rfl; exact rfl; exact Own.empty; (exact a_tk); exact Pl.rd z3; (rw [List.length_map, Nat.mul_one]); exact bv_one _; omega; exact rfl; decide; decide; exact rfl; rintro v7 hp7 hown7)
    rw [List.nil_append, Nat.zero_add] at hown7
    obtain ⟨A7, c7, rfl, _, _⟩ := hown7.form
    (apply R.nil; apply Fin.ks (Hx := hp7 ++ H) hKc; exact Mem.le_refl _; (exact a_art))
    (apply RS.one; apply OneS.eff; exact rfl; intro Kc hKc ops0)
    apply R.arr (H2 := hp7 ++ ((b6, .cells l6.toArray 37 (0, 0)) :: H)) (by (exact a_art))
    (apply R.append (news := xb.map bv) (k := xb.length); exact rfl; exact rfl; exact hown7; (exact a_tk); exact Pl.rd (x3.mono hM3); (rw [List.length_map, Nat.mul_one]); exact bv_one _; omega; exact rfl; decide; decide; exact rfl; rintro v8 hp8 hown8)
    rw [← List.map_append, ← List.length_append] at hown8
    obtain ⟨A8, c8, rfl, _, _⟩ := hown8.form
    apply R.ice (hp := hp8) (H1 := (b6, .cells l6.toArray 37 (0, 0)) :: H) (by (exact a_art))
    intro M8 hM8 hin8
    have hb8 := hown8.plB hin8
    have hfl3 : (zb ++ xb).length ≤ 1048576 + 1048576 * (k + 1) := by rw [List.length_append]; omega
    (apply R.nil; apply Fin.ks (Hx := H) hKc; exact hM8; (exact a_art))
    refine RS.later (Hs2 := []) (Hx2 := (b6, .cells l6.toArray 37 (0, 0)) :: H) (by (exact a_art)) ?_
    (repeat' (first | refine a_ot ?_ | fail))
    (apply RT.one; apply OneT.eff; exact rfl; intro Kc hKc ops0)
    (apply R.storeI (v := .slice A8 (zb ++ xb).length c8); exact rfl; exact rfl; exact rfl; (exact a_at); (rw [Int.toNat_natCast]; omega); exact rfl)
    rw [Int.toNat_natCast, Nat.zero_add]
    ((first | apply R.nil | skip); apply Fin.kt hKc; exact Mem.le_refl _; (exact a_arrs))
    apply RT.nil
    (repeat' (first | refine a_go ?_ | (refine a_kn ?_; intro _ _) | (refine a_bz ?_; intro bz) | (refine a_bx ?_; intro bx) | (refine a_ba ?_; intro ba) | (refine a_bl ?_; intro bl) | (refine a_sp ?_ ?_; intro h; rotate_left; intro h; rotate_left) | fail))
    (apply Fin.arr (H2 := [(b6, .cells (l6.set (p * 2 + 1) (.slice A8 (zb ++ xb).length c8)).toArray 37 (0, 0))] ++ H); (exact a_arrs))
    refine Fin.again (⟨k + 1, kk + 1, .slice (some ⟨b6, 0, none⟩) es.length cv, es.set p ⟨zn, .slice A8 (zb ++ xb).length c8, zb ++ xb⟩, [(b6, .cells (l6.set (p * 2 + 1) (.slice A8 (zb ++ xb).length c8)).toArray 37 (0, 0))], M8⟩ : RkX) (hAG _ _ M8 hM8 hb8 hfl3) (by dsimp only; omega) ?_ rfl rfl
    (exact a_subs)
  by_cases hq1 : (xb.length : Int) % 4 = 1
  · (repeat' (first | refine a_mv ?_ | (apply R.step; (exact a_cmp); exact rfl) | (apply R.step; (first | (apply Ok.lenT; exact rfl) | (apply Ok.indexAddr; exact rfl; exact rfl; omega; omega) | (apply Ok.loadP; exact rfl; exact rfl; exact hMb2'; exact hcb) | (apply Ok.remP; exact rfl; exact rfl; omega; decide) | (apply Ok.eqIR; exact rfl; exact rfl; omega) | (apply Ok.eqIF; exact rfl; exact rfl; omega)); exact rfl) | refine a_go ?_ | (refine a_kn ?_; intro _ _) | (refine a_bz ?_; intro bz) | (refine a_bx ?_; intro bx) | (refine a_ba ?_; intro ba) | (refine a_bl ?_; intro bl) | (refine a_sp ?_ ?_; intro h; rotate_left; intro h; rotate_left) | fail))
    all_goals (first | (exfalso; omega) | skip)
    (apply C.regionS (A := [0, 1, 2, 3, 4, 5, 6, 7, 8, 9, 10, 11, 12, 13, 14, 15, 16, 17, 18, 19, 20, 21, 22, 23, 24, 25, 26, 27, 28]) (t := .free 0 (.free 1 (.free 2 (.free 3 (.free 4 (.free 5 (.free 6 (.free 7 (.free 8 (.free 9 (.free 10 (.free 11 (.free 12 (.free 13 (.free 14 (.free 15 (.free 16 (.free 17 (.free 18 (.free 19 (.free 20 (.free 21 (.free 22 (.free 23 (.free 24 (.free 25 (.free 26 (.free 27 (.free 28 .nil))))))))))))))))))))))))))))) (u := .free 29 (.free 30 (.one 31 .nil))) (Hs := [(b6, .cells l6.toArray 37 (0, 0))]); exact Mix.h; (first | exact Arr.all _ | (exact a_arr) | (exact a_arrs)); (exact a_np); kernel_rfl)
    have hm0 : 0 ≤ (xn.length : Int) % ((zb.length + 1 : Nat) : Int) := Int.emod_nonneg _ (by omega)
    have hm1 : (xn.length : Int) % ((zb.length + 1 : Nat) : Int) < ((zb.length + 1 : Nat) : Int) := Int.emod_lt_of_pos _ (by omega)
    obtain ⟨m, hm⟩ : ∃ m : Nat, (zb.length : Int) - (xn.length : Int) % ((zb.length + 1 : Nat) : Int) = (m : Int) := ⟨_, (Int.toNat_of_nonneg (by omega)).symm⟩
    have hml : m ≤ zb.length := by omega
    have hz1 : (zb.length : Int) + 1 = ((zb.length + 1 : Nat) : Int) := (Int.natCast_succ _).symm
    (repeat' (first | (apply RS.step; exact rfl; intro _ _ _; (apply Ok.move; exact rfl); exact rfl) | (apply RS.callQ; exact rfl; exact inferInstance; (exact a_evs); exact rfl; (intro M' Hx' hM'; exact pick_K (xn.length : Int) ((zb.length + 1 : Nat) : Int) (by omega) (by omega))) | (apply RS.step; exact rfl; intro _ _ hMx; (first | (apply Ok.lenT; exact rfl) | (apply Ok.indexAddr; exact rfl; exact rfl; omega; omega) | (apply Ok.load; exact rfl; exact rfl; (exact a_at); exact r5') | (apply Ok.loadP; exact rfl; exact rfl; exact hMx.2.2 _ _ hMb2'; exact hcn) | (apply Ok.addQ ((zb.length + 1 : Nat) : Int); exact rfl; exact rfl; exact hz1; apply w64; omega; omega) | (apply Ok.subQ (m : Int); exact rfl; exact rfl; exact hm; apply w64; omega; omega) | (apply Ok.sliceHi; exact rfl; exact rfl; omega; omega)); exact rfl) | refine a_os ?_ | fail))
    rw [Int.toNat_natCast]
    have hbz : PlB M3 (.slice Az m cz) (zb.take m) := ⟨Az, cz, by rw [List.length_take, Nat.min_eq_left hml], by rw [List.length_take]; omega, z2, by rw [List.map_take]; exact z3.take m⟩
    have hfl3 : (zb.take m).length ≤ 1048576 + 1048576 * (k + 1) := by rw [List.length_take]; omega
    refine RS.later (Hs2 := []) (Hx2 := (b6, .cells l6.toArray 37 (0, 0)) :: H) (by (exact a_art)) ?_
    (repeat' (first | refine a_ot ?_ | fail))
    (apply RT.one; apply OneT.eff; exact rfl; intro Kc hKc ops0)
    (apply R.storeI (v := .slice Az m cz); exact rfl; exact rfl; exact rfl; (exact a_at); (rw [Int.toNat_natCast]; omega); exact rfl)
    rw [Int.toNat_natCast, Nat.zero_add]
    ((first | apply R.nil | skip); apply Fin.kt hKc; exact Mem.le_refl _; (exact a_arrs))
    apply RT.nil
    (repeat' (first | refine a_go ?_ | (refine a_kn ?_; intro _ _) | (refine a_bz ?_; intro bz) | (refine a_bx ?_; intro bx) | (refine a_ba ?_; intro ba) | (refine a_bl ?_; intro bl) | (refine a_sp ?_ ?_; intro h; rotate_left; intro h; rotate_left) | fail))
    (apply Fin.arr (H2 := [(b6, .cells (l6.set (p * 2 + 1) (.slice Az m cz)).toArray 37 (0, 0))] ++ H); (exact a_arrs))
    refine Fin.again (⟨k + 1, kk + 1, .slice (some ⟨b6, 0, none⟩) es.length cv, es.set p ⟨zn, .slice Az m cz, zb.take m⟩, [(b6, .cells (l6.set (p * 2 + 1) (.slice Az m cz)).toArray 37 (0, 0))], M3⟩ : RkX) (hAG _ _ M3 (Mem.le_refl _) hbz hfl3) (by dsimp only; omega) ?_ rfl rfl
    (exact a_subs)
  have hagg : ∀ (q : Nat) u, [str xn, Value.slice Ax xb.length cx][q]? = some u → c2[o2 + kk.toNat * 2 + q]? = some u := fun q u hq => by rw [show kk.toNat = k by omega]; exact hcell2 q u hq
  by_cases hq2 : (xb.length : Int) % 4 = 2
  · (repeat' (first | refine a_mv ?_ | (apply R.step; (exact a_cmp); exact rfl) | (apply R.step; (first | (apply Ok.lenT; exact rfl) | (apply Ok.indexAddr; exact rfl; exact rfl; omega; omega) | (apply Ok.loadP; exact rfl; exact rfl; exact hMb2'; exact hcb) | (apply Ok.loadP; exact rfl; exact rfl; exact hMb2'; exact hcn) | (apply Ok.convB; exact rfl; apply wu64; omega; omega) | (apply Ok.loadAggP (vs := [str xn, .slice Ax xb.length cx]); exact rfl; exact rfl; exact hMb2'; exact rfl; exact hagg) | (apply Ok.remP; exact rfl; exact rfl; omega; decide) | (apply Ok.eqIR; exact rfl; exact rfl; omega) | (apply Ok.eqIF; exact rfl; exact rfl; omega)); exact rfl) | refine a_go ?_ | (refine a_kn ?_; intro _ _) | (refine a_bz ?_; intro bz) | (refine a_bx ?_; intro bx) | (refine a_ba ?_; intro ba) | (refine a_bl ?_; intro bl) | (refine a_sp ?_ ?_; intro h; rotate_left; intro h; rotate_left) | fail))
    all_goals (first | (exfalso; omega) | skip)
    (apply R.call; (exact a_evs); exact rfl; exact rName_K (n := xn.length) (by omega); rintro _ M3 _ ⟨rfl, rfl, rfl⟩)
    (apply R.step; (apply Ok.indexAddr; exact rfl; exact rfl; omega; omega); exact rfl)
    (repeat' (first | refine a_go ?_ | (refine a_kn ?_; intro _ _) | (refine a_sp ?_ ?_; intro h; rotate_left; intro h; rotate_left) | fail))
    (apply R.storeI (v := str (nameS xn.length)); exact rfl; exact rfl; exact rfl; (exact a_at); (rw [Int.toNat_natCast]; omega); exact rfl)
    rw [Int.toNat_natCast, Nat.zero_add]
    have hz7 : zb.length ≤ 1048576 + 1048576 * (k + 1) := by omega
    have hnl16 : (nameS xn.length).length ≤ 16 := by
      by_cases hx : xn.length ≤ 72057594037927935
      · exact Nat.le_of_eq (nameS_len hx)
      · rw [show nameS xn.length = [] from if_pos (by omega)]
        exact Nat.zero_le _
    have hsm7 : smF (1048576 + 1048576 * (k + 1)) es := hsm.mono (by omega)
    (repeat' (first | refine a_go ?_ | (refine a_kn ?_; intro _ _) | (refine a_bz ?_; intro bz) | (refine a_bx ?_; intro bx) | (refine a_ba ?_; intro ba) | (refine a_bl ?_; intro bl) | (refine a_sp ?_ ?_; intro h; rotate_left; intro h; rotate_left) | fail))
    (apply Fin.arr (H2 := [(b6, .cells (l6.set (p * 2 + 0) (str (nameS xn.length))).toArray 37 (0, 0))] ++ H); (exact a_arrs))
    refine Fin.again (⟨k + 1, kk + 1, .slice (some ⟨b6, 0, none⟩) es.length cv, es.set p ⟨nameS xn.length, .slice Az zb.length cz, zb⟩, [(b6, .cells (l6.set (p * 2) (str (nameS xn.length))).toArray 37 (0, 0))], M3⟩ : RkX) ⟨by dsimp only; omega, by dsimp only; omega, by dsimp only; omega, hM3, r7 _, EsOk.set heo hlo, by dsimp only; rw [List.length_set]; omega, smF.set hsm7 (Nat.le_trans hnl16 (by decide)) hz7⟩ (by dsimp only; omega) ?_ rfl rfl
    (exact a_subs)
  (repeat' (first | refine a_mv ?_ | (apply R.step; (exact a_cmp); exact rfl) | (apply R.step; (first | (apply Ok.lenT; exact rfl) | (apply Ok.indexAddr; exact rfl; exact rfl; omega; omega) | (apply Ok.loadP; exact rfl; exact rfl; exact hMb2'; exact hcb) | (apply Ok.loadP; exact rfl; exact rfl; exact hMb2'; exact hcn) | (apply Ok.convB; exact rfl; apply wu64; omega; omega) | (apply Ok.loadAggP (vs := [str xn, .slice Ax xb.length cx]); exact rfl; exact rfl; exact hMb2'; exact rfl; exact hagg) | (apply Ok.remP; exact rfl; exact rfl; omega; decide) | (apply Ok.eqIR; exact rfl; exact rfl; omega) | (apply Ok.eqIF; exact rfl; exact rfl; omega)); exact rfl) | refine a_go ?_ | (refine a_kn ?_; intro _ _) | (refine a_bz ?_; intro bz) | (refine a_bx ?_; intro bx) | (refine a_ba ?_; intro ba) | (refine a_bl ?_; intro bl) | (refine a_sp ?_ ?_; intro h; rotate_left; intro h; rotate_left) | fail))
  all_goals (first | (exfalso; omega) | skip)
  (apply R.append (news := feC ⟨xn, .slice Ax xb.length cx, xb⟩) (k := 1); exact rfl; exact rfl; exact hown; (exact a_tk); exact Rd.at_ (l := feC ⟨xn, .slice Ax xb.length cx, xb⟩) (by (exact a_at)) (fun j u h => by rw [Nat.zero_add]; exact h); exact rfl; (intro u hu; rcases List.mem_cons.mp hu with rfl | hu; exact rfl; rw [List.mem_singleton] at hu; subst hu; rfl); omega; exact rfl; decide; decide; exact rfl; rintro v5 hp5 hown5)
  (repeat' (first | refine a_go ?_ | (refine a_kn ?_; intro _ _) | (refine a_bz ?_; intro bz) | (refine a_bx ?_; intro bx) | (refine a_ba ?_; intro ba) | (refine a_bl ?_; intro bl) | (refine a_sp ?_ ?_; intro h; rotate_left; intro h; rotate_left) | fail))
  (apply Fin.arr (H2 := hp5 ++ H); (exact a_arrs))
  have hsm7 : smF (1048576 + 1048576 * (k + 1)) es := hsm.mono (by omega)
  have hx7 : xb.length ≤ 1048576 + 1048576 * (k + 1) := by omega
  refine Fin.again (⟨k + 1, kk + 1, v5, es ++ [⟨xn, .slice Ax xb.length cx, xb⟩], hp5, M3⟩ : RkX) ⟨by dsimp only; omega, by dsimp only; omega, by dsimp only; omega, hM3, ?_, ?_, by dsimp only; rw [List.length_append]; show es.length + 1 ≤ _; omega, ?_⟩ (by dsimp only; omega) ?_ rfl rfl
  · dsimp only
    rw [List.length_append, List.map_append, List.flatten_append]
    exact hown5
  · intro e he
    rcases List.mem_append.1 he with he | he
    · exact heo e he
    · rw [List.mem_singleton] at he
      subst he
      exact hfo2.mono hM3
  · intro e he
    rcases List.mem_append.1 he with he | he
    · exact hsm7 e he
    · rw [List.mem_singleton] at he
      subst he
      exact ⟨hfz.1, hx7⟩
  (exact a_subs)
end Go.Sx
end
section
namespace Go.Sx
open Go Go.Proofs Go.RowKit
section
variable {H : Type} {enc : TypeId × Value → H} {P : Program} {W : World} {n : Nat} {t e : TypeId} {cs : List Value} {x : DataW H × List MemPlace} {B : Nat}
theorem bulk_mem {l : List (DataW H)} {d : DataW H} (h : d ∈ l) : Go.Proofs.YtpjmlcnboedpeaaGreat.Rows.uptoBulk d ≤ Go.Proofs.YtpjmlcnboedpeaaGreat.Rows.uptoBulkAll l := by
  induction l with
  | nil => cases h
  | cons a r ih =>
    simp only [Go.Proofs.YtpjmlcnboedpeaaGreat.Rows.uptoBulkAll]
    rcases List.mem_cons.1 h with rfl | h
    · omega
    · have := ih h
      omega
theorem bulk_one (d : DataW H) : 1 ≤ Go.Proofs.YtpjmlcnboedpeaaGreat.Rows.uptoBulk d := by
  cases d with
  | lit l => cases l <;> simp [Go.Proofs.YtpjmlcnboedpeaaGreat.Rows.uptoBulk]
  | nil => simp [Go.Proofs.YtpjmlcnboedpeaaGreat.Rows.uptoBulk]
  | ptr d => simp [Go.Proofs.YtpjmlcnboedpeaaGreat.Rows.uptoBulk]
  | slice elems spare => simp [Go.Proofs.YtpjmlcnboedpeaaGreat.Rows.uptoBulk]
  | agg parts => simp [Go.Proofs.YtpjmlcnboedpeaaGreat.Rows.uptoBulk]
  | iface t d => simp [Go.Proofs.YtpjmlcnboedpeaaGreat.Rows.uptoBulk]
  | map entries => simp [Go.Proofs.YtpjmlcnboedpeaaGreat.Rows.uptoBulk]
  | held h => simp [Go.Proofs.YtpjmlcnboedpeaaGreat.Rows.uptoBulk]
theorem bulk_len (l : List (DataW H)) : l.length ≤ Go.Proofs.YtpjmlcnboedpeaaGreat.Rows.uptoBulkAll l := by
  induction l with
  | nil => simp [Go.Proofs.YtpjmlcnboedpeaaGreat.Rows.uptoBulkAll]
  | cons x r ih => have := bulk_one x; simp only [Go.Proofs.YtpjmlcnboedpeaaGreat.Rows.uptoBulkAll, List.length_cons]; omega
theorem rd_sliceB {sz by_ : Nat} {z : Value} [hu : Und P t (.slice e)] [hi : Inf P e sz by_ z] (h : Trd enc P W n t cs x) (hw : Wgt P t x.1) (hb : Go.Proofs.YtpjmlcnboedpeaaGreat.Rows.uptoBulk x.1 ≤ B) :
    ∃ (A : Option Addr) (css : List (List Value)) (cap : Nat), cs = [.slice A css.length cap] ∧ css.length ≤ cap ∧ css.length ≤ B ∧ Pl (Mem.of W) A css.flatten ∧ cap * by_ ≤ 140737488351232 ∧
      (∀ c ∈ css, c.length = sz ∧ ∃ m y, Trd enc P W m e c y ∧ Wgt P e y.1 ∧ Go.Proofs.YtpjmlcnboedpeaaGreat.Rows.uptoBulk y.1 ≤ B) := by
  have hc : P.cellsOf e = sz := by
    obtain ⟨i, h1, h2, _, _⟩ := hi.h
    simp [Program.cellsOf, h1, h2]
  have hbt : P.bytesOf e = by_ := by
    obtain ⟨i, h1, _, h2, _⟩ := hi.h
    simp [Program.bytesOf, h1, h2]
  rcases DataW.trod_slice hu.h h with ⟨rfl, rfl⟩ | ⟨a, len, cap, elems, rest, n, _, rfl, rfl, _, hl, hm, hlen, hel, hsp, _⟩
  · exact ⟨none, [], 0, rfl, Nat.le_refl _, Nat.zero_le _, Pl.nil, by omega, by simp⟩
  obtain ⟨hr, -⟩ := hsp rfl
  have hwt : cap * by_ ≤ 140737488351232 := by
    have := hw ((elems.length + rest.length) * P.bytesOf e) (by simp [DataW.weights, hu.h])
    rw [hbt, hlen, hr, show len + (cap - len) = cap by omega] at this
    exact this
  have hbe : Go.Proofs.YtpjmlcnboedpeaaGreat.Rows.uptoBulkAll (elems.map (·.1)) ≤ B := by
    simp only [Go.Proofs.YtpjmlcnboedpeaaGreat.Rows.uptoBulk] at hb
    omega
  have hex : ∀ i, i < len → ∃ c y, elems[i]? = some y ∧ W.cells? 0 (a.add (i * sz)) sz = some c ∧ Trd enc P W n e c y := by
    intro i hi'
    have h1 := hel i hi'
    rw [hc, List.getElem?_eq_getElem (by omega), Option.bind_eq_some_iff] at h1
    obtain ⟨c, h2, h3⟩ := h1
    exact ⟨c, _, List.getElem?_eq_getElem (by omega), h2, h3⟩
  have hcs : ∃ css : List (List Value), css.length = len ∧ ∀ i, i < len → ∃ c y, css[i]? = some c ∧ elems[i]? = some y ∧ W.cells? 0 (a.add (i * sz)) sz = some c ∧ Trd enc P W n e c y := by
    refine ⟨(List.range len).map fun i => ((W.cells? 0 (a.add (i * sz)) sz).getD []), by simp, fun i hi' => ?_⟩
    obtain ⟨c, y, h1, h2, h3⟩ := hex i hi'
    exact ⟨c, y, by simp [hi', h2], h1, h2, h3⟩
  obtain ⟨css, rfl, hcss⟩ := hcs
  have hall : ∀ c ∈ css, c.length = sz ∧ ∃ m y, Trd enc P W m e c y ∧ Wgt P e y.1 ∧ Go.Proofs.YtpjmlcnboedpeaaGreat.Rows.uptoBulk y.1 ≤ B := by
    intro c hc'
    obtain ⟨i, hi', rfl⟩ := List.getElem_of_mem hc'
    obtain ⟨c', y, h1, h2, h3, h4⟩ := hcss i hi'
    rw [List.getElem?_eq_getElem hi', Option.some.injEq] at h1
    subst h1
    have hy : y.1 ∈ elems.map (·.1) := List.mem_map.2 ⟨y, List.mem_of_getElem? h2, rfl⟩
    refine ⟨(World.cells?_some h3).2.1, n, y, h4, fun z hz => hw z ?_, Nat.le_trans (bulk_mem hy) hbe⟩
    have hin : ∀ (l : List (DataW H)), y.1 ∈ l → z ∈ DataW.weightsAll P e l := by
      intro l
      induction l with
      | nil => intro h; cases h
      | cons d l ih =>
        intro h
        simp only [DataW.weightsAll, List.mem_append]
        rcases List.mem_cons.1 h with rfl | h
        · exact .inl hz
        · exact .inr (ih h)
    simp [DataW.weights, hu.h, hin _ hy]
  have hlb : css.length ≤ B := by
    have := bulk_len (elems.map (·.1))
    rw [List.length_map] at this
    omega
  refine ⟨some a, css, cap, rfl, hl, hlb, pl_of_cells fun i u hiu => ?_, hwt, hall⟩
  obtain ⟨h0, c, h1, h2⟩ := flatten_get css (fun c h => (hall c h).1) i u hiu
  obtain ⟨c', y, h3, _, h4, _⟩ := hcss (i / sz) (List.getElem?_eq_some_iff.1 h1).1
  rw [h1, Option.some.injEq] at h3
  subst h3
  have := (World.cells?_some h4).2.2 (i % sz) (Nat.mod_lt _ h0)
  rw [h2, Addr.add_add, Nat.div_add_mod' i sz] at this
  exact this
theorem rd_fieldsB {m : Nat} {z : DataW H × List MemPlace} {fs : Array Field} (hu : P.underlying t = some (.struct fs)) (h : Trd enc P W m t cs z) (hw : Wgt P t z.1) (hb : Go.Proofs.YtpjmlcnboedpeaaGreat.Rows.uptoBulk z.1 ≤ B) :
    cs.length = P.cellsOf t ∧ ∃ k, ∀ (i ft off sz : Nat), (fs[i]?).map (fun f => (f.type, f.offset)) = some (ft, off) → P.cellsOf ft = sz → ∃ y, Trd enc P W k ft ((cs.drop off).take sz) y ∧ Wgt P ft y.1 ∧ Go.Proofs.YtpjmlcnboedpeaaGreat.Rows.uptoBulk y.1 ≤ B := by
  obtain ⟨xs, k, _, rfl, h1, h2, h3⟩ := DataW.trod_struct hu h
  refine ⟨h1, k, fun i ft off sz hf0 hsz => ?_⟩
  obtain ⟨f, hf, he⟩ := Option.map_eq_some_iff.1 hf0
  cases he
  subst hsz
  have hi : i < xs.length := by
    rw [h2]
    exact (Array.getElem?_eq_some_iff.1 hf).1
  have h4 := h3 i f hf
  rw [List.getElem?_eq_getElem hi] at h4
  refine ⟨_, h4, fun u hu' => hw u ?_, ?_⟩
  · simp only [DataW.weights, hu]
    exact DataW.weights_mem_each (j := i) (t := f.type) (d := xs[i].1) (by simp [List.getElem?_map, hf]) (by simp [List.getElem?_map, List.getElem?_eq_getElem hi]) u hu'
  · have hm : xs[i].1 ∈ xs.map (·.1) := List.mem_map.2 ⟨_, List.getElem_mem hi, rfl⟩
    have := bulk_mem hm
    simp only [Go.Proofs.YtpjmlcnboedpeaaGreat.Rows.uptoBulk] at hb
    omega
theorem rd_stringB [hu : Und P t .string] (h : Trd enc P W n t cs x) (hb : Go.Proofs.YtpjmlcnboedpeaaGreat.Rows.uptoBulk x.1 ≤ B) : ∃ s : Txt, cs = [str s] ∧ s.length ≤ B := by
  obtain ⟨z, e, rfl, hz⟩ := DataW.trod_string hu.h h
  refine ⟨z.data.toList, e, ?_⟩
  simp only [Go.Proofs.YtpjmlcnboedpeaaGreat.Rows.uptoBulk] at hb
  omega
theorem rd_bytesB {z : Value} [hu : Und P t (.slice e)] [he : Und P e (.int .u8)] [hi : Inf P e 1 1 z] (h : Trd enc P W n t cs x) (hw : Wgt P t x.1) (hb : Go.Proofs.YtpjmlcnboedpeaaGreat.Rows.uptoBulk x.1 ≤ B) :
    ∃ (A : Option Addr) (bs : List UInt8) (cap : Nat), cs = [.slice A bs.length cap] ∧ bs.length ≤ cap ∧ bs.length ≤ B ∧ Pl (Mem.of W) A (bs.map bv) ∧ cap ≤ 140737488351232 := by
  obtain ⟨A, css, cap, rfl, hl, hlb, hp, hc, hall⟩ := rd_sliceB (sz := 1) (by_ := 1) (z := z) h hw hb
  have : ∃ bs : List UInt8, css.length = bs.length ∧ css.flatten = bs.map bv := by
    clear hp hl hw h hlb hc hb
    induction css with
    | nil => exact ⟨[], rfl, rfl⟩
    | cons c css ih =>
      obtain ⟨bs, h1, h2⟩ := ih (fun c h => hall c (List.mem_cons_of_mem _ h))
      obtain ⟨_, m, y, h3, _⟩ := hall c (List.mem_cons_self ..)
      obtain ⟨z, rfl, hz⟩ := rd_int h3
      obtain ⟨b, hb⟩ := byte_has hz
      exact ⟨b :: bs, by simp [h1], by simp [h2, ← hb]⟩
  obtain ⟨bs, h1, h2⟩ := this
  exact ⟨A, bs, cap, by rw [h1], by omega, by omega, h2 ▸ hp, by omega⟩
end
section
variable {Hh : Type} {enc : TypeId × Value → Hh} {W : World} {m : Nat} {cs : List Value} {z : DataW Hh × List MemPlace} {B : Nat}
theorem rd_fileB (h : Trd enc Tryz.prog W m 37 cs z) (hw : Wgt Tryz.prog 37 z.1) (hb : Go.Proofs.YtpjmlcnboedpeaaGreat.Rows.uptoBulk z.1 ≤ B) : ∃ x : FE, cs = feC x ∧ PlB (Mem.of W) x.v x.b ∧ x.n.length ≤ B ∧ x.b.length ≤ B := by
  obtain ⟨hl, k, hf⟩ := rd_fieldsB Tryz.underlying37 h hw hb
  rw [show Tryz.prog.cellsOf 37 = 2 by kernel_rfl] at hl
  obtain ⟨y0, h0, w0, g0⟩ := hf 0 9 0 1 rfl (by kernel_rfl)
  obtain ⟨y1, h1, w1, g1⟩ := hf 1 28 1 1 rfl (by kernel_rfl)
  obtain ⟨s, e0, s1⟩ := rd_stringB h0 g0
  obtain ⟨A, bs, cap, e1, q1, q2, q3, q4⟩ := rd_bytesB h1 w1 g1
  match cs, hl with
  | [c0, c1], _ =>
    cases e0; cases e1
    exact ⟨⟨s, .slice A bs.length cap, bs⟩, rfl, ⟨A, cap, rfl, q1, by omega, q3⟩, s1, q2⟩
theorem rd_filesB : ∀ (css : List (List Value)), (∀ c ∈ css, c.length = 2 ∧ ∃ m y, Trd enc Tryz.prog W m 37 c y ∧ Wgt Tryz.prog 37 y.1 ∧ Go.Proofs.YtpjmlcnboedpeaaGreat.Rows.uptoBulk y.1 ≤ B) → ∃ xs : List FE, css = xs.map feC ∧ EsOk (Mem.of W) xs ∧ ∀ x ∈ xs, x.n.length ≤ B ∧ x.b.length ≤ B
  | [], _ => ⟨[], rfl, fun _ h => absurd h List.not_mem_nil, fun _ h => absurd h List.not_mem_nil⟩
  | c :: css, h => by
    obtain ⟨xs, h1, h2, h3⟩ := rd_filesB css (fun c hc => h c (List.mem_cons_of_mem _ hc))
    obtain ⟨_, m, y, h5, h6, h7⟩ := h c (List.mem_cons_self ..)
    obtain ⟨x, rfl, h8, h9⟩ := rd_fileB h5 h6 h7
    refine ⟨x :: xs, by rw [h1]; rfl, fun a ha => ?_, fun a ha => ?_⟩
    · rcases List.mem_cons.1 ha with rfl | ha
      · exact h8
      · exact h2 a ha
    · rcases List.mem_cons.1 ha with rfl | ha
      · exact h9
      · exact h3 a ha
open Go.ChangeShapes Go.WideShapes Go.ChangeAt
theorem arg_sliceB {P : Program} {t e : TypeId} {v : Value} {d : DataW Hh} {ps : List MemPlace} {b : Nat} {rc : Reach} {sz by_ : Nat} {z : Value} [hu : Und P t (.slice e)] [hi : Inf P e sz by_ z] (hval : Value.okWide P W rc b t v) (h : DataW.Trod enc P W 0 (fun _ => true) true t v d ps) (hw : Wgt P t d) (hb : Go.Proofs.YtpjmlcnboedpeaaGreat.Rows.uptoBulk d ≤ B) :
    ∃ (A : Option Addr) (css : List (List Value)) (cap : Nat), v = .slice A css.length cap ∧ css.length ≤ cap ∧ css.length ≤ B ∧ Pl (Mem.of W) A css.flatten ∧ cap * by_ ≤ 140737488351232 ∧
      (∀ c ∈ css, c.length = sz ∧ ∃ m y, Trd enc P W m e c y ∧ Wgt P e y.1 ∧ Go.Proofs.YtpjmlcnboedpeaaGreat.Rows.uptoBulk y.1 ≤ B) := by
  obtain ⟨m, hm⟩ := h
  obtain ⟨A, css, cap, h1, h2⟩ := rd_sliceB hm hw hb
  exact ⟨A, css, cap, val_one hu.h (by simp) hval h1, h2⟩
set_option maxRecDepth 100000 in
theorem arg_filesB {v : Value} {d : DataW Hh} {ps : List MemPlace} {b : Nat} {rc : Reach} (hval : Value.okWide Tryz.prog W rc b 22 v) (h : DataW.Trod enc Tryz.prog W 0 (fun _ => true) true 22 v d ps) (hw : Wgt Tryz.prog 22 d) (hb : Go.Proofs.YtpjmlcnboedpeaaGreat.Rows.uptoBulk d ≤ B) :
    ∃ (A : Option Addr) (fes : List FE) (cap : Nat), v = .slice A fes.length cap ∧ fes.length ≤ cap ∧ cap ≤ 9223372036854775807 ∧ fes.length ≤ B ∧ Pl (Mem.of W) A (fes.map feC).flatten ∧ EsOk (Mem.of W) fes ∧ ∀ x ∈ fes, x.n.length ≤ B ∧ x.b.length ≤ B := by
  obtain ⟨A, css, cap, h1, h2, h3, h4, h5, h6⟩ := arg_sliceB hval h hw hb
  obtain ⟨fes, rfl, h7, h8⟩ := rd_filesB css h6
  have hl : (fes.map feC).length = fes.length := List.length_map ..
  rw [hl] at h1 h2 h3
  exact ⟨A, fes, cap, h1, h2, by omega, h3, h4, h7, h8⟩
end
end Go.Sx
end
