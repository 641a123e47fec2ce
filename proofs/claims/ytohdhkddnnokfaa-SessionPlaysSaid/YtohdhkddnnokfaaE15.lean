/- Sessions: CopySessions; structs held against each other; SameSessions; rightKept, Right. -/
import Derived.Test.YtohdhkddnnokfaaE12
namespace Go.Sx
open Go.Proofs Go.RowKit
/-- a slice of sessions in the pool -/
def PlS (M : Mem) (v : Value) (ys : List Ses) : Prop := ∃ A c, v = .slice A ys.length c ∧ ys.length ≤ c ∧ c ≤ 9223372036854775807 ∧ Pl M A (sesC ys) ∧ ∀ y ∈ ys, y.ok M
/-- a row of sessions of one's own, what they keep lies in the pool -/
def OwnS (M : Mem) (v : Value) (ys : List Ses) (hp : Hp) : Prop := Own 43 4 v ys.length (sesC ys) hp ∧ ∀ y ∈ ys, y.ok M
structure CpX where
  i : Nat
  ii : Int
  v : Value
  hp : Hp
  ys : List Ses
  M : Mem
attribute [local irreducible] C R Fin K Own OwnT Rd Pl Ok KOf RetOk OpsOf RP KP Res NoPanic KV KE Tab RTab RdB
variable {M M' : Mem} {H H1 H2 : Hp}
theorem PlS.mono {v : Value} {ys : List Ses} (hM : M.le M') (h : PlS M v ys) : PlS M' v ys := by
  obtain ⟨A, c, h1, h2, h3, h4, h5⟩ := h
  exact ⟨A, c, h1, h2, h3, h4.mono hM, fun y hy => (h5 y hy).mono hM⟩
theorem copyS_K {v : Value} {xs : List Ses} (hx : PlS M v xs) (hn : xs.length * 48 ≤ 140737488351232) (hks : ∀ x ∈ xs, x.ks.length * 48 ≤ 140737488351232) : K Try.prog 19 [v] M H fun v' M' H' => ∃ ys hp, OwnS M' v' ys hp ∧ ys.map Ses.d = xs.map Ses.d ∧ M.le M' ∧ H' = hp ++ H := by
  obtain ⟨A, cap, rfl, hc1, hc2, hpl, hok⟩ := hx
  refine K.enterK Try.func19 rfl rfl rfl ?_
  intro Q hNP hQ
  (repeat' (first | (apply R.step; (exact a_ok); exact rfl) | (first | (with_reducible first | apply R.nil | apply C.ret | apply C.block | apply C.skip | apply C.exit | apply Fin.thenRet | apply Fin.thenExit | apply Fin.blockNormal | apply Fin.blockRet | apply Fin.blockExit) | (with_reducible apply Fin.thenK; assumption) | (with_reducible apply C.seqK; intro _ _) | (with_reducible apply C.regionK; intro _ _) | (with_reducible apply Fin.blockOther; exact rfl)) | (first | (apply R.store; exact rfl; exact rfl; exact rfl; (exact a_at); (exact a_blit); exact rfl; (focus (simp [Value.oneCell']; done))) | (apply R.buildSlice0; exact rfl; intro bz) | (apply R.box; exact rfl; (simp only [Value.cells]; rfl); exact rfl; intro bx) | (apply R.alloc; (simp only [Value.cells]; rfl); exact rfl; intro ba) | (apply R.buildSlice; (exact a_prt); exact rfl; exact rfl; (exact a_fills); exact rfl; intro bl)) | (first | (apply R.guardT; assumption; exact rfl; exact rfl; exact rfl) | (apply R.guardF; assumption; exact rfl; exact rfl; exact rfl; exact rfl; exact rfl) | (apply R.guardU; assumption; exact rfl; exact rfl; exact rfl; exact rfl) | (apply R.guardDec; assumption; exact rfl; exact rfl; (intro h; skip; rotate_left; intro h; skip; rotate_left)) | (apply R.guardBeq; assumption; exact rfl; exact rfl; (intro h; skip; rotate_left; intro h; skip; rotate_left)) | (apply R.guardBne; assumption; exact rfl; exact rfl; (intro h; skip; rotate_left; intro h; skip; rotate_left)) | (apply R.guardNDec; assumption; exact rfl; exact rfl; (intro h; skip; rotate_left; intro h; skip; rotate_left)) | (apply R.guardNot; assumption; exact rfl; exact rfl; (intro h; skip; rotate_left; intro h; skip; rotate_left)) | (apply R.guardC; assumption; exact rfl; exact rfl; (intro h; skip; rotate_left; intro h; skip; rotate_left))) | (first | (apply C.condT; exact rfl) | (apply C.condF; exact rfl) | (apply C.condDec; exact rfl; (intro h; skip; rotate_left; intro h; skip; rotate_left)) | (apply C.condBeq; exact rfl; (intro h; skip; rotate_left; intro h; skip; rotate_left)) | (apply C.condBne; exact rfl; (intro h; skip; rotate_left; intro h; skip; rotate_left)) | (apply C.condNDec; exact rfl; (intro h; skip; rotate_left; intro h; skip; rotate_left)) | (apply C.condNot; exact rfl; (intro h; skip; rotate_left; intro h; skip; rotate_left)) | (apply C.cond; exact rfl; (intro h; skip; rotate_left; intro h; skip; rotate_left)))))
  apply C.loop (fun y : CpX => (y.i : Int) = y.ii ∧ y.i ≤ xs.length ∧ OwnS y.M y.v y.ys y.hp ∧ y.ys.map Ses.d = (xs.take y.i).map Ses.d ∧ M.le y.M)
    (fun y => [(0, .slice A xs.length cap), (3, y.v), (4, .int .i64 y.ii)]) (fun y => y.M) (fun y => y.hp ++ H) (fun y => xs.length - y.i) ⟨0, 0, .slice none 0 0, [], [], M⟩
  · exact ⟨rfl, Nat.zero_le _, ⟨Own.nil _ _, fun _ h => absurd h List.not_mem_nil⟩, rfl, Mem.le_refl _⟩
  · (exact a_subs)
  · exact rfl
  · exact rfl
  rintro ⟨i, ii, ov, hov, ys, M2⟩ ⟨hii, hin, ⟨ho, hyk⟩, hd, hM2⟩
  dsimp only at hii hin ho hyk hd hM2 ⊢
  obtain ⟨Ao, co, rfl, _, hco⟩ := ho.form
  unfold maxLen at hco
  have hyn : ys.length = i := by
    have h6 := congrArg List.length hd
    rw [List.length_map, List.length_map, List.length_take] at h6
    omega
  have hpl2 := hpl.mono hM2
  (repeat' (first | (apply R.step; (exact a_ok); exact rfl) | (first | (with_reducible first | apply R.nil | apply C.ret | apply C.block | apply C.skip | apply C.exit | apply Fin.thenRet | apply Fin.thenExit | apply Fin.blockNormal | apply Fin.blockRet | apply Fin.blockExit) | (with_reducible apply Fin.thenK; assumption) | (with_reducible apply C.seqK; intro _ _) | (with_reducible apply C.regionK; intro _ _) | (with_reducible apply Fin.blockOther; exact rfl)) | (first | (apply R.store; exact rfl; exact rfl; exact rfl; (exact a_at); (exact a_blit); exact rfl; (focus (simp [Value.oneCell']; done))) | (apply R.buildSlice0; exact rfl; intro bz) | (apply R.box; exact rfl; (simp only [Value.cells]; rfl); exact rfl; intro bx) | (apply R.alloc; (simp only [Value.cells]; rfl); exact rfl; intro ba) | (apply R.buildSlice; (exact a_prt); exact rfl; exact rfl; (exact a_fills); exact rfl; intro bl)) | (first | (apply R.guardT; assumption; exact rfl; exact rfl; exact rfl) | (apply R.guardF; assumption; exact rfl; exact rfl; exact rfl; exact rfl; exact rfl) | (apply R.guardU; assumption; exact rfl; exact rfl; exact rfl; exact rfl) | (apply R.guardDec; assumption; exact rfl; exact rfl; (intro h; skip; rotate_left; intro h; skip; rotate_left)) | (apply R.guardBeq; assumption; exact rfl; exact rfl; (intro h; skip; rotate_left; intro h; skip; rotate_left)) | (apply R.guardBne; assumption; exact rfl; exact rfl; (intro h; skip; rotate_left; intro h; skip; rotate_left)) | (apply R.guardNDec; assumption; exact rfl; exact rfl; (intro h; skip; rotate_left; intro h; skip; rotate_left)) | (apply R.guardNot; assumption; exact rfl; exact rfl; (intro h; skip; rotate_left; intro h; skip; rotate_left)) | (apply R.guardC; assumption; exact rfl; exact rfl; (intro h; skip; rotate_left; intro h; skip; rotate_left))) | (first | (apply C.condT; exact rfl) | (apply C.condF; exact rfl) | (apply C.condDec; exact rfl; (intro h; skip; rotate_left; intro h; skip; rotate_left)) | (apply C.condBeq; exact rfl; (intro h; skip; rotate_left; intro h; skip; rotate_left)) | (apply C.condBne; exact rfl; (intro h; skip; rotate_left; intro h; skip; rotate_left)) | (apply C.condNDec; exact rfl; (intro h; skip; rotate_left; intro h; skip; rotate_left)) | (apply C.condNot; exact rfl; (intro h; skip; rotate_left; intro h; skip; rotate_left)) | (apply C.cond; exact rfl; (intro h; skip; rotate_left; intro h; skip; rotate_left)))))
  · have hlt : ii < (xs.length : Int) := by assumption
    have hil : i < xs.length := by omega
    obtain ⟨b0, o0, c0, e0, f0, rfl, hMb, hc⟩ := ses_at hpl2 hil
    have hst : ∀ q u, (seC xs[i].x)[q]? = some u → c0[o0 + ii.toNat * 4 + q]? = some u := fun q u hq => by
      rw [show ii.toNat = i by omega]
      exact hc q u hq
    have hxk := (hok _ (List.getElem_mem hil)).mono hM2
    have hxl := hks _ (List.getElem_mem hil)
    have htk : (xs.take (i + 1)).map Ses.d = (xs.take i).map Ses.d ++ [xs[i].d] := by rw [List.take_succ_eq_append_getElem hil, List.map_append]; rfl
    unfold seC uV SeV.kv at hst
    obtain ⟨x, hxe⟩ : ∃ x, x = xs[i] := ⟨_, rfl⟩
    rw [← hxe] at hst hxk hxl htk
    have hst3 := hst 3 _ rfl
    obtain ⟨hk1, hk2, hk3, hk4⟩ := hxk
    (repeat' (first | (apply R.step; (exact a_ok); exact rfl) | (first | (with_reducible first | apply R.nil | apply C.ret | apply C.block | apply C.skip | apply C.exit | apply Fin.thenRet | apply Fin.thenExit | apply Fin.blockNormal | apply Fin.blockRet | apply Fin.blockExit) | (with_reducible apply Fin.thenK; assumption) | (with_reducible apply C.seqK; intro _ _) | (with_reducible apply C.regionK; intro _ _) | (with_reducible apply Fin.blockOther; exact rfl)) | (first | (apply R.store; exact rfl; exact rfl; exact rfl; (exact a_at); (exact a_blit); exact rfl; (focus (simp [Value.oneCell']; done))) | (apply R.buildSlice0; exact rfl; intro bz) | (apply R.box; exact rfl; (simp only [Value.cells]; rfl); exact rfl; intro bx) | (apply R.alloc; (simp only [Value.cells]; rfl); exact rfl; intro ba) | (apply R.buildSlice; (exact a_prt); exact rfl; exact rfl; (exact a_fills); exact rfl; intro bl)) | (first | (apply R.guardT; assumption; exact rfl; exact rfl; exact rfl) | (apply R.guardF; assumption; exact rfl; exact rfl; exact rfl; exact rfl; exact rfl) | (apply R.guardU; assumption; exact rfl; exact rfl; exact rfl; exact rfl) | (apply R.guardDec; assumption; exact rfl; exact rfl; (intro h; skip; rotate_left; intro h; skip; rotate_left)) | (apply R.guardBeq; assumption; exact rfl; exact rfl; (intro h; skip; rotate_left; intro h; skip; rotate_left)) | (apply R.guardBne; assumption; exact rfl; exact rfl; (intro h; skip; rotate_left; intro h; skip; rotate_left)) | (apply R.guardNDec; assumption; exact rfl; exact rfl; (intro h; skip; rotate_left; intro h; skip; rotate_left)) | (apply R.guardNot; assumption; exact rfl; exact rfl; (intro h; skip; rotate_left; intro h; skip; rotate_left)) | (apply R.guardC; assumption; exact rfl; exact rfl; (intro h; skip; rotate_left; intro h; skip; rotate_left))) | (first | (apply C.condT; exact rfl) | (apply C.condF; exact rfl) | (apply C.condDec; exact rfl; (intro h; skip; rotate_left; intro h; skip; rotate_left)) | (apply C.condBeq; exact rfl; (intro h; skip; rotate_left; intro h; skip; rotate_left)) | (apply C.condBne; exact rfl; (intro h; skip; rotate_left; intro h; skip; rotate_left)) | (apply C.condNDec; exact rfl; (intro h; skip; rotate_left; intro h; skip; rotate_left)) | (apply C.condNot; exact rfl; (intro h; skip; rotate_left; intro h; skip; rotate_left)) | (apply C.cond; exact rfl; (intro h; skip; rotate_left; intro h; skip; rotate_left)))))
    (apply R.append (news := keF x.ks); exact rfl; exact rfl; exact Own.empty; exact Tk.here _ _; exact Pl.rd hk4; (rw [keF_len, hk1]); exact keF_one x.ks; omega; exact rfl; decide; decide; exact rfl; rintro v1 hp1 ho1)
    rw [Nat.zero_add, List.nil_append] at ho1
    obtain ⟨A1, c1, rfl, hc11, hc12⟩ := ho1.form
    unfold maxLen at hc12
    (apply R.ice (hp := hp1) (H1 := (ba, .cells #[.int .u64 x.x.id, .int .u64 x.x.sq, .int .u64 x.x.us, .slice x.x.kA x.x.kn x.x.kc] 43 (0, 0)) :: (hov ++ H)) (by ((try simp only [List.append_assoc, List.cons_append, List.nil_append, List.append_nil]); exact a_arr)); intro M3 hM3 hin3)
    have hpl1 := ho1.plIn hin3
    clear ho1 hin3
    have hxk1 : KpOk M3 ⟨x.x.id, x.x.sq, x.x.us, A1, x.x.kn, c1⟩ x.ks := ⟨hk1, hc11, by dsimp only; omega, hpl1⟩
    (repeat' (first | (apply R.step; (exact a_ok); exact rfl) | (first | (with_reducible first | apply R.nil | apply C.ret | apply C.block | apply C.skip | apply C.exit | apply Fin.thenRet | apply Fin.thenExit | apply Fin.blockNormal | apply Fin.blockRet | apply Fin.blockExit) | (with_reducible apply Fin.thenK; assumption) | (with_reducible apply C.seqK; intro _ _) | (with_reducible apply C.regionK; intro _ _) | (with_reducible apply Fin.blockOther; exact rfl)) | (first | (apply R.store; exact rfl; exact rfl; exact rfl; (exact a_at); (exact a_blit); exact rfl; (focus (simp [Value.oneCell']; done))) | (apply R.buildSlice0; exact rfl; intro bz) | (apply R.box; exact rfl; (simp only [Value.cells]; rfl); exact rfl; intro bx) | (apply R.alloc; (simp only [Value.cells]; rfl); exact rfl; intro ba) | (apply R.buildSlice; (exact a_prt); exact rfl; exact rfl; (exact a_fills); exact rfl; intro bl)) | (first | (apply R.guardT; assumption; exact rfl; exact rfl; exact rfl) | (apply R.guardF; assumption; exact rfl; exact rfl; exact rfl; exact rfl; exact rfl) | (apply R.guardU; assumption; exact rfl; exact rfl; exact rfl; exact rfl) | (apply R.guardDec; assumption; exact rfl; exact rfl; (intro h; skip; rotate_left; intro h; skip; rotate_left)) | (apply R.guardBeq; assumption; exact rfl; exact rfl; (intro h; skip; rotate_left; intro h; skip; rotate_left)) | (apply R.guardBne; assumption; exact rfl; exact rfl; (intro h; skip; rotate_left; intro h; skip; rotate_left)) | (apply R.guardNDec; assumption; exact rfl; exact rfl; (intro h; skip; rotate_left; intro h; skip; rotate_left)) | (apply R.guardNot; assumption; exact rfl; exact rfl; (intro h; skip; rotate_left; intro h; skip; rotate_left)) | (apply R.guardC; assumption; exact rfl; exact rfl; (intro h; skip; rotate_left; intro h; skip; rotate_left))) | (first | (apply C.condT; exact rfl) | (apply C.condF; exact rfl) | (apply C.condDec; exact rfl; (intro h; skip; rotate_left; intro h; skip; rotate_left)) | (apply C.condBeq; exact rfl; (intro h; skip; rotate_left; intro h; skip; rotate_left)) | (apply C.condBne; exact rfl; (intro h; skip; rotate_left; intro h; skip; rotate_left)) | (apply C.condNDec; exact rfl; (intro h; skip; rotate_left; intro h; skip; rotate_left)) | (apply C.condNot; exact rfl; (intro h; skip; rotate_left; intro h; skip; rotate_left)) | (apply C.cond; exact rfl; (intro h; skip; rotate_left; intro h; skip; rotate_left)))))
    (apply R.append (news := seC ⟨x.x.id, x.x.sq, x.x.us, A1, x.x.kn, c1⟩) (k := 1); exact rfl; exact rfl; exact ho; (exact a_tk); exact Rd.at_ (l := seC ⟨x.x.id, x.x.sq, x.x.us, A1, x.x.kn, c1⟩) (by (exact a_at)) (fun j x h => by rw [Nat.zero_add]; exact h); exact rfl; exact seC_one _; omega; exact rfl; decide; decide; exact rfl; rintro v2 hp2 ho2)
    obtain ⟨A2, c2, rfl, _, _⟩ := ho2.form
    (repeat' (first | (apply R.step; (exact a_ok); exact rfl) | (first | (with_reducible first | apply R.nil | apply C.ret | apply C.block | apply C.skip | apply C.exit | apply Fin.thenRet | apply Fin.thenExit | apply Fin.blockNormal | apply Fin.blockRet | apply Fin.blockExit) | (with_reducible apply Fin.thenK; assumption) | (with_reducible apply C.seqK; intro _ _) | (with_reducible apply C.regionK; intro _ _) | (with_reducible apply Fin.blockOther; exact rfl)) | (first | (apply R.store; exact rfl; exact rfl; exact rfl; (exact a_at); (exact a_blit); exact rfl; (focus (simp [Value.oneCell']; done))) | (apply R.buildSlice0; exact rfl; intro bz) | (apply R.box; exact rfl; (simp only [Value.cells]; rfl); exact rfl; intro bx) | (apply R.alloc; (simp only [Value.cells]; rfl); exact rfl; intro ba) | (apply R.buildSlice; (exact a_prt); exact rfl; exact rfl; (exact a_fills); exact rfl; intro bl)) | (first | (apply R.guardT; assumption; exact rfl; exact rfl; exact rfl) | (apply R.guardF; assumption; exact rfl; exact rfl; exact rfl; exact rfl; exact rfl) | (apply R.guardU; assumption; exact rfl; exact rfl; exact rfl; exact rfl) | (apply R.guardDec; assumption; exact rfl; exact rfl; (intro h; skip; rotate_left; intro h; skip; rotate_left)) | (apply R.guardBeq; assumption; exact rfl; exact rfl; (intro h; skip; rotate_left; intro h; skip; rotate_left)) | (apply R.guardBne; assumption; exact rfl; exact rfl; (intro h; skip; rotate_left; intro h; skip; rotate_left)) | (apply R.guardNDec; assumption; exact rfl; exact rfl; (intro h; skip; rotate_left; intro h; skip; rotate_left)) | (apply R.guardNot; assumption; exact rfl; exact rfl; (intro h; skip; rotate_left; intro h; skip; rotate_left)) | (apply R.guardC; assumption; exact rfl; exact rfl; (intro h; skip; rotate_left; intro h; skip; rotate_left))) | (first | (apply C.condT; exact rfl) | (apply C.condF; exact rfl) | (apply C.condDec; exact rfl; (intro h; skip; rotate_left; intro h; skip; rotate_left)) | (apply C.condBeq; exact rfl; (intro h; skip; rotate_left; intro h; skip; rotate_left)) | (apply C.condBne; exact rfl; (intro h; skip; rotate_left; intro h; skip; rotate_left)) | (apply C.condNDec; exact rfl; (intro h; skip; rotate_left; intro h; skip; rotate_left)) | (apply C.condNot; exact rfl; (intro h; skip; rotate_left; intro h; skip; rotate_left)) | (apply C.cond; exact rfl; (intro h; skip; rotate_left; intro h; skip; rotate_left)))))
    apply Fin.arr (H2 := hp2 ++ H) (by ((try simp only [List.append_assoc, List.cons_append, List.nil_append, List.append_nil]); exact a_arr))
    refine Fin.again (⟨i + 1, ii + 1, .slice A2 (ys.length + 1) c2, hp2, ys ++ [⟨⟨x.x.id, x.x.sq, x.x.us, A1, x.x.kn, c1⟩, x.ks⟩], M3⟩ : CpX) ⟨by dsimp only; omega, by dsimp only; omega, ⟨by dsimp only; rw [sesC_app, List.length_append]; exact ho2, fun y hy => ?_⟩, by dsimp only; rw [List.map_append, hd, htk]; rfl, hM2.trans_ hM3⟩ (by dsimp only; omega) ?_ rfl rfl
    · rcases List.mem_append.1 hy with hy | hy
      · exact (hyk y hy).mono hM3
      · rw [List.mem_singleton] at hy
        rw [hy]
        exact hxk1
    · (exact a_subs)
  · have hie : i = xs.length := by omega
    (apply Fin.returnA (H2 := hov ++ H); assumption; exact .inl rfl; exact rfl; (exact a_res); (simp only [retv]; rfl); (exact a_arr))
    refine ⟨ys, hov, ⟨ho, hyk⟩, ?_, hM2, rfl⟩
    rw [hd, hie, List.take_length]
end Go.Sx
namespace Go.Sx
open Go Go.Proofs Go.RowKit
theorem wide_same (a b : Int) (d : Nat) (w : World) : (Op.equalIn (d + 2) 32 (.agg #[.int .i64 a, .int .u64 b]) (.agg #[.int .i64 a, .int .u64 b])).run Try.prog w = .ok true w := by
  have hf : Try.prog.fieldsOf 32 = #[{ name := "Hi", type := 2, offset := 0, embedded := false, tag := "", pkgPath := "", byteOffset := 0 }, { name := "Lo", type := 26, offset := 1, embedded := false, tag := "", pkgPath := "", byteOffset := 8 }] := by kernel_rfl
  have hu : Try.prog.underlying 32 = some (.struct (Try.prog.fieldsOf 32)) := by kernel_rfl
  have hs : Try.prog.stoodInHeld 32 = false := by kernel_rfl
  rw [run_equalIn_struct w (d + 1) _ _ _ hu hs, hf]
  simp [Op.eqFields, part, run_isAgg (P := Try.prog) Try.underlying26, run_isAgg (P := Try.prog) Try.underlying2, aggD, run_equalIn_int w d 26 .u64 .u64 _ _ Try.underlying26, run_equalIn_int w d 2 .i64 .i64 _ _ Try.underlying2]
theorem dec_same (a b c : Int) (d : Nat) (w : World) : (Op.equalIn (d + 3) 34 (.agg #[.int .i64 a, .int .u64 b, .int .i64 c]) (.agg #[.int .i64 a, .int .u64 b, .int .i64 c])).run Try.prog w = .ok true w := by
  have hf : Try.prog.fieldsOf 34 = #[{ name := "C", type := 32, offset := 0, embedded := false, tag := "", pkgPath := "", byteOffset := 0 }, { name := "Scale", type := 3, offset := 2, embedded := false, tag := "", pkgPath := "", byteOffset := 16 }] := by kernel_rfl
  have hu : Try.prog.underlying 34 = some (.struct (Try.prog.fieldsOf 34)) := by kernel_rfl
  have hs : Try.prog.stoodInHeld 34 = false := by kernel_rfl
  obtain ⟨inf, g1, g2, _, _⟩ := (inferInstance : Inf Try.prog 32 2 16 (.agg #[.int .i64 0, .int .u64 0])).h
  rw [run_equalIn_struct w (d + 2) _ _ _ hu hs, hf]
  simp [Op.eqFields, part, run_isAgg (P := Try.prog) Try.underlying32, run_isAgg (P := Try.prog) Try.underlying3, aggD, sizeOf, typeInfo, g1, g2, wide_same a b d w, run_equalIn_int w (d + 1) 3 .i64 .i64 _ _ Try.underlying3]
theorem reply_same (x a b c e : Int) (d : Nat) (w : World) : (Op.equalIn (d + 4) 36 (.agg #[.int .i64 e, .int .u64 x, .int .i64 a, .int .u64 b, .int .i64 c]) (.agg #[.int .i64 e, .int .u64 x, .int .i64 a, .int .u64 b, .int .i64 c])).run Try.prog w = .ok true w := by
  have hf : Try.prog.fieldsOf 36 = #[{ name := "Code", type := 23, offset := 0, embedded := false, tag := "", pkgPath := "", byteOffset := 0 }, { name := "Value", type := 26, offset := 1, embedded := false, tag := "", pkgPath := "", byteOffset := 8 }, { name := "Amount", type := 34, offset := 2, embedded := false, tag := "", pkgPath := "", byteOffset := 16 }] := by kernel_rfl
  have hu : Try.prog.underlying 36 = some (.struct (Try.prog.fieldsOf 36)) := by kernel_rfl
  have hs : Try.prog.stoodInHeld 36 = false := by kernel_rfl
  obtain ⟨inf, g1, g2, _, _⟩ := (inferInstance : Inf Try.prog 34 3 24 (.agg #[.int .i64 0, .int .u64 0, .int .i64 0])).h
  rw [run_equalIn_struct w (d + 3) _ _ _ hu hs, hf]
  simp [Op.eqFields, part, run_isAgg (P := Try.prog) Try.underlying34, run_isAgg (P := Try.prog) Try.underlying26, run_isAgg (P := Try.prog) Try.underlying23, aggD, sizeOf, typeInfo, g1, g2, dec_same a b c d w, run_equalIn_int w (d + 2) 26 .u64 .u64 _ _ Try.underlying26, run_equalIn_int w (d + 2) 23 .i64 .i64 _ _ Try.underlying23]
theorem kept_same (s x a b c e : Int) (d : Nat) (w : World) : (Op.equalIn (d + 5) 62 (.agg #[.int .u64 s, .int .i64 e, .int .u64 x, .int .i64 a, .int .u64 b, .int .i64 c]) (.agg #[.int .u64 s, .int .i64 e, .int .u64 x, .int .i64 a, .int .u64 b, .int .i64 c])).run Try.prog w = .ok true w := by
  have hf : Try.prog.fieldsOf 62 = #[{ name := "Seq", type := 26, offset := 0, embedded := false, tag := "", pkgPath := "", byteOffset := 0 }, { name := "Reply", type := 36, offset := 1, embedded := false, tag := "", pkgPath := "", byteOffset := 8 }] := by kernel_rfl
  have hu : Try.prog.underlying 62 = some (.struct (Try.prog.fieldsOf 62)) := by kernel_rfl
  have hs : Try.prog.stoodInHeld 62 = false := by kernel_rfl
  obtain ⟨inf, g1, g2, _, _⟩ := (inferInstance : Inf Try.prog 36 5 40 (.agg #[.int .i64 0, .int .u64 0, .int .i64 0, .int .u64 0, .int .i64 0])).h
  rw [run_equalIn_struct w (d + 4) _ _ _ hu hs, hf]
  simp [Op.eqFields, part, run_isAgg (P := Try.prog) Try.underlying36, run_isAgg (P := Try.prog) Try.underlying26, aggD, sizeOf, typeInfo, g1, g2, reply_same x a b c e d w, run_equalIn_int w (d + 3) 26 .u64 .u64 _ _ Try.underlying26]
theorem reply_guard : Try.prog.eqGuardType Try.prog.depth 36 = false := by kernel_rfl
theorem kept_guard : Try.prog.eqGuardType Try.prog.depth 62 = false := by kernel_rfl
end Go.Sx
namespace Go.Sx
open Go Go.Proofs Go.RowKit
structure SmX where
  i : Nat
  ii : Int
attribute [local irreducible] C R Fin K Own OwnT Rd Pl Ok KOf RetOk OpsOf RP KP Res NoPanic KV KE Tab RTab RdB
variable {M M' : Mem} {H H1 H2 : Hp}
theorem sameS_K {v1 v2 : Value} {xs ys : List Ses} (h1 : PlS M v1 xs) (h2 : PlS M v2 ys) (he : xs.map Ses.d = ys.map Ses.d) : K Try.prog 21 [v1, v2] M H fun v' M' H' => v' = .bool true ∧ M' = M ∧ H' = H := by
  obtain ⟨A1, k1, rfl, g1, g2, g3, g4⟩ := h1
  obtain ⟨A2, k2, rfl, j1, j2, j3, j4⟩ := h2
  have hl : ys.length = xs.length := by
    have h6 := congrArg List.length he
    rw [List.length_map, List.length_map] at h6
    exact h6.symm
  refine K.enterK Try.func21 rfl rfl rfl ?_
  intro Q hNP hQ
  rw [hl]
  (repeat' (first | (apply R.step; (apply Ok.move; exact rfl); exact rfl) | (apply R.step; (apply Ok.neIS; exact rfl; exact rfl); exact rfl) | (apply R.step; (exact a_ok); exact rfl) | (first | (with_reducible first | apply R.nil | apply C.ret | apply C.block | apply C.skip | apply C.exit | apply Fin.thenRet | apply Fin.thenExit | apply Fin.blockNormal | apply Fin.blockRet | apply Fin.blockExit) | (with_reducible apply Fin.thenK; assumption) | (with_reducible apply C.seqK; intro _ _) | (with_reducible apply C.regionK; intro _ _) | (with_reducible apply Fin.blockOther; exact rfl)) | (first | (apply R.store; exact rfl; exact rfl; exact rfl; (exact a_at); (exact a_blit); exact rfl; (focus (simp [Value.oneCell']; done))) | (apply R.buildSlice0; exact rfl; intro bz) | (apply R.box; exact rfl; (simp only [Value.cells]; rfl); exact rfl; intro bx) | (apply R.alloc; (simp only [Value.cells]; rfl); exact rfl; intro ba) | (apply R.buildSlice; (exact a_prt); exact rfl; exact rfl; (exact a_fills); exact rfl; intro bl)) | (first | (apply R.guardT; assumption; exact rfl; exact rfl; exact rfl) | (apply R.guardF; assumption; exact rfl; exact rfl; exact rfl; exact rfl; exact rfl) | (apply R.guardU; assumption; exact rfl; exact rfl; exact rfl; exact rfl) | (apply R.guardDec; assumption; exact rfl; exact rfl; (intro h; skip; rotate_left; intro h; skip; rotate_left)) | (apply R.guardBeq; assumption; exact rfl; exact rfl; (intro h; skip; rotate_left; intro h; skip; rotate_left)) | (apply R.guardBne; assumption; exact rfl; exact rfl; (intro h; skip; rotate_left; intro h; skip; rotate_left)) | (apply R.guardNDec; assumption; exact rfl; exact rfl; (intro h; skip; rotate_left; intro h; skip; rotate_left)) | (apply R.guardNot; assumption; exact rfl; exact rfl; (intro h; skip; rotate_left; intro h; skip; rotate_left)) | (apply R.guardC; assumption; exact rfl; exact rfl; (intro h; skip; rotate_left; intro h; skip; rotate_left))) | (first | (apply C.condT; exact rfl) | (apply C.condF; exact rfl) | (apply C.condDec; exact rfl; (intro h; skip; rotate_left; intro h; skip; rotate_left)) | (apply C.condBeq; exact rfl; (intro h; skip; rotate_left; intro h; skip; rotate_left)) | (apply C.condBne; exact rfl; (intro h; skip; rotate_left; intro h; skip; rotate_left)) | (apply C.condNDec; exact rfl; (intro h; skip; rotate_left; intro h; skip; rotate_left)) | (apply C.condNot; exact rfl; (intro h; skip; rotate_left; intro h; skip; rotate_left)) | (apply C.cond; exact rfl; (intro h; skip; rotate_left; intro h; skip; rotate_left)))))
  apply C.loop (fun y : SmX => (y.i : Int) = y.ii ∧ y.i ≤ xs.length) (fun y => [(0, .slice A1 xs.length k1), (1, .slice A2 xs.length k2), (4, .bool false), (5, .int .i64 y.ii)]) (fun _ => M) (fun _ => H) (fun y => xs.length - y.i) ⟨0, 0⟩
  · exact ⟨rfl, Nat.zero_le _⟩
  · (exact a_subs)
  · exact rfl
  · exact rfl
  rintro ⟨i, ii⟩ ⟨hii, hin⟩
  dsimp only at hii hin ⊢
  (repeat' (first | (apply R.step; (exact a_ok); exact rfl) | (first | (with_reducible first | apply R.nil | apply C.ret | apply C.block | apply C.skip | apply C.exit | apply Fin.thenRet | apply Fin.thenExit | apply Fin.blockNormal | apply Fin.blockRet | apply Fin.blockExit) | (with_reducible apply Fin.thenK; assumption) | (with_reducible apply C.seqK; intro _ _) | (with_reducible apply C.regionK; intro _ _) | (with_reducible apply Fin.blockOther; exact rfl)) | (first | (apply R.store; exact rfl; exact rfl; exact rfl; (exact a_at); (exact a_blit); exact rfl; (focus (simp [Value.oneCell']; done))) | (apply R.buildSlice0; exact rfl; intro bz) | (apply R.box; exact rfl; (simp only [Value.cells]; rfl); exact rfl; intro bx) | (apply R.alloc; (simp only [Value.cells]; rfl); exact rfl; intro ba) | (apply R.buildSlice; (exact a_prt); exact rfl; exact rfl; (exact a_fills); exact rfl; intro bl)) | (first | (apply R.guardT; assumption; exact rfl; exact rfl; exact rfl) | (apply R.guardF; assumption; exact rfl; exact rfl; exact rfl; exact rfl; exact rfl) | (apply R.guardU; assumption; exact rfl; exact rfl; exact rfl; exact rfl) | (apply R.guardDec; assumption; exact rfl; exact rfl; (intro h; skip; rotate_left; intro h; skip; rotate_left)) | (apply R.guardBeq; assumption; exact rfl; exact rfl; (intro h; skip; rotate_left; intro h; skip; rotate_left)) | (apply R.guardBne; assumption; exact rfl; exact rfl; (intro h; skip; rotate_left; intro h; skip; rotate_left)) | (apply R.guardNDec; assumption; exact rfl; exact rfl; (intro h; skip; rotate_left; intro h; skip; rotate_left)) | (apply R.guardNot; assumption; exact rfl; exact rfl; (intro h; skip; rotate_left; intro h; skip; rotate_left)) | (apply R.guardC; assumption; exact rfl; exact rfl; (intro h; skip; rotate_left; intro h; skip; rotate_left))) | (first | (apply C.condT; exact rfl) | (apply C.condF; exact rfl) | (apply C.condDec; exact rfl; (intro h; skip; rotate_left; intro h; skip; rotate_left)) | (apply C.condBeq; exact rfl; (intro h; skip; rotate_left; intro h; skip; rotate_left)) | (apply C.condBne; exact rfl; (intro h; skip; rotate_left; intro h; skip; rotate_left)) | (apply C.condNDec; exact rfl; (intro h; skip; rotate_left; intro h; skip; rotate_left)) | (apply C.condNot; exact rfl; (intro h; skip; rotate_left; intro h; skip; rotate_left)) | (apply C.cond; exact rfl; (intro h; skip; rotate_left; intro h; skip; rotate_left)))))
  · have hlt : ii < (xs.length : Int) := by assumption
    have hix : i < xs.length := by omega
    have hiy : i < ys.length := by omega
    have hde : xs[i].d = ys[i].d := by
      have h6 : (xs.map Ses.d)[i]? = (ys.map Ses.d)[i]? := by rw [he]
      rw [List.getElem?_map, List.getElem?_map, List.getElem?_eq_getElem hix, List.getElem?_eq_getElem hiy] at h6
      exact Option.some.inj h6
    have hxo := g4 _ (List.getElem_mem hix)
    have hyo := j4 _ (List.getElem_mem hiy)
    obtain ⟨b0, o0, c0, e0, f0, rfl, hMb, hc⟩ := ses_at g3 hix
    obtain ⟨b1, o1, c1, e1, f1, rfl, hMb1, hc1⟩ := ses_at j3 hiy
    have hst : ∀ q u, (seC xs[i].x)[q]? = some u → c0[o0 + ii.toNat * 4 + q]? = some u := fun q u hq => by
      rw [show ii.toNat = i by omega]
      exact hc q u hq
    have hst1 : ∀ q u, (seC ys[i].x)[q]? = some u → c1[o1 + ii.toNat * 4 + q]? = some u := fun q u hq => by
      rw [show ii.toNat = i by omega]
      exact hc1 q u hq
    clear hc hc1
    generalize xs[i] = x at hst hde hxo
    generalize ys[i] = y at hst1 hde hyo
    obtain ⟨⟨xi, xq, xu, xA, xn, xc⟩, ks⟩ := x
    obtain ⟨⟨yi, yq, yu, yA, yn, yc⟩, js⟩ := y
    unfold Ses.d at hde
    injection hde with e1 e2 e3 e4
    dsimp only at e1 e2 e3 e4
    subst e1 e2 e3 e4
    obtain ⟨p1, p2, p3, p4⟩ := hxo
    obtain ⟨q1, q2, q3, q4⟩ := hyo
    dsimp only at p1 p2 p3 p4 q1 q2 q3 q4
    subst p1
    subst q1
    unfold seC uV SeV.kv at hst hst1
    have a0 := hst 0 _ rfl
    have a1 := hst 1 _ rfl
    have a2 := hst 2 _ rfl
    have a3 := hst 3 _ rfl
    have d0 := hst1 0 _ rfl
    have d1 := hst1 1 _ rfl
    have d2 := hst1 2 _ rfl
    have d3 := hst1 3 _ rfl
    dsimp only at a0 a1 a2 a3 d0 d1 d2 d3
    clear hst hst1
    (apply C.regionO (ks := [1, 1, 1, 1, 1, 1, 1, 1, 1, 1, 1, 1, 1, 1, 1, 1, 1, 1, 1, 1, 1, 1, 1, 1, 1, 1, 1, 1, 1, 1, 1, 1, 1, 1, 1, 1, 1, 1, 1, 1, 1, 1, 1, 1, 1, 1, 1, 1, 1, 1, 1, 1]) (is := [0, 1, 2, 3, 4, 5, 6, 7, 8, 9, 10, 11, 12, 13, 14, 15, 16, 17, 18, 19, 20, 21, 22, 23, 24, 25, 26, 27, 28, 29, 30, 31, 32, 33, 34, 35, 36, 37, 38, 39, 40, 41, 42, 43, 44, 45, 46, 47, 48, 49, 50, 51]) (Hs := _); exact Mix.h; exact Arr.self; (exact a_np); (exact a_picked); kernel_rfl; intro _ e; subst e)
    (repeat' (first | (first | (apply RP.stepT; exact rfl; exact rfl; exact rfl; intro _ _ _; apply Ok.neIS; exact rfl; exact rfl; exact rfl) | (apply RP.step; intro _ _ _; apply Ok.neIS; exact rfl; exact rfl; exact rfl)) | (first | (apply RP.step; intro _ _ _; (exact a_ok); exact rfl) | (apply RP.stepT; exact rfl; exact rfl; exact rfl; intro _ _ _; (exact a_ok); exact rfl) | (apply RP.stepF; exact rfl; exact rfl; exact rfl; exact rfl; exact rfl) | (apply RP.effF; exact rfl; exact rfl; exact rfl; exact rfl; exact rfl)) | (apply RP.callQ; (exact a_evs); exact rfl)))
    (first | apply RP.nil0 | apply RP.nil)
    (repeat' (first | (apply R.step; (exact a_ok); exact rfl) | (first | (with_reducible first | apply R.nil | apply C.ret | apply C.block | apply C.skip | apply C.exit | apply Fin.thenRet | apply Fin.thenExit | apply Fin.blockNormal | apply Fin.blockRet | apply Fin.blockExit) | (with_reducible apply Fin.thenK; assumption) | (with_reducible apply C.seqK; intro _ _) | (with_reducible apply C.regionK; intro _ _) | (with_reducible apply Fin.blockOther; exact rfl)) | (first | (apply R.store; exact rfl; exact rfl; exact rfl; (exact a_at); (exact a_blit); exact rfl; (focus (simp [Value.oneCell']; done))) | (apply R.buildSlice0; exact rfl; intro bz) | (apply R.box; exact rfl; (simp only [Value.cells]; rfl); exact rfl; intro bx) | (apply R.alloc; (simp only [Value.cells]; rfl); exact rfl; intro ba) | (apply R.buildSlice; (exact a_prt); exact rfl; exact rfl; (exact a_fills); exact rfl; intro bl)) | (first | (apply R.guardT; assumption; exact rfl; exact rfl; exact rfl) | (apply R.guardF; assumption; exact rfl; exact rfl; exact rfl; exact rfl; exact rfl) | (apply R.guardU; assumption; exact rfl; exact rfl; exact rfl; exact rfl) | (apply R.guardDec; assumption; exact rfl; exact rfl; (intro h; skip; rotate_left; intro h; skip; rotate_left)) | (apply R.guardBeq; assumption; exact rfl; exact rfl; (intro h; skip; rotate_left; intro h; skip; rotate_left)) | (apply R.guardBne; assumption; exact rfl; exact rfl; (intro h; skip; rotate_left; intro h; skip; rotate_left)) | (apply R.guardNDec; assumption; exact rfl; exact rfl; (intro h; skip; rotate_left; intro h; skip; rotate_left)) | (apply R.guardNot; assumption; exact rfl; exact rfl; (intro h; skip; rotate_left; intro h; skip; rotate_left)) | (apply R.guardC; assumption; exact rfl; exact rfl; (intro h; skip; rotate_left; intro h; skip; rotate_left))) | (first | (apply C.condT; exact rfl) | (apply C.condF; exact rfl) | (apply C.condDec; exact rfl; (intro h; skip; rotate_left; intro h; skip; rotate_left)) | (apply C.condBeq; exact rfl; (intro h; skip; rotate_left; intro h; skip; rotate_left)) | (apply C.condBne; exact rfl; (intro h; skip; rotate_left; intro h; skip; rotate_left)) | (apply C.condNDec; exact rfl; (intro h; skip; rotate_left; intro h; skip; rotate_left)) | (apply C.condNot; exact rfl; (intro h; skip; rotate_left; intro h; skip; rotate_left)) | (apply C.cond; exact rfl; (intro h; skip; rotate_left; intro h; skip; rotate_left)))))
    clear a0 a1 a2 d0 d1 d2
    apply C.loop (fun y : SmX => (y.i : Int) = y.ii ∧ y.i ≤ ks.length) (fun y => [(0, .slice (some ⟨b0, o0, none⟩) xs.length k1), (1, .slice (some ⟨b1, o1, none⟩) xs.length k2), (4, .bool false), (5, .int .i64 ii), (6, .int .i64 y.ii)]) (fun _ => M) (fun _ => H) (fun y => ks.length - y.i) ⟨0, 0⟩
    · exact ⟨rfl, Nat.zero_le _⟩
    · (exact a_subs)
    · exact rfl
    · exact rfl
    rintro ⟨k, kk⟩ ⟨hkk, hkn⟩
    dsimp only at hkk hkn ⊢
    (repeat' (first | (apply R.step; (exact a_ok); exact rfl) | (first | (with_reducible first | apply R.nil | apply C.ret | apply C.block | apply C.skip | apply C.exit | apply Fin.thenRet | apply Fin.thenExit | apply Fin.blockNormal | apply Fin.blockRet | apply Fin.blockExit) | (with_reducible apply Fin.thenK; assumption) | (with_reducible apply C.seqK; intro _ _) | (with_reducible apply C.regionK; intro _ _) | (with_reducible apply Fin.blockOther; exact rfl)) | (first | (apply R.store; exact rfl; exact rfl; exact rfl; (exact a_at); (exact a_blit); exact rfl; (focus (simp [Value.oneCell']; done))) | (apply R.buildSlice0; exact rfl; intro bz) | (apply R.box; exact rfl; (simp only [Value.cells]; rfl); exact rfl; intro bx) | (apply R.alloc; (simp only [Value.cells]; rfl); exact rfl; intro ba) | (apply R.buildSlice; (exact a_prt); exact rfl; exact rfl; (exact a_fills); exact rfl; intro bl)) | (first | (apply R.guardT; assumption; exact rfl; exact rfl; exact rfl) | (apply R.guardF; assumption; exact rfl; exact rfl; exact rfl; exact rfl; exact rfl) | (apply R.guardU; assumption; exact rfl; exact rfl; exact rfl; exact rfl) | (apply R.guardDec; assumption; exact rfl; exact rfl; (intro h; skip; rotate_left; intro h; skip; rotate_left)) | (apply R.guardBeq; assumption; exact rfl; exact rfl; (intro h; skip; rotate_left; intro h; skip; rotate_left)) | (apply R.guardBne; assumption; exact rfl; exact rfl; (intro h; skip; rotate_left; intro h; skip; rotate_left)) | (apply R.guardNDec; assumption; exact rfl; exact rfl; (intro h; skip; rotate_left; intro h; skip; rotate_left)) | (apply R.guardNot; assumption; exact rfl; exact rfl; (intro h; skip; rotate_left; intro h; skip; rotate_left)) | (apply R.guardC; assumption; exact rfl; exact rfl; (intro h; skip; rotate_left; intro h; skip; rotate_left))) | (first | (apply C.condT; exact rfl) | (apply C.condF; exact rfl) | (apply C.condDec; exact rfl; (intro h; skip; rotate_left; intro h; skip; rotate_left)) | (apply C.condBeq; exact rfl; (intro h; skip; rotate_left; intro h; skip; rotate_left)) | (apply C.condBne; exact rfl; (intro h; skip; rotate_left; intro h; skip; rotate_left)) | (apply C.condNDec; exact rfl; (intro h; skip; rotate_left; intro h; skip; rotate_left)) | (apply C.condNot; exact rfl; (intro h; skip; rotate_left; intro h; skip; rotate_left)) | (apply C.cond; exact rfl; (intro h; skip; rotate_left; intro h; skip; rotate_left)))))
    · have hkt : kk < (ks.length : Int) := by assumption
      have hkl : k < ks.length := by omega
      obtain ⟨b2, o2, c2, e2, f2, rfl, hMb2, hc2⟩ := ke_at p4 hkl
      obtain ⟨b3, o3, c3, e3, f3, rfl, hMb3, hc3⟩ := ke_at q4 hkl
      have hs2 : ∀ q u, (keC ks[k])[q]? = some u → c2[o2 + kk.toNat * 6 + q]? = some u := fun q u hq => by
        rw [show kk.toNat = k by omega]
        exact hc2 q u hq
      have hs3 : ∀ q u, (keC ks[k])[q]? = some u → c3[o3 + kk.toNat * 6 + q]? = some u := fun q u hq => by
        rw [show kk.toNat = k by omega]
        exact hc3 q u hq
      clear hc2 hc3
      unfold keC at hs2 hs3
      generalize ks[k] = z at hs2 hs3
      obtain ⟨zs, z1, z2, z3, z4, z5⟩ := z
      dsimp only at hs2 hs3
      (apply C.regionO (ks := [1, 1, 1, 1, 1, 1, 1, 1, 1, 1, 1, 1, 1, 1, 1, 1, 1]) (is := [0, 1, 2, 3, 4, 5, 6, 7, 8, 9, 10, 11, 12, 13, 14, 15, 16]) (Hs := _); exact Mix.h; exact Arr.self; (exact a_np); (exact a_picked); kernel_rfl; intro _ e; subst e)
      (repeat' (first | (apply RP.step; intro _ _ _; (apply Ok.move; exact rfl); exact rfl) | (apply RP.step; intro _ _ _; apply Ok.neS (b := true); exact rfl; exact rfl; exact kept_guard; (intro w; exact kept_same _ _ _ _ _ _ 9995 w); exact rfl) | (first | (apply RP.step; intro _ _ _; (exact a_ok); exact rfl) | (apply RP.stepT; exact rfl; exact rfl; exact rfl; intro _ _ _; (exact a_ok); exact rfl) | (apply RP.stepF; exact rfl; exact rfl; exact rfl; exact rfl; exact rfl) | (apply RP.effF; exact rfl; exact rfl; exact rfl; exact rfl; exact rfl)) | (apply RP.callQ; (exact a_evs); exact rfl)))
      (first | apply RP.nil0 | apply RP.nil)
      (repeat' (first | (apply R.step; (exact a_ok); exact rfl) | (first | (with_reducible first | apply R.nil | apply C.ret | apply C.block | apply C.skip | apply C.exit | apply Fin.thenRet | apply Fin.thenExit | apply Fin.blockNormal | apply Fin.blockRet | apply Fin.blockExit) | (with_reducible apply Fin.thenK; assumption) | (with_reducible apply C.seqK; intro _ _) | (with_reducible apply C.regionK; intro _ _) | (with_reducible apply Fin.blockOther; exact rfl)) | (first | (apply R.store; exact rfl; exact rfl; exact rfl; (exact a_at); (exact a_blit); exact rfl; (focus (simp [Value.oneCell']; done))) | (apply R.buildSlice0; exact rfl; intro bz) | (apply R.box; exact rfl; (simp only [Value.cells]; rfl); exact rfl; intro bx) | (apply R.alloc; (simp only [Value.cells]; rfl); exact rfl; intro ba) | (apply R.buildSlice; (exact a_prt); exact rfl; exact rfl; (exact a_fills); exact rfl; intro bl)) | (first | (apply R.guardT; assumption; exact rfl; exact rfl; exact rfl) | (apply R.guardF; assumption; exact rfl; exact rfl; exact rfl; exact rfl; exact rfl) | (apply R.guardU; assumption; exact rfl; exact rfl; exact rfl; exact rfl) | (apply R.guardDec; assumption; exact rfl; exact rfl; (intro h; skip; rotate_left; intro h; skip; rotate_left)) | (apply R.guardBeq; assumption; exact rfl; exact rfl; (intro h; skip; rotate_left; intro h; skip; rotate_left)) | (apply R.guardBne; assumption; exact rfl; exact rfl; (intro h; skip; rotate_left; intro h; skip; rotate_left)) | (apply R.guardNDec; assumption; exact rfl; exact rfl; (intro h; skip; rotate_left; intro h; skip; rotate_left)) | (apply R.guardNot; assumption; exact rfl; exact rfl; (intro h; skip; rotate_left; intro h; skip; rotate_left)) | (apply R.guardC; assumption; exact rfl; exact rfl; (intro h; skip; rotate_left; intro h; skip; rotate_left))) | (first | (apply C.condT; exact rfl) | (apply C.condF; exact rfl) | (apply C.condDec; exact rfl; (intro h; skip; rotate_left; intro h; skip; rotate_left)) | (apply C.condBeq; exact rfl; (intro h; skip; rotate_left; intro h; skip; rotate_left)) | (apply C.condBne; exact rfl; (intro h; skip; rotate_left; intro h; skip; rotate_left)) | (apply C.condNDec; exact rfl; (intro h; skip; rotate_left; intro h; skip; rotate_left)) | (apply C.condNot; exact rfl; (intro h; skip; rotate_left; intro h; skip; rotate_left)) | (apply C.cond; exact rfl; (intro h; skip; rotate_left; intro h; skip; rotate_left)))))
      refine Fin.again (⟨k + 1, kk + 1⟩ : SmX) ⟨by dsimp only; omega, by dsimp only; omega⟩ (by dsimp only; omega) ?_ rfl rfl
      (exact a_subs)
    · refine Fin.again (⟨i + 1, ii + 1⟩ : SmX) ⟨by dsimp only; omega, by dsimp only; omega⟩ (by dsimp only; omega) ?_ rfl rfl
      (exact a_subs)
  · (refine Fin.rt ?_)
    exact ⟨rfl, rfl, rfl⟩
end Go.Sx
namespace Go.Sx
open Go Go.Proofs Go.RowKit
def kOk (j : Int) (k : KeV) : Prop := k.sq = j ∧ 0 ≤ k.r.code ∧ k.r.code ≤ 99 ∧ 0 ≤ k.r.sc ∧ k.r.sc ≤ 18
instance (j : Int) (k : KeV) : Decidable (kOk j k) := by unfold kOk; infer_instance
def rKept (sq : Int) (ks : List KeV) : Prop := (ks.length : Int) = min sq 4 ∧ ∀ i, (h : i < ks.length) → kOk (sq - ks.length + i + 1) ks[i]
instance (sq : Int) (ks : List KeV) : Decidable (rKept sq ks) := by unfold rKept; infer_instance
attribute [local irreducible] C R Fin K Own OwnT Rd Pl Ok KOf RetOk OpsOf RP KP Res NoPanic KV KE Tab RTab RdB
variable {M M' : Mem} {H H1 H2 : Hp}
theorem rightKept_K {x : SeV} {ks : List KeV} (hk : KpOk M x ks) (hq : 0 ≤ x.sq ∧ x.sq ≤ 18446744073709551615) (hn : ks.length ≤ 140737488355328) : K Try.prog 40 [seV x] M H fun v' M' H' => v' = .bool (decide (rKept x.sq ks)) ∧ M' = M ∧ H' = H := by
  obtain ⟨xi, xq, xu, A, n, c⟩ := x
  obtain ⟨p1, p2, p3, p4⟩ := hk
  dsimp only at p1 p2 p3 p4 hq ⊢
  subst p1
  refine K.enterK Try.func40 rfl rfl rfl ?_
  intro Q hNP hQ
  unfold seV uV SeV.kv
  dsimp only
  (repeat' (first | (apply R.step; (exact a_ok); exact rfl) | (first | (with_reducible first | apply R.nil | apply C.ret | apply C.block | apply C.skip | apply C.exit | apply Fin.thenRet | apply Fin.thenExit | apply Fin.blockNormal | apply Fin.blockRet | apply Fin.blockExit) | (with_reducible apply Fin.thenK; assumption) | (with_reducible apply C.seqK; intro _ _) | (with_reducible apply C.regionK; intro _ _) | (with_reducible apply Fin.blockOther; exact rfl)) | (apply R.store; exact rfl; exact rfl; exact rfl; (exact a_at); (exact a_blit); exact rfl; (focus (simp [Value.oneCell']; done))) | (first | (apply R.guardT; assumption; exact rfl; exact rfl; exact rfl) | (apply R.guardF; assumption; exact rfl; exact rfl; exact rfl; exact rfl; exact rfl) | (apply R.guardU; assumption; exact rfl; exact rfl; exact rfl; exact rfl) | (apply R.guardDec; assumption; exact rfl; exact rfl; (intro h; skip; rotate_left; intro h; skip; rotate_left)) | (apply R.guardBeq; assumption; exact rfl; exact rfl; (intro h; skip; rotate_left; intro h; skip; rotate_left)) | (apply R.guardBne; assumption; exact rfl; exact rfl; (intro h; skip; rotate_left; intro h; skip; rotate_left)) | (apply R.guardNDec; assumption; exact rfl; exact rfl; (intro h; skip; rotate_left; intro h; skip; rotate_left)) | (apply R.guardNot; assumption; exact rfl; exact rfl; (intro h; skip; rotate_left; intro h; skip; rotate_left)) | (apply R.guardC; assumption; exact rfl; exact rfl; (intro h; skip; rotate_left; intro h; skip; rotate_left))) | (first | (apply C.condT; exact rfl) | (apply C.condF; exact rfl) | (apply C.condDec; exact rfl; (intro h; skip; rotate_left; intro h; skip; rotate_left)) | (apply C.condBeq; exact rfl; (intro h; skip; rotate_left; intro h; skip; rotate_left)) | (apply C.condBne; exact rfl; (intro h; skip; rotate_left; intro h; skip; rotate_left)) | (apply C.condNDec; exact rfl; (intro h; skip; rotate_left; intro h; skip; rotate_left)) | (apply C.condNot; exact rfl; (intro h; skip; rotate_left; intro h; skip; rotate_left)) | (apply C.cond; exact rfl; (intro h; skip; rotate_left; intro h; skip; rotate_left)))))
  ((apply R.box; exact rfl; (simp only [Value.cells]; rfl); exact rfl); intro b1)
  (repeat' (first | (apply R.step; (exact a_ok); exact rfl) | (first | (with_reducible first | apply R.nil | apply C.ret | apply C.block | apply C.skip | apply C.exit | apply Fin.thenRet | apply Fin.thenExit | apply Fin.blockNormal | apply Fin.blockRet | apply Fin.blockExit) | (with_reducible apply Fin.thenK; assumption) | (with_reducible apply C.seqK; intro _ _) | (with_reducible apply C.regionK; intro _ _) | (with_reducible apply Fin.blockOther; exact rfl)) | (first | (apply R.store; exact rfl; exact rfl; exact rfl; (exact a_at); (exact a_blit); exact rfl; (focus (simp [Value.oneCell']; done))) | (apply R.buildSlice0; exact rfl; intro bz) | (apply R.box; exact rfl; (simp only [Value.cells]; rfl); exact rfl; intro bx) | (apply R.alloc; (simp only [Value.cells]; rfl); exact rfl; intro ba) | (apply R.buildSlice; (exact a_prt); exact rfl; exact rfl; (exact a_fills); exact rfl; intro bl)) | (first | (apply R.guardT; assumption; exact rfl; exact rfl; exact rfl) | (apply R.guardF; assumption; exact rfl; exact rfl; exact rfl; exact rfl; exact rfl) | (apply R.guardU; assumption; exact rfl; exact rfl; exact rfl; exact rfl) | (apply R.guardDec; assumption; exact rfl; exact rfl; (intro h; skip; rotate_left; intro h; skip; rotate_left)) | (apply R.guardBeq; assumption; exact rfl; exact rfl; (intro h; skip; rotate_left; intro h; skip; rotate_left)) | (apply R.guardBne; assumption; exact rfl; exact rfl; (intro h; skip; rotate_left; intro h; skip; rotate_left)) | (apply R.guardNDec; assumption; exact rfl; exact rfl; (intro h; skip; rotate_left; intro h; skip; rotate_left)) | (apply R.guardNot; assumption; exact rfl; exact rfl; (intro h; skip; rotate_left; intro h; skip; rotate_left)) | (apply R.guardC; assumption; exact rfl; exact rfl; (intro h; skip; rotate_left; intro h; skip; rotate_left))) | (first | (apply C.condT; exact rfl) | (apply C.condF; exact rfl) | (apply C.condDec; exact rfl; (intro h; skip; rotate_left; intro h; skip; rotate_left)) | (apply C.condBeq; exact rfl; (intro h; skip; rotate_left; intro h; skip; rotate_left)) | (apply C.condBne; exact rfl; (intro h; skip; rotate_left; intro h; skip; rotate_left)) | (apply C.condNDec; exact rfl; (intro h; skip; rotate_left; intro h; skip; rotate_left)) | (apply C.condNot; exact rfl; (intro h; skip; rotate_left; intro h; skip; rotate_left)) | (apply C.cond; exact rfl; (intro h; skip; rotate_left; intro h; skip; rotate_left)))))
  · have h1 : ¬ (ks.length : Int) = min xq 4 := by omega
    (apply Fin.returnA (H2 := H); assumption; exact .inl rfl; exact rfl; (exact a_res); (simp only [retv]; rfl); (exact a_arr))
    refine ⟨?_, rfl, rfl⟩
    rw [decide_eq_false (fun h => h1 h.1)]
  · have h1 : (ks.length : Int) = min xq 4 := by omega
    rw [← h1]
    have hnq : (ks.length : Int) ≤ xq := by omega
    apply C.loop (fun y : SmX => (y.i : Int) = y.ii ∧ y.i ≤ ks.length ∧ ∀ j, (h : j < ks.length) → j < y.i → kOk (xq - ks.length + j + 1) ks[j]) (fun y => [(1, .pointer (some ⟨b1, 0, none⟩)), (3, .int .u64 (ks.length : Int)), (18, .slice A ks.length c), (19, .int .i64 (ks.length : Int)), (20, .int .i64 y.ii)]) (fun _ => M) (fun _ => (b1, .cells [.int .u64 xi, .int .u64 xq, .int .u64 xu, .slice A ks.length c].toArray 43 (0, 0)) :: H) (fun y => ks.length - y.i) ⟨0, 0⟩
    · exact ⟨rfl, Nat.zero_le _, fun j _ hj => absurd hj (Nat.not_lt_zero _)⟩
    · (exact a_subs)
    · exact rfl
    · exact rfl
    rintro ⟨i, ii⟩ ⟨hii, hin, hall⟩
    dsimp only at hii hin hall ⊢
    (repeat' (first | (apply R.step; (exact a_ok); exact rfl) | (first | (with_reducible first | apply R.nil | apply C.ret | apply C.block | apply C.skip | apply C.exit | apply Fin.thenRet | apply Fin.thenExit | apply Fin.blockNormal | apply Fin.blockRet | apply Fin.blockExit) | (with_reducible apply Fin.thenK; assumption) | (with_reducible apply C.seqK; intro _ _) | (with_reducible apply C.regionK; intro _ _) | (with_reducible apply Fin.blockOther; exact rfl)) | (first | (apply R.store; exact rfl; exact rfl; exact rfl; (exact a_at); (exact a_blit); exact rfl; (focus (simp [Value.oneCell']; done))) | (apply R.buildSlice0; exact rfl; intro bz) | (apply R.box; exact rfl; (simp only [Value.cells]; rfl); exact rfl; intro bx) | (apply R.alloc; (simp only [Value.cells]; rfl); exact rfl; intro ba) | (apply R.buildSlice; (exact a_prt); exact rfl; exact rfl; (exact a_fills); exact rfl; intro bl)) | (first | (apply R.guardT; assumption; exact rfl; exact rfl; exact rfl) | (apply R.guardF; assumption; exact rfl; exact rfl; exact rfl; exact rfl; exact rfl) | (apply R.guardU; assumption; exact rfl; exact rfl; exact rfl; exact rfl) | (apply R.guardDec; assumption; exact rfl; exact rfl; (intro h; skip; rotate_left; intro h; skip; rotate_left)) | (apply R.guardBeq; assumption; exact rfl; exact rfl; (intro h; skip; rotate_left; intro h; skip; rotate_left)) | (apply R.guardBne; assumption; exact rfl; exact rfl; (intro h; skip; rotate_left; intro h; skip; rotate_left)) | (apply R.guardNDec; assumption; exact rfl; exact rfl; (intro h; skip; rotate_left; intro h; skip; rotate_left)) | (apply R.guardNot; assumption; exact rfl; exact rfl; (intro h; skip; rotate_left; intro h; skip; rotate_left)) | (apply R.guardC; assumption; exact rfl; exact rfl; (intro h; skip; rotate_left; intro h; skip; rotate_left))) | (first | (apply C.condT; exact rfl) | (apply C.condF; exact rfl) | (apply C.condDec; exact rfl; (intro h; skip; rotate_left; intro h; skip; rotate_left)) | (apply C.condBeq; exact rfl; (intro h; skip; rotate_left; intro h; skip; rotate_left)) | (apply C.condBne; exact rfl; (intro h; skip; rotate_left; intro h; skip; rotate_left)) | (apply C.condNDec; exact rfl; (intro h; skip; rotate_left; intro h; skip; rotate_left)) | (apply C.condNot; exact rfl; (intro h; skip; rotate_left; intro h; skip; rotate_left)) | (apply C.cond; exact rfl; (intro h; skip; rotate_left; intro h; skip; rotate_left)))))
    · have hlt : ii < (ks.length : Int) := by assumption
      have hil : i < ks.length := by omega
      have hbad : ¬ kOk (xq - ks.length + i + 1) ks[i] → ¬ rKept xq ks := fun hb hr => hb (hr.2 i hil)
      have hgood : kOk (xq - ks.length + i + 1) ks[i] → ∀ j, (h : j < ks.length) → j < i + 1 → kOk (xq - ks.length + j + 1) ks[j] := fun hg j hj hji => by
        rcases Nat.lt_or_ge j i with h | h
        · exact hall j hj h
        · have hje : j = i := by omega
          subst hje
          exact hg
      obtain ⟨b0, o0, c0, e0, f0, rfl, hMb, hc⟩ := ke_at p4 hil
      have hst : ∀ j u, (keC ks[i])[j]? = some u → c0[o0 + ii.toNat * 6 + j]? = some u := fun j u hj => by
        rw [show ii.toNat = i by omega]
        exact hc j u hj
      clear hc
      unfold keC at hst
      generalize ks[i] = z at hst hbad hgood
      obtain ⟨zs, z1, z2, z3, z4, z5⟩ := z
      unfold kOk at hbad hgood
      dsimp only at hst hbad hgood
      (repeat' (first | (apply R.step; (exact a_ok); exact rfl) | (first | (with_reducible first | apply R.nil | apply C.ret | apply C.block | apply C.skip | apply C.exit | apply Fin.thenRet | apply Fin.thenExit | apply Fin.blockNormal | apply Fin.blockRet | apply Fin.blockExit) | (with_reducible apply Fin.thenK; assumption) | (with_reducible apply C.seqK; intro _ _) | (with_reducible apply C.regionK; intro _ _) | (with_reducible apply Fin.blockOther; exact rfl)) | (first | (apply R.store; exact rfl; exact rfl; exact rfl; (exact a_at); (exact a_blit); exact rfl; (focus (simp [Value.oneCell']; done))) | (apply R.buildSlice0; exact rfl; intro bz) | (apply R.box; exact rfl; (simp only [Value.cells]; rfl); exact rfl; intro bx) | (apply R.alloc; (simp only [Value.cells]; rfl); exact rfl; intro ba) | (apply R.buildSlice; (exact a_prt); exact rfl; exact rfl; (exact a_fills); exact rfl; intro bl)) | (first | (apply R.guardT; assumption; exact rfl; exact rfl; exact rfl) | (apply R.guardF; assumption; exact rfl; exact rfl; exact rfl; exact rfl; exact rfl) | (apply R.guardU; assumption; exact rfl; exact rfl; exact rfl; exact rfl) | (apply R.guardDec; assumption; exact rfl; exact rfl; (intro h; skip; rotate_left; intro h; skip; rotate_left)) | (apply R.guardBeq; assumption; exact rfl; exact rfl; (intro h; skip; rotate_left; intro h; skip; rotate_left)) | (apply R.guardBne; assumption; exact rfl; exact rfl; (intro h; skip; rotate_left; intro h; skip; rotate_left)) | (apply R.guardNDec; assumption; exact rfl; exact rfl; (intro h; skip; rotate_left; intro h; skip; rotate_left)) | (apply R.guardNot; assumption; exact rfl; exact rfl; (intro h; skip; rotate_left; intro h; skip; rotate_left)) | (apply R.guardC; assumption; exact rfl; exact rfl; (intro h; skip; rotate_left; intro h; skip; rotate_left))) | (first | (apply C.condT; exact rfl) | (apply C.condF; exact rfl) | (apply C.condDec; exact rfl; (intro h; skip; rotate_left; intro h; skip; rotate_left)) | (apply C.condBeq; exact rfl; (intro h; skip; rotate_left; intro h; skip; rotate_left)) | (apply C.condBne; exact rfl; (intro h; skip; rotate_left; intro h; skip; rotate_left)) | (apply C.condNDec; exact rfl; (intro h; skip; rotate_left; intro h; skip; rotate_left)) | (apply C.condNot; exact rfl; (intro h; skip; rotate_left; intro h; skip; rotate_left)) | (apply C.cond; exact rfl; (intro h; skip; rotate_left; intro h; skip; rotate_left)))))
      (apply C.regionO (ks := [1, 1, 1, 1, 1, 1, 1, 1, 1]) (is := [0, 1, 2, 3, 4, 5, 6, 7, 8]) (Hs := _); exact Mix.h; exact Arr.self; (exact a_np); (exact a_picked); kernel_rfl; intro _ e; subst e)
      (repeat' (first | (first | (apply RP.step; intro _ _ _; (exact a_ok); exact rfl) | (apply RP.stepT; exact rfl; exact rfl; exact rfl; intro _ _ _; (exact a_ok); exact rfl) | (apply RP.stepF; exact rfl; exact rfl; exact rfl; exact rfl; exact rfl) | (apply RP.effF; exact rfl; exact rfl; exact rfl; exact rfl; exact rfl)) | (apply RP.callQ; (exact a_evs); exact rfl)))
      (first | apply RP.nil0 | apply RP.nil)
      (repeat' (first | (apply R.step; (exact a_ok); exact rfl) | (first | (with_reducible first | apply R.nil | apply C.ret | apply C.block | apply C.skip | apply C.exit | apply Fin.thenRet | apply Fin.thenExit | apply Fin.blockNormal | apply Fin.blockRet | apply Fin.blockExit) | (with_reducible apply Fin.thenK; assumption) | (with_reducible apply C.seqK; intro _ _) | (with_reducible apply C.regionK; intro _ _) | (with_reducible apply Fin.blockOther; exact rfl)) | (first | (apply R.store; exact rfl; exact rfl; exact rfl; (exact a_at); (exact a_blit); exact rfl; (focus (simp [Value.oneCell']; done))) | (apply R.buildSlice0; exact rfl; intro bz) | (apply R.box; exact rfl; (simp only [Value.cells]; rfl); exact rfl; intro bx) | (apply R.alloc; (simp only [Value.cells]; rfl); exact rfl; intro ba) | (apply R.buildSlice; (exact a_prt); exact rfl; exact rfl; (exact a_fills); exact rfl; intro bl)) | (first | (apply R.guardT; assumption; exact rfl; exact rfl; exact rfl) | (apply R.guardF; assumption; exact rfl; exact rfl; exact rfl; exact rfl; exact rfl) | (apply R.guardU; assumption; exact rfl; exact rfl; exact rfl; exact rfl) | (apply R.guardDec; assumption; exact rfl; exact rfl; (intro h; skip; rotate_left; intro h; skip; rotate_left)) | (apply R.guardBeq; assumption; exact rfl; exact rfl; (intro h; skip; rotate_left; intro h; skip; rotate_left)) | (apply R.guardBne; assumption; exact rfl; exact rfl; (intro h; skip; rotate_left; intro h; skip; rotate_left)) | (apply R.guardNDec; assumption; exact rfl; exact rfl; (intro h; skip; rotate_left; intro h; skip; rotate_left)) | (apply R.guardNot; assumption; exact rfl; exact rfl; (intro h; skip; rotate_left; intro h; skip; rotate_left)) | (apply R.guardC; assumption; exact rfl; exact rfl; (intro h; skip; rotate_left; intro h; skip; rotate_left))) | (first | (apply C.condT; exact rfl) | (apply C.condF; exact rfl) | (apply C.condDec; exact rfl; (intro h; skip; rotate_left; intro h; skip; rotate_left)) | (apply C.condBeq; exact rfl; (intro h; skip; rotate_left; intro h; skip; rotate_left)) | (apply C.condBne; exact rfl; (intro h; skip; rotate_left; intro h; skip; rotate_left)) | (apply C.condNDec; exact rfl; (intro h; skip; rotate_left; intro h; skip; rotate_left)) | (apply C.condNot; exact rfl; (intro h; skip; rotate_left; intro h; skip; rotate_left)) | (apply C.cond; exact rfl; (intro h; skip; rotate_left; intro h; skip; rotate_left)))))
      all_goals (first
        | ((apply Fin.returnA (H2 := H); assumption; exact .inl rfl; exact rfl; (exact a_res); (simp only [retv]; rfl); (exact a_arr)); refine ⟨?_, rfl, rfl⟩; rw [decide_eq_false (hbad (by omega))])
        | (apply Fin.arr (H2 := (b1, .cells [.int .u64 xi, .int .u64 xq, .int .u64 xu, .slice (some ⟨b0, o0, none⟩) ks.length c].toArray 43 (0, 0)) :: H) (by ((try simp only [List.append_assoc, List.cons_append, List.nil_append, List.append_nil]); exact a_arr)); refine Fin.again (⟨i + 1, ii + 1⟩ : SmX) ⟨by dsimp only; omega, by dsimp only; omega, hgood (by omega)⟩ (by dsimp only; omega) ?_ rfl rfl; (exact a_subs)))
    · have hlt : ¬ ii < (ks.length : Int) := by assumption
      (apply Fin.returnA (H2 := H); assumption; exact .inl rfl; exact rfl; (exact a_res); (simp only [retv]; rfl); (exact a_arr))
      refine ⟨?_, rfl, rfl⟩
      rw [decide_eq_true ⟨h1, fun j hj => hall j hj (by omega)⟩]
end Go.Sx
namespace Go.Sx
open Go Go.Proofs Go.RowKit
def rOne (a : Int) (s : Ses) : Prop := a < s.x.id ∧ s.x.id ≤ 72057594037927935 ∧ s.x.sq ≤ 72057594037927935 ∧ s.x.us ≤ 72057594037927935 ∧ rKept s.x.sq s.ks
instance (a : Int) (s : Ses) : Decidable (rOne a s) := by unfold rOne; infer_instance
def rOk : Int → List Ses → Prop
  | _, [] => True
  | a, s :: r => rOne a s ∧ rOk s.x.id r
instance rOkDec : ∀ (a : Int) (l : List Ses), Decidable (rOk a l)
  | _, [] => isTrue trivial
  | a, s :: r => by
    have := rOkDec s.x.id r
    unfold rOk
    infer_instance
def rightP (l : List Ses) (most : Int) : Prop := 1 ≤ most ∧ most ≤ 16 ∧ (l.length : Int) ≤ most ∧ rOk 0 l
instance (l : List Ses) (most : Int) : Decidable (rightP l most) := by unfold rightP; infer_instance
structure RtX where
  i : Nat
  ii : Int
  a : Int
attribute [local irreducible] C R Fin K Own OwnT Rd Pl Ok KOf RetOk OpsOf RP KP Res NoPanic KV KE Tab RTab RdB
variable {M M' : Mem} {H H1 H2 : Hp}
theorem right_K {v : Value} {xs : List Ses} {most : Int} (hx : PlS M v xs) (hb : ∀ s ∈ xs, 0 ≤ s.x.sq ∧ s.x.sq ≤ 18446744073709551615 ∧ s.ks.length ≤ 140737488355328) : K Try.prog 24 [v, .int .i64 most] M H fun v' M' H' => v' = .bool (decide (rightP xs most)) ∧ M' = M ∧ H' = H := by
  obtain ⟨A, c, rfl, g1, g2, g3, g4⟩ := hx
  refine K.enterK Try.func24 rfl rfl rfl ?_
  intro Q hNP hQ
  have hno : (¬ (1 ≤ most ∧ most ≤ 16 ∧ (xs.length : Int) ≤ most)) → ¬ rightP xs most := fun h hr => h ⟨hr.1, hr.2.1, hr.2.2.1⟩
  (repeat' (first | (apply R.step; (exact a_ok); exact rfl) | (first | (with_reducible first | apply R.nil | apply C.ret | apply C.block | apply C.skip | apply C.exit | apply Fin.thenRet | apply Fin.thenExit | apply Fin.blockNormal | apply Fin.blockRet | apply Fin.blockExit) | (with_reducible apply Fin.thenK; assumption) | (with_reducible apply C.seqK; intro _ _) | (with_reducible apply C.regionK; intro _ _) | (with_reducible apply Fin.blockOther; exact rfl)) | (first | (apply R.store; exact rfl; exact rfl; exact rfl; (exact a_at); (exact a_blit); exact rfl; (focus (simp [Value.oneCell']; done))) | (apply R.buildSlice0; exact rfl; intro bz) | (apply R.box; exact rfl; (simp only [Value.cells]; rfl); exact rfl; intro bx) | (apply R.alloc; (simp only [Value.cells]; rfl); exact rfl; intro ba) | (apply R.buildSlice; (exact a_prt); exact rfl; exact rfl; (exact a_fills); exact rfl; intro bl)) | (first | (apply R.guardT; assumption; exact rfl; exact rfl; exact rfl) | (apply R.guardF; assumption; exact rfl; exact rfl; exact rfl; exact rfl; exact rfl) | (apply R.guardU; assumption; exact rfl; exact rfl; exact rfl; exact rfl) | (apply R.guardDec; assumption; exact rfl; exact rfl; (intro h; skip; rotate_left; intro h; skip; rotate_left)) | (apply R.guardBeq; assumption; exact rfl; exact rfl; (intro h; skip; rotate_left; intro h; skip; rotate_left)) | (apply R.guardBne; assumption; exact rfl; exact rfl; (intro h; skip; rotate_left; intro h; skip; rotate_left)) | (apply R.guardNDec; assumption; exact rfl; exact rfl; (intro h; skip; rotate_left; intro h; skip; rotate_left)) | (apply R.guardNot; assumption; exact rfl; exact rfl; (intro h; skip; rotate_left; intro h; skip; rotate_left)) | (apply R.guardC; assumption; exact rfl; exact rfl; (intro h; skip; rotate_left; intro h; skip; rotate_left))) | (first | (apply C.condT; exact rfl) | (apply C.condF; exact rfl) | (apply C.condDec; exact rfl; (intro h; skip; rotate_left; intro h; skip; rotate_left)) | (apply C.condBeq; exact rfl; (intro h; skip; rotate_left; intro h; skip; rotate_left)) | (apply C.condBne; exact rfl; (intro h; skip; rotate_left; intro h; skip; rotate_left)) | (apply C.condNDec; exact rfl; (intro h; skip; rotate_left; intro h; skip; rotate_left)) | (apply C.condNot; exact rfl; (intro h; skip; rotate_left; intro h; skip; rotate_left)) | (apply C.cond; exact rfl; (intro h; skip; rotate_left; intro h; skip; rotate_left)))))
  · (apply Fin.returnA (H2 := H); assumption; exact .inl rfl; exact rfl; (exact a_res); (simp only [retv]; rfl); (exact a_arr))
    refine ⟨?_, rfl, rfl⟩
    rw [decide_eq_false (hno (by omega))]
  · (apply Fin.returnA (H2 := H); assumption; exact .inl rfl; exact rfl; (exact a_res); (simp only [retv]; rfl); (exact a_arr))
    refine ⟨?_, rfl, rfl⟩
    rw [decide_eq_false (hno (by omega))]
  · (apply Fin.returnA (H2 := H); assumption; exact .inl rfl; exact rfl; (exact a_res); (simp only [retv]; rfl); (exact a_arr))
    refine ⟨?_, rfl, rfl⟩
    rw [decide_eq_false (hno (by omega))]
  · have hyes : rightP xs most ↔ rOk 0 xs := ⟨fun h => h.2.2.2, fun h => ⟨by omega, by omega, by omega, h⟩⟩
    apply C.loop (fun y : RtX => (y.i : Int) = y.ii ∧ y.i ≤ xs.length ∧ (rOk 0 xs ↔ rOk y.a (xs.drop y.i))) (fun y => [(5, .int .u64 y.a), (20, .slice A xs.length c), (21, .int .i64 (xs.length : Int)), (22, .int .i64 y.ii)]) (fun _ => M) (fun _ => H) (fun y => xs.length - y.i) ⟨0, 0, 0⟩
    · exact ⟨rfl, Nat.zero_le _, Iff.rfl⟩
    · (exact a_subs)
    · exact rfl
    · exact rfl
    rintro ⟨i, ii, a⟩ ⟨hii, hin, hra⟩
    dsimp only at hii hin hra ⊢
    (repeat' (first | (apply R.step; (exact a_ok); exact rfl) | (first | (with_reducible first | apply R.nil | apply C.ret | apply C.block | apply C.skip | apply C.exit | apply Fin.thenRet | apply Fin.thenExit | apply Fin.blockNormal | apply Fin.blockRet | apply Fin.blockExit) | (with_reducible apply Fin.thenK; assumption) | (with_reducible apply C.seqK; intro _ _) | (with_reducible apply C.regionK; intro _ _) | (with_reducible apply Fin.blockOther; exact rfl)) | (first | (apply R.store; exact rfl; exact rfl; exact rfl; (exact a_at); (exact a_blit); exact rfl; (focus (simp [Value.oneCell']; done))) | (apply R.buildSlice0; exact rfl; intro bz) | (apply R.box; exact rfl; (simp only [Value.cells]; rfl); exact rfl; intro bx) | (apply R.alloc; (simp only [Value.cells]; rfl); exact rfl; intro ba) | (apply R.buildSlice; (exact a_prt); exact rfl; exact rfl; (exact a_fills); exact rfl; intro bl)) | (first | (apply R.guardT; assumption; exact rfl; exact rfl; exact rfl) | (apply R.guardF; assumption; exact rfl; exact rfl; exact rfl; exact rfl; exact rfl) | (apply R.guardU; assumption; exact rfl; exact rfl; exact rfl; exact rfl) | (apply R.guardDec; assumption; exact rfl; exact rfl; (intro h; skip; rotate_left; intro h; skip; rotate_left)) | (apply R.guardBeq; assumption; exact rfl; exact rfl; (intro h; skip; rotate_left; intro h; skip; rotate_left)) | (apply R.guardBne; assumption; exact rfl; exact rfl; (intro h; skip; rotate_left; intro h; skip; rotate_left)) | (apply R.guardNDec; assumption; exact rfl; exact rfl; (intro h; skip; rotate_left; intro h; skip; rotate_left)) | (apply R.guardNot; assumption; exact rfl; exact rfl; (intro h; skip; rotate_left; intro h; skip; rotate_left)) | (apply R.guardC; assumption; exact rfl; exact rfl; (intro h; skip; rotate_left; intro h; skip; rotate_left))) | (first | (apply C.condT; exact rfl) | (apply C.condF; exact rfl) | (apply C.condDec; exact rfl; (intro h; skip; rotate_left; intro h; skip; rotate_left)) | (apply C.condBeq; exact rfl; (intro h; skip; rotate_left; intro h; skip; rotate_left)) | (apply C.condBne; exact rfl; (intro h; skip; rotate_left; intro h; skip; rotate_left)) | (apply C.condNDec; exact rfl; (intro h; skip; rotate_left; intro h; skip; rotate_left)) | (apply C.condNot; exact rfl; (intro h; skip; rotate_left; intro h; skip; rotate_left)) | (apply C.cond; exact rfl; (intro h; skip; rotate_left; intro h; skip; rotate_left)))))
    · have hlt : ii < (xs.length : Int) := by assumption
      have hix : i < xs.length := by omega
      have hxo := g4 _ (List.getElem_mem hix)
      have hxb := hb _ (List.getElem_mem hix)
      rw [List.drop_eq_getElem_cons hix] at hra
      obtain ⟨b0, o0, c0, e0, f0, rfl, hMb, hc⟩ := ses_at g3 hix
      have hst : ∀ q u, (seC xs[i].x)[q]? = some u → c0[o0 + ii.toNat * 4 + q]? = some u := fun q u hq => by
        rw [show ii.toNat = i by omega]
        exact hc q u hq
      clear hc
      generalize xs[i] = s at hst hxo hxb hra
      have hbad : ¬ rOne a s → ¬ rightP xs most := fun hb2 hr => hb2 (hra.1 (hyes.1 hr)).1
      have hgood : rOne a s → (rOk 0 xs ↔ rOk s.x.id (xs.drop (i + 1))) := fun hg => hra.trans ⟨fun h => h.2, fun h => ⟨hg, h⟩⟩
      clear hra
      unfold seC uV SeV.kv at hst
      unfold rOne at hbad hgood
      have hxq : 0 ≤ s.x.sq ∧ s.x.sq ≤ 18446744073709551615 := ⟨hxb.1, hxb.2.1⟩
      have hxn := hxb.2.2
      (repeat' (first | (apply R.step; (exact a_ok); exact rfl) | (first | (with_reducible first | apply R.nil | apply C.ret | apply C.block | apply C.skip | apply C.exit | apply Fin.thenRet | apply Fin.thenExit | apply Fin.blockNormal | apply Fin.blockRet | apply Fin.blockExit) | (with_reducible apply Fin.thenK; assumption) | (with_reducible apply C.seqK; intro _ _) | (with_reducible apply C.regionK; intro _ _) | (with_reducible apply Fin.blockOther; exact rfl)) | (first | (apply R.store; exact rfl; exact rfl; exact rfl; (exact a_at); (exact a_blit); exact rfl; (focus (simp [Value.oneCell']; done))) | (apply R.buildSlice0; exact rfl; intro bz) | (apply R.box; exact rfl; (simp only [Value.cells]; rfl); exact rfl; intro bx) | (apply R.alloc; (simp only [Value.cells]; rfl); exact rfl; intro ba) | (apply R.buildSlice; (exact a_prt); exact rfl; exact rfl; (exact a_fills); exact rfl; intro bl)) | (first | (apply R.guardT; assumption; exact rfl; exact rfl; exact rfl) | (apply R.guardF; assumption; exact rfl; exact rfl; exact rfl; exact rfl; exact rfl) | (apply R.guardU; assumption; exact rfl; exact rfl; exact rfl; exact rfl) | (apply R.guardDec; assumption; exact rfl; exact rfl; (intro h; skip; rotate_left; intro h; skip; rotate_left)) | (apply R.guardBeq; assumption; exact rfl; exact rfl; (intro h; skip; rotate_left; intro h; skip; rotate_left)) | (apply R.guardBne; assumption; exact rfl; exact rfl; (intro h; skip; rotate_left; intro h; skip; rotate_left)) | (apply R.guardNDec; assumption; exact rfl; exact rfl; (intro h; skip; rotate_left; intro h; skip; rotate_left)) | (apply R.guardNot; assumption; exact rfl; exact rfl; (intro h; skip; rotate_left; intro h; skip; rotate_left)) | (apply R.guardC; assumption; exact rfl; exact rfl; (intro h; skip; rotate_left; intro h; skip; rotate_left))) | (first | (apply C.condT; exact rfl) | (apply C.condF; exact rfl) | (apply C.condDec; exact rfl; (intro h; skip; rotate_left; intro h; skip; rotate_left)) | (apply C.condBeq; exact rfl; (intro h; skip; rotate_left; intro h; skip; rotate_left)) | (apply C.condBne; exact rfl; (intro h; skip; rotate_left; intro h; skip; rotate_left)) | (apply C.condNDec; exact rfl; (intro h; skip; rotate_left; intro h; skip; rotate_left)) | (apply C.condNot; exact rfl; (intro h; skip; rotate_left; intro h; skip; rotate_left)) | (apply C.cond; exact rfl; (intro h; skip; rotate_left; intro h; skip; rotate_left))) | (apply R.call; (exact a_evs); exact rfl; (first | exact rightKept_K hxo hxq hxn); rintro _ _ _ ⟨rfl, e1_, e2_⟩; replace e1_ := e1_.symm; subst e1_; replace e2_ := e2_.symm; subst e2_)))
      all_goals (first
        | ((apply Fin.returnA (H2 := H); assumption; exact .inl rfl; exact rfl; (exact a_res); (simp only [retv]; rfl); (exact a_arr)); refine ⟨?_, rfl, rfl⟩; rw [decide_eq_false (hbad (by omega))])
        | ((apply Fin.returnA (H2 := H); assumption; exact .inl rfl; exact rfl; (exact a_res); (simp only [retv]; rfl); (exact a_arr)); refine ⟨?_, rfl, rfl⟩; rw [decide_eq_false (hbad (fun h => absurd h.2.2.2.2 (by assumption)))])
        | (apply Fin.arr (H2 := H) (by ((try simp only [List.append_assoc, List.cons_append, List.nil_append, List.append_nil]); exact a_arr)); refine Fin.again (⟨i + 1, ii + 1, s.x.id⟩ : RtX) ⟨by dsimp only; omega, by dsimp only; omega, hgood ⟨by omega, by omega, by omega, by omega, by assumption⟩⟩ (by dsimp only; omega) ?_ rfl rfl; (exact a_subs)))
    · have hlt : ¬ ii < (xs.length : Int) := by assumption
      have hie : i = xs.length := by omega
      rw [hie, List.drop_length] at hra
      (apply Fin.returnA (H2 := H); assumption; exact .inl rfl; exact rfl; (exact a_res); (simp only [retv]; rfl); (exact a_arr))
      refine ⟨?_, rfl, rfl⟩
      rw [decide_eq_true (hyes.2 (hra.2 trivial))]
end Go.Sx
