/- The law RlogPlays: its row, out of the walk. -/
import Derived.Test.YtcjijappnefgaaaRows
import Derived.Test.YtcjijappnefgaaaR25
namespace Go.Proofs.Ytcjijappnefgaaa.rlogPlays
open Go.Sx Go.ChangeShapes Go.WideShapes Go.ChangeAt Go.RowKit
theorem own : ownKnob Try.prog.godebug = none := by kernel_rfl
theorem laidOut : laidOutB Try.prog = true := by kernel_rfl
set_option maxRecDepth 100000 in
theorem lifted (os : Os) (started : os.Started) (H : Type) (enc : TypeId × Value → H) :
    ReturnsInHanded {} Try.checked os 7 .any (Rows.rlogPlaysSpec.pre6 enc Try.prog Try.f7 Rows.rlogPlaysRow.domain false) (Rows.rlogPlaysSpec.post enc Try.prog Try.f7 false true false false) := by
  refine returnsInHanded_of_change_sized (C := Try.checked) own started (by kernel_rfl) Try.func7
    (ChangeSpec.witness6 (enc := enc) (C := Try.checked) false ⟨#[], #[.agg #[.int .u64 0, .int .u64 0, .int .i64 0], .slice none 0 0, .slice none 0 0], []⟩ 8 (by kernel_rfl) (by kernel_rfl) (by kernel_rfl) (by kernel_rfl)) ?_
  intro W base args ds gs before hval0 hW hcnd hsz0 _
  have hsz : (DataW.weightsEach Try.prog (Try.f7.params.toList ++ Rows.rlogPlaysSpec.plain.varTypes Try.prog) (ds ++ gs)).all (· ≤ reachBytes) = true := hsz0
  have hval : ∀ (j : Nat) t v, Try.f7.params[j]? = some t → args[j]? = some v → Value.okWide Try.prog W .any base t v := hval0
  have hW' : DataW.Whole enc Try.prog Try.f7.params.toList Rows.rlogPlaysSpec.vars false W args.toList ds gs before := hW
  obtain ⟨p, q, hA0, hV, rfl, hfz, hnd⟩ := hW
  have hA : DataW.TrodAll enc Try.prog W 0 (fun _ => true) true Try.f7.params.toList args.toList ds p := hA0
  rw [Try.params7] at hA hval hsz
  obtain ⟨v0, vs0, d0, ds0, p0, q0, hargs, rfl, rfl, h0, r0⟩ := trodAll_cons hA
  obtain ⟨v1, vs1, d1, ds1, p1, q1, rfl, rfl, rfl, h1, r1⟩ := trodAll_cons r0
  obtain ⟨v2, vs2, d2, ds2, p2, q2, rfl, rfl, rfl, h2, r2⟩ := trodAll_cons r1
  obtain ⟨rfl, rfl, rfl⟩ := trodAll_nil r2
  obtain rfl : args = #[v0, v1, v2] := by cases args; simp_all
  obtain ⟨cs0, m0, rfl, rd0⟩ := arg_struct Try.underlying34 (hval 0 34 v0 rfl rfl) h0
  have wg0 := wgt_each (j := 0) hsz rfl rfl
  obtain ⟨A1, css1, cap1, rfl, l1, pl1, w1, all1⟩ := arg_slice (hval 1 22 v1 rfl rfl) h1 (wgt_each (j := 1) hsz rfl rfl)
  obtain ⟨A2, css2, cap2, rfl, l2, pl2, w2, all2⟩ := arg_slice (hval 2 61 v2 rfl rfl) h2 (wgt_each (j := 2) hsz rfl rfl)
  refine law_calls (s := Rows.rlogPlaysSpec) (tb := 4) hW' rfl (fun ds hl => ?_) laidOut (of_decide_eq_true (by kernel_rfl)) rfl Try.underlying4 ?_
  · match ds, hl with
    | [_, _, _], _ => rfl
  · exact by
      obtain ⟨b, hcs, hbi, hbt, hbc⟩ := rd_base rd0 wg0
      obtain rfl : cs0 = (bcells b).toArray := by rw [← hcs]
      obtain ⟨es, hel, hE, hd, hr⟩ := arg_ens l1 pl1 w1 all1
      exact rlogPlays_K hE hr hbi hbt pl2 (by omega) (fun c hc => (all2 c hc).1) (fun c hc => by
        obtain ⟨_, m, y, h, g⟩ := all2 c hc
        exact rd_st h g)
theorem over : Rows.RlogPlaysSaid :=
  OpenClaim.holds_of_wide 7 Try.f7 rfl rfl rfl rfl rfl rfl rfl ⟨rfl, rfl, rfl, rfl, rfl⟩ rfl rfl rfl rfl rfl (by kernel_rfl) Try.func7 (by kernel_rfl)
    (of_decide_eq_true (by kernel_rfl)) (by unfold Func.isWrapper; first | (rw [if_pos (by decide +kernel)]; kernel_rfl) | (rw [if_neg (by decide +kernel)]; exact ⟨rfl, rfl⟩))
    (fun os started H enc _ => lifted os started H enc)
end Go.Proofs.Ytcjijappnefgaaa.rlogPlays
namespace Go.Proofs.Ytcjijappnefgaaa
/-- The law RlogPlays. -/
theorem rlogPlays_holds : Rows.RlogPlaysSaid := rlogPlays.over
end Go.Proofs.Ytcjijappnefgaaa
