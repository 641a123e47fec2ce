import Derived.Test.YtpjmlcnboedpeaaRows
import Derived.Test.YtpjmlcnboedpeaaZSegKeeps5
namespace Go.Proofs.Ytpjmlcnboedpeaa.segKeeps
open Go.Sx Go.ChangeShapes Go.WideShapes Go.ChangeAt Go.RowKit
theorem own : ownKnob Try.prog.godebug = none := by kernel_rfl
theorem laidOut : laidOutB Try.prog = true := by kernel_rfl
set_option maxRecDepth 100000 in
theorem lifted (os : Os) (started : os.Started) (H : Type) (enc : TypeId × Value → H) :
    ReturnsInHanded {} Try.checked os 7 .any (Rows.segKeepsSpec.pre6 enc Try.prog Try.f7 Rows.segKeepsRow.domain false) (Rows.segKeepsSpec.post enc Try.prog Try.f7 false true false false) := by
  refine returnsInHanded_of_change_sized (C := Try.checked) own started (by kernel_rfl) Try.func7
    (ChangeSpec.witness6 (enc := enc) (C := Try.checked) false ⟨#[], #[.int .i64 0, .slice none 0 0, .slice none 0 0, .int .i64 0, .int .i64 0], []⟩ 8 (by kernel_rfl) (by kernel_rfl) (by kernel_rfl) (by kernel_rfl)) ?_
  intro W base args ds gs before hval0 hW hcnd hsz0 _
  have hsz : (DataW.weightsEach Try.prog (Try.f7.params.toList ++ Rows.segKeepsSpec.plain.varTypes Try.prog) (ds ++ gs)).all (· ≤ reachBytes) = true := hsz0
  have hval : ∀ (j : Nat) t v, Try.f7.params[j]? = some t → args[j]? = some v → Value.okWide Try.prog W .any base t v := hval0
  have hW' : DataW.Whole enc Try.prog Try.f7.params.toList Rows.segKeepsSpec.vars false W args.toList ds gs before := hW
  obtain ⟨p, q, hA0, hV, rfl, hfz, hnd⟩ := hW
  have hA : DataW.TrodAll enc Try.prog W 0 (fun _ => true) true Try.f7.params.toList args.toList ds p := hA0
  rw [Try.params7] at hA hval hsz
  obtain ⟨v0, vs0, d0, ds0, p0, q0, hargs, rfl, rfl, h0, r0⟩ := trodAll_cons hA
  obtain ⟨v1, vs1, d1, ds1, p1, q1, rfl, rfl, rfl, h1, r1⟩ := trodAll_cons r0
  obtain ⟨v2, vs2, d2, ds2, p2, q2, rfl, rfl, rfl, h2, r2⟩ := trodAll_cons r1
  obtain ⟨v3, vs3, d3, ds3, p3, q3, rfl, rfl, rfl, h3, r3⟩ := trodAll_cons r2
  obtain ⟨v4, vs4, d4, ds4, p4, q4, rfl, rfl, rfl, h4, r4⟩ := trodAll_cons r3
  obtain ⟨rfl, rfl, rfl⟩ := trodAll_nil r4
  obtain rfl : args = #[v0, v1, v2, v3, v4] := by cases args; simp_all
  obtain ⟨z0, rfl, w0⟩ := arg_int (hval 0 3 v0 rfl rfl) h0
  obtain ⟨A1, css1, cap1, rfl, l1, pl1, w1, all1⟩ := arg_slice (hval 1 42 v1 rfl rfl) h1 (wgt_each (j := 1) hsz rfl rfl)
  obtain ⟨A2, css2, cap2, rfl, l2, pl2, w2, all2⟩ := arg_slice (hval 2 42 v2 rfl rfl) h2 (wgt_each (j := 2) hsz rfl rfl)
  obtain ⟨z3, rfl, w3⟩ := arg_int (hval 3 3 v3 rfl rfl) h3
  obtain ⟨z4, rfl, w4⟩ := arg_int (hval 4 3 v4 rfl rfl) h4
  refine law_calls (s := Rows.segKeepsSpec) (tb := 4) hW' rfl (fun ds hl => ?_) laidOut (of_decide_eq_true (by kernel_rfl)) rfl Try.underlying4 ?_
  · match ds, hl with
    | [_, _, _, _, _], _ => rfl
  · exact by (obtain ⟨es1, _, hE1, _, hr1⟩ := arg_ens l1 pl1 w1 all1; obtain ⟨es2, _, hE2, _, hr2⟩ := arg_ens l2 pl2 w2 all2; exact segKeeps_K hE1 hr1 hE2 hr2)
theorem over : Rows.SegKeepsSaid :=
  OpenClaim.holds_of_wide 7 Try.f7 rfl rfl rfl rfl rfl rfl rfl ⟨rfl, rfl, rfl, rfl, rfl⟩ rfl rfl rfl rfl rfl (by kernel_rfl) Try.func7 (by kernel_rfl)
    (of_decide_eq_true (by kernel_rfl)) (by unfold Func.isWrapper; first | (rw [if_pos (by decide +kernel)]; kernel_rfl) | (rw [if_neg (by decide +kernel)]; exact ⟨rfl, rfl⟩))
    (fun os started H enc _ => lifted os started H enc)
end Go.Proofs.Ytpjmlcnboedpeaa.segKeeps
namespace Go.Proofs.Ytpjmlcnboedpeaa
theorem segKeeps_holds : Rows.SegKeepsSaid := segKeeps.over
end Go.Proofs.Ytpjmlcnboedpeaa
