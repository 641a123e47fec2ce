import Derived.Test.YtpjmlcnboedpeaaGreatRows
import Derived.Test.YtpjmlcnboedpeaaGreatZSegPlays6
namespace Go.Proofs.YtpjmlcnboedpeaaGreat.segPlays
open Go.Sx Go.ChangeShapes Go.WideShapes Go.ChangeAt Go.RowKit
theorem own : ownKnob Tryz.prog.godebug = none := by kernel_rfl
theorem laidOut : laidOutB Tryz.prog = true := by kernel_rfl
set_option maxRecDepth 100000 in
theorem lifted (os : Os) (started : os.Started) (H : Type) (enc : TypeId × Value → H) :
    ReturnsInHanded {} Tryz.checked os 4 .any (Rows.segPlaysSpec.pre6 enc Tryz.prog Tryz.f4 Rows.segPlaysRow.domain false) (Rows.segPlaysSpec.post enc Tryz.prog Tryz.f4 false true false false) := by
  refine returnsInHanded_of_change_sized (C := Tryz.checked) own started (by kernel_rfl) Tryz.func4
    (ChangeSpec.witness6 (enc := enc) (C := Tryz.checked) false ⟨#[], #[.int .i64 0, .slice none 0 0], []⟩ 8 (by kernel_rfl) (by kernel_rfl) (by kernel_rfl) (by kernel_rfl)) ?_
  intro W base args ds gs before hval0 hW hcnd hsz0 _
  have hsz : (DataW.weightsEach Tryz.prog (Tryz.f4.params.toList ++ Rows.segPlaysSpec.plain.varTypes Tryz.prog) (ds ++ gs)).all (· ≤ reachBytes) = true := hsz0
  have hval : ∀ (j : Nat) t v, Tryz.f4.params[j]? = some t → args[j]? = some v → Value.okWide Tryz.prog W .any base t v := hval0
  have hW' : DataW.Whole enc Tryz.prog Tryz.f4.params.toList Rows.segPlaysSpec.vars false W args.toList ds gs before := hW
  obtain ⟨p, q, hA0, hV, rfl, hfz, hnd⟩ := hW
  have hA : DataW.TrodAll enc Tryz.prog W 0 (fun _ => true) true Tryz.f4.params.toList args.toList ds p := hA0
  rw [Tryz.params4] at hA hval hsz
  obtain ⟨v0, vs0, d0, ds0, p0, q0, hargs, rfl, rfl, h0, r0⟩ := trodAll_cons hA
  obtain ⟨v1, vs1, d1, ds1, p1, q1, rfl, rfl, rfl, h1, r1⟩ := trodAll_cons r0
  obtain ⟨rfl, rfl, rfl⟩ := trodAll_nil r1
  obtain rfl : args = #[v0, v1] := by cases args; simp_all
  obtain ⟨z0, rfl, w0⟩ := arg_int (hval 0 3 v0 rfl rfl) h0
  obtain ⟨A1, css1, cap1, rfl, l1, pl1, w1, all1⟩ := arg_slice (hval 1 51 v1 rfl rfl) h1 (wgt_each (j := 1) hsz rfl rfl)
  refine law_calls (s := Rows.segPlaysSpec) (tb := 4) hW' rfl (fun ds hl => ?_) laidOut (of_decide_eq_true (by kernel_rfl)) rfl Tryz.underlying4 ?_
  · match ds, hl with
    | [_, _], _ => rfl
  · exact by (obtain ⟨xs, rfl, hx⟩ := rd_ssts css1 all1; rw [List.length_map] at l1 ⊢; exact segPlays_K pl1 hx)
theorem over : Rows.SegPlaysSaid :=
  OpenClaim.holds_of_wide 4 Tryz.f4 rfl rfl rfl rfl rfl rfl rfl ⟨rfl, rfl, rfl, rfl, rfl⟩ rfl rfl rfl rfl rfl (by kernel_rfl) Tryz.func4 (by kernel_rfl)
    (of_decide_eq_true (by kernel_rfl)) (by unfold Func.isWrapper; first | (rw [if_pos (by decide +kernel)]; kernel_rfl) | (rw [if_neg (by decide +kernel)]; exact ⟨rfl, rfl⟩))
    (fun os started H enc _ => lifted os started H enc)
end Go.Proofs.YtpjmlcnboedpeaaGreat.segPlays
namespace Go.Proofs.YtpjmlcnboedpeaaGreat
theorem segPlays_holds : Rows.SegPlaysSaid := segPlays.over
end Go.Proofs.YtpjmlcnboedpeaaGreat
