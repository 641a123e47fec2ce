import Derived.Test.YtmimdoggljemjaaRows
import Derived.Test.YtmimdoggljemjaaZHardPlays5
namespace Go.Proofs.Ytmimdoggljemjaa.hardPlays
open Go.Sx Go.ChangeShapes Go.WideShapes Go.ChangeAt Go.RowKit
theorem own : ownKnob Try.prog.godebug = none := by kernel_rfl
theorem laidOut : laidOutB Try.prog = true := by kernel_rfl
set_option maxRecDepth 100000 in
theorem lifted (os : Os) (started : os.Started) (H : Type) (enc : TypeId × Value → H) :
    ReturnsInHanded {} Try.checked os 11 .any (Rows.hardPlaysSpec.pre6 enc Try.prog Try.f11 Rows.hardPlaysRow.domain false) (Rows.hardPlaysSpec.post enc Try.prog Try.f11 false true false false) := by
  refine returnsInHanded_of_change_sized (C := Try.checked) own started (by kernel_rfl) Try.func11
    (ChangeSpec.witness6 (enc := enc) (C := Try.checked) false ⟨#[], #[.slice none 0 0], []⟩ 8 (by kernel_rfl) (by kernel_rfl) (by kernel_rfl) (by kernel_rfl)) ?_
  intro W base args ds gs before hval0 hW hcnd hsz0 _
  have hsz : (DataW.weightsEach Try.prog (Try.f11.params.toList ++ Rows.hardPlaysSpec.plain.varTypes Try.prog) (ds ++ gs)).all (· ≤ reachBytes) = true := hsz0
  have hval : ∀ (j : Nat) t v, Try.f11.params[j]? = some t → args[j]? = some v → Value.okWide Try.prog W .any base t v := hval0
  have hW' : DataW.Whole enc Try.prog Try.f11.params.toList Rows.hardPlaysSpec.vars false W args.toList ds gs before := hW
  obtain ⟨p, q, hA0, hV, rfl, hfz, hnd⟩ := hW
  have hA : DataW.TrodAll enc Try.prog W 0 (fun _ => true) true Try.f11.params.toList args.toList ds p := hA0
  rw [Try.params11] at hA hval hsz
  obtain ⟨v0, vs0, d0, ds0, p0, q0, hargs, rfl, rfl, h0, r0⟩ := trodAll_cons hA
  obtain ⟨rfl, rfl, rfl⟩ := trodAll_nil r0
  obtain rfl : args = #[v0] := by cases args; simp_all
  obtain ⟨A0, css0, cap0, rfl, l0, pl0, w0, all0⟩ := arg_slice (hval 0 69 v0 rfl rfl) h0 (wgt_each (j := 0) hsz rfl rfl)
  refine law_calls (s := Rows.hardPlaysSpec) (tb := 4) hW' rfl (fun ds hl => ?_) laidOut (of_decide_eq_true (by kernel_rfl)) rfl Try.underlying4 ?_
  · match ds, hl with
    | [_], _ => rfl
  · exact by (obtain ⟨xs, rfl, hx⟩ := rd_hsts css0 all0; rw [List.length_map] at l0 ⊢; exact hardPlays_K pl0 hx)
theorem over : Rows.HardPlaysSaid :=
  OpenClaim.holds_of_wide 11 Try.f11 rfl rfl rfl rfl rfl rfl rfl ⟨rfl, rfl, rfl, rfl, rfl⟩ rfl rfl rfl rfl rfl (by kernel_rfl) Try.func11 (by kernel_rfl)
    (of_decide_eq_true (by kernel_rfl)) (by unfold Func.isWrapper; first | (rw [if_pos (by decide +kernel)]; kernel_rfl) | (rw [if_neg (by decide +kernel)]; exact ⟨rfl, rfl⟩))
    (fun os started H enc _ => lifted os started H enc)
end Go.Proofs.Ytmimdoggljemjaa.hardPlays
namespace Go.Proofs.Ytmimdoggljemjaa
theorem hardPlays_holds : Rows.HardPlaysSaid := hardPlays.over
end Go.Proofs.Ytmimdoggljemjaa
