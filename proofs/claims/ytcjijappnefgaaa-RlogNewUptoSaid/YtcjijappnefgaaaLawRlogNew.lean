/- The law RlogNew (what it reads is of a bulk): its row, out of the walk. -/
import Derived.Deep.CondSized
import Derived.JoinedCond
import Derived.Test.YtcjijappnefgaaaRows
import Derived.Test.YtcjijappnefgaaaR18
namespace Go.Proofs.Ytcjijappnefgaaa.rlogNew
open Go.Sx Go.ChangeShapes Go.WideShapes Go.ChangeAt Go.RowKit
theorem own : ownKnob Try.prog.godebug = none := by kernel_rfl
theorem laidOut : laidOutB Try.prog = true := by kernel_rfl
theorem one_le {H : Type} (d : DataW H) : 1 ≤ Rows.uptoBulk d := by
  cases d with
  | lit l => cases l <;> simp [Rows.uptoBulk]
  | nil => simp [Rows.uptoBulk]
  | ptr d => simp [Rows.uptoBulk]
  | slice elems spare => simp [Rows.uptoBulk]
  | agg parts => simp [Rows.uptoBulk]
  | iface t d => simp [Rows.uptoBulk]
  | map entries => simp [Rows.uptoBulk]
  | held h => simp [Rows.uptoBulk]
theorem length_le {H : Type} (l : List (DataW H)) : l.length ≤ Rows.uptoBulkAll l := by
  induction l with
  | nil => simp [Rows.uptoBulkAll]
  | cons x r ih => have := one_le x; simp only [Rows.uptoBulkAll, List.length_cons]; omega
set_option maxRecDepth 100000 in
theorem lifted (os : Os) (started : os.Started) (H : Type) (enc : TypeId × Value → H) (F : Stop.Interp) :
    ReturnsInHanded {} Try.checked os 5 .any ((Rows.OpenSpec.upto Rows.rlogNewSpec).pre6 enc Try.prog Try.f5 Rows.rlogNewUptoRow.domain false) (((Rows.OpenSpec.upto Rows.rlogNewSpec).at F).post enc Try.prog Try.f5 false true false false) := by
  refine returnsInHanded_of_cond_sized (C := Try.checked) (s := Rows.OpenSpec.upto Rows.rlogNewSpec) (k := Rows.uptoSmall) rfl own started (by kernel_rfl) Try.func5
    (OpenSpec.witness (enc := enc) (C := Try.checked) (s := Rows.OpenSpec.upto Rows.rlogNewSpec) (k := Rows.uptoSmall) rfl false ⟨#[], #[.agg #[.int .u64 0, .int .u64 0, .int .i64 0], .slice none 0 0, .bool false], []⟩ 8 (by kernel_rfl) (by kernel_rfl) (by kernel_rfl) (x := ([.agg [.lit (.int .u64 0), .lit (.int .u64 0), .lit (.int .i64 0)], .nil, .lit (.bool false)], [], [])) (by kernel_rfl) rfl (by kernel_rfl)) ?_
  intro W base args ds gs before hval0 hW hcnd hk0 hsz0 _
  have hsz : (DataW.weightsEach Try.prog (Try.f5.params.toList ++ Rows.rlogNewSpec.plain.varTypes Try.prog) (ds ++ gs)).all (· ≤ reachBytes) = true := hsz0
  have hval : ∀ (j : Nat) t v, Try.f5.params[j]? = some t → args[j]? = some v → Value.okWide Try.prog W .any base t v := hval0
  have hW' : DataW.Whole enc Try.prog Try.f5.params.toList Rows.rlogNewSpec.vars false W args.toList ds gs before := hW
  obtain ⟨p, q, hA0, hV, rfl, hfz, hnd⟩ := hW
  have hA : DataW.TrodAll enc Try.prog W 0 (fun _ => true) true Try.f5.params.toList args.toList ds p := hA0
  rw [Try.params5] at hA hval hsz
  obtain ⟨v0, vs0, d0, ds0, p0, q0, hargs, rfl, rfl, h0, r0⟩ := trodAll_cons hA
  obtain ⟨v1, vs1, d1, ds1, p1, q1, rfl, rfl, rfl, h1, r1⟩ := trodAll_cons r0
  obtain ⟨v2, vs2, d2, ds2, p2, q2, rfl, rfl, rfl, h2, r2⟩ := trodAll_cons r1
  obtain ⟨rfl, rfl, rfl⟩ := trodAll_nil r2
  obtain rfl : args = #[v0, v1, v2] := by cases args; simp_all
  obtain ⟨rfl, rfl⟩ := trodVars_none hV
  have hbulk : Rows.uptoBulkAll ([d0, d1, d2] ++ []) ≤ 1048576 := of_decide_eq_true hk0
  simp only [List.append_nil, Rows.uptoBulkAll] at hbulk
  obtain ⟨cs0, m0, rfl, rd0⟩ := arg_struct Try.underlying34 (hval 0 34 v0 rfl rfl) h0
  have wg0 := wgt_each (j := 0) hsz rfl rfl
  obtain ⟨A1, css1, cap1, rfl, l1, pl1, w1, all1⟩ := arg_slice (hval 1 22 v1 rfl rfl) h1 (wgt_each (j := 1) hsz rfl rfl)
  have hb1 : css1.length ≤ 1048576 := by
    rcases trod_len h1 with h | ⟨el, sp, rfl, h⟩
    · omega
    · have := length_le el
      simp only [Rows.uptoBulk] at hbulk
      omega
  obtain ⟨z2, rfl⟩ := arg_bool (hval 2 4 v2 rfl rfl) h2
  refine law_calls (s := Rows.rlogNewSpec) (tb := 4) hW' rfl (fun ds hl => ?_) laidOut (of_decide_eq_true (by kernel_rfl)) rfl Try.underlying4 ?_
  · match ds, hl with
    | [_, _, _], _ => rfl
  · exact by
      obtain ⟨b, hcs, hbi, hbt, hbc⟩ := rd_base rd0 wg0
      obtain rfl : cs0 = (bcells b).toArray := by rw [← hcs]
      obtain ⟨es, hel, hE, hd, hr⟩ := arg_ens l1 pl1 w1 all1
      exact rlogNew_K hE hr ⟨by omega, hd⟩ (by omega) hbi hbt
theorem over : Rows.RlogNewUptoSaid :=
  OpenClaim.holds_of_cond 5 Try.f5 rfl rfl rfl rfl rfl rfl rfl ⟨rfl, rfl, rfl, rfl, rfl⟩ rfl rfl rfl rfl rfl (by kernel_rfl) Try.func5 (by kernel_rfl)
    (of_decide_eq_true (by kernel_rfl)) (by unfold Func.isWrapper; first | (rw [if_pos (by decide +kernel)]; kernel_rfl) | (rw [if_neg (by decide +kernel)]; exact ⟨rfl, rfl⟩))
    (fun os started H enc _ F => lifted os started H enc F)
end Go.Proofs.Ytcjijappnefgaaa.rlogNew
namespace Go.Proofs.Ytcjijappnefgaaa
/-- The law RlogNew. -/
theorem rlogNew_holds : Rows.RlogNewUptoSaid := rlogNew.over
end Go.Proofs.Ytcjijappnefgaaa
