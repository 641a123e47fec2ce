/- The law FrameLists (what it reads is of a bulk): its row, out of the walk. -/
import Derived.Deep.CondSized
import Derived.JoinedCond
import Derived.Test.YtdhgjihimjibdaaRows
import Derived.Test.YtdhgjihimjibdaaF14
namespace Go.Proofs.Ytdhgjihimjibdaa.frameLists
open Go.Sx Go.ChangeShapes Go.WideShapes Go.ChangeAt Go.RowKit
theorem own : ownKnob Try.prog.godebug = none := by kernel_rfl
theorem laidOut : laidOutB Try.prog = true := by kernel_rfl
theorem one_le {H : Type} (d : DataW H) : 1 ≤ Rows.uptoBulk d := by
  cases d with
  | lit l => cases l <;> simp [Rows.uptoBulk]
  | nil => simp [Rows.uptoBulk]
  | ptr d => simp [Rows.uptoBulk]
  | slice elems spare => simp [Rows.uptoBulk]
  | agg parts => simp [Rows.uptoBulk]
  | iface t d => simp [Rows.uptoBulk]
  | map entries => simp [Rows.uptoBulk]
  | held h => simp [Rows.uptoBulk]
theorem length_le {H : Type} (l : List (DataW H)) : l.length ≤ Rows.uptoBulkAll l := by
  induction l with
  | nil => simp [Rows.uptoBulkAll]
  | cons x r ih => have := one_le x; simp only [Rows.uptoBulkAll, List.length_cons]; omega
set_option maxRecDepth 100000 in
theorem lifted (os : Os) (started : os.Started) (H : Type) (enc : TypeId × Value → H) (F : Stop.Interp) :
    ReturnsInHanded {} Try.checked os 9 .any ((Rows.OpenSpec.upto Rows.frameListsSpec).pre6 enc Try.prog Try.f9 Rows.frameListsUptoRow.domain false) (((Rows.OpenSpec.upto Rows.frameListsSpec).at F).post enc Try.prog Try.f9 false true false false) := by
  refine returnsInHanded_of_cond_sized (C := Try.checked) (s := Rows.OpenSpec.upto Rows.frameListsSpec) (k := Rows.uptoSmall) rfl own started (by kernel_rfl) Try.func9
    (OpenSpec.witness (enc := enc) (C := Try.checked) (s := Rows.OpenSpec.upto Rows.frameListsSpec) (k := Rows.uptoSmall) rfl false ⟨#[], #[.slice none 0 0, .slice none 0 0, .bool false, .int .i64 0, .int .i64 0], []⟩ 8 (by kernel_rfl) (by kernel_rfl) (by kernel_rfl) (x := ([.nil, .nil, .lit (.bool false), .lit (.int .i64 0), .lit (.int .i64 0)], [], [])) (by kernel_rfl) rfl (by kernel_rfl)) ?_
  intro W base args ds gs before hval0 hW hcnd hk0 hsz0 _
  have hsz : (DataW.weightsEach Try.prog (Try.f9.params.toList ++ Rows.frameListsSpec.plain.varTypes Try.prog) (ds ++ gs)).all (· ≤ reachBytes) = true := hsz0
  have hval : ∀ (j : Nat) t v, Try.f9.params[j]? = some t → args[j]? = some v → Value.okWide Try.prog W .any base t v := hval0
  have hW' : DataW.Whole enc Try.prog Try.f9.params.toList Rows.frameListsSpec.vars false W args.toList ds gs before := hW
  obtain ⟨p, q, hA0, hV, rfl, hfz, hnd⟩ := hW
  have hA : DataW.TrodAll enc Try.prog W 0 (fun _ => true) true Try.f9.params.toList args.toList ds p := hA0
  rw [Try.params9] at hA hval hsz
  obtain ⟨v0, vs0, d0, ds0, p0, q0, hargs, rfl, rfl, h0, r0⟩ := trodAll_cons hA
  obtain ⟨v1, vs1, d1, ds1, p1, q1, rfl, rfl, rfl, h1, r1⟩ := trodAll_cons r0
  obtain ⟨v2, vs2, d2, ds2, p2, q2, rfl, rfl, rfl, h2, r2⟩ := trodAll_cons r1
  obtain ⟨v3, vs3, d3, ds3, p3, q3, rfl, rfl, rfl, h3, r3⟩ := trodAll_cons r2
  obtain ⟨v4, vs4, d4, ds4, p4, q4, rfl, rfl, rfl, h4, r4⟩ := trodAll_cons r3
  obtain ⟨rfl, rfl, rfl⟩ := trodAll_nil r4
  obtain rfl : args = #[v0, v1, v2, v3, v4] := by cases args; simp_all
  obtain ⟨rfl, rfl⟩ := trodVars_none hV
  have hbulk : Rows.uptoBulkAll ([d0, d1, d2, d3, d4] ++ []) ≤ 1048576 := of_decide_eq_true hk0
  simp only [List.append_nil, Rows.uptoBulkAll] at hbulk
  obtain ⟨A0, bs0, cap0, rfl, l0, pl0, w0⟩ := arg_bytes (hval 0 22 v0 rfl rfl) h0 (wgt_each (j := 0) hsz rfl rfl)
  have hb0 : bs0.length ≤ 1048576 := by
    rcases trod_len h0 with h | ⟨el, sp, rfl, h⟩
    · omega
    · have := length_le el
      simp only [Rows.uptoBulk] at hbulk
      omega
  obtain ⟨ls1, pl1, w1, wl1⟩ := arg_parts (u := 5) (hval 1 49 v1 rfl rfl) h1 (wgt_each (j := 1) hsz rfl rfl)
  obtain ⟨z2, rfl⟩ := arg_bool (hval 2 4 v2 rfl rfl) h2
  obtain ⟨z3, rfl, w3⟩ := arg_int (hval 3 3 v3 rfl rfl) h3
  obtain ⟨z4, rfl, w4⟩ := arg_int (hval 4 3 v4 rfl rfl) h4
  refine law_calls (s := Rows.frameListsSpec) (tb := 4) hW' rfl (fun ds hl => ?_) laidOut (of_decide_eq_true (by kernel_rfl)) rfl Try.underlying4 ?_
  · match ds, hl with
    | [_, _, _, _, _], _ => rfl
  · exact frameLists_K pl0 l0 w0 hb0 pl1 wl1
theorem over : Rows.FrameListsUptoSaid :=
  OpenClaim.holds_of_cond 9 Try.f9 rfl rfl rfl rfl rfl rfl rfl ⟨rfl, rfl, rfl, rfl, rfl⟩ rfl rfl rfl rfl rfl (by kernel_rfl) Try.func9 (by kernel_rfl)
    (of_decide_eq_true (by kernel_rfl)) (by unfold Func.isWrapper; first | (rw [if_pos (by decide +kernel)]; kernel_rfl) | (rw [if_neg (by decide +kernel)]; exact ⟨rfl, rfl⟩))
    (fun os started H enc _ F => lifted os started H enc F)
end Go.Proofs.Ytdhgjihimjibdaa.frameLists
namespace Go.Proofs.Ytdhgjihimjibdaa
/-- The law FrameLists. -/
theorem frameLists_holds : Rows.FrameListsUptoSaid := frameLists.over
end Go.Proofs.Ytdhgjihimjibdaa
