import Derived.Deep.CondSized
import Derived.JoinedCond
import Derived.Test.YtpjmlcnboedpeaaGreatRows
import Derived.Test.YtpjmlcnboedpeaaGreatZSegAny6
namespace Go.Proofs.YtpjmlcnboedpeaaGreat.segAny
open Go.Sx Go.ChangeShapes Go.WideShapes Go.ChangeAt Go.RowKit
theorem own : ownKnob Tryz.prog.godebug = none := by kernel_rfl
theorem laidOut : laidOutB Tryz.prog = true := by kernel_rfl
theorem one_le {H : Type} (d : DataW H) : 1 ≤ Rows.uptoBulk d := by
  cases d with
  | lit l => cases l <;> simp [Rows.uptoBulk]
  | nil => simp [Rows.uptoBulk]
  | ptr d => simp [Rows.uptoBulk]
  | slice elems spare => simp [Rows.uptoBulk]
  | agg parts => simp [Rows.uptoBulk]
  | iface t d => simp [Rows.uptoBulk]
  | map entries => simp [Rows.uptoBulk]
  | held h => simp [Rows.uptoBulk]
theorem length_le {H : Type} (l : List (DataW H)) : l.length ≤ Rows.uptoBulkAll l := by
  induction l with
  | nil => simp [Rows.uptoBulkAll]
  | cons x r ih => have := one_le x; simp only [Rows.uptoBulkAll, List.length_cons]; omega
set_option maxRecDepth 100000 in
theorem lifted (os : Os) (started : os.Started) (H : Type) (enc : TypeId × Value → H) (F : Stop.Interp) :
    ReturnsInHanded {} Tryz.checked os 3 .any ((Rows.OpenSpec.upto Rows.segAnySpec).pre6 enc Tryz.prog Tryz.f3 Rows.segAnyUptoRow.domain false) (((Rows.OpenSpec.upto Rows.segAnySpec).at F).post enc Tryz.prog Tryz.f3 false true false false) := by
  refine returnsInHanded_of_cond_sized (C := Tryz.checked) (s := Rows.OpenSpec.upto Rows.segAnySpec) (k := Rows.uptoSmall) rfl own started (by kernel_rfl) Tryz.func3
    (OpenSpec.witness (enc := enc) (C := Tryz.checked) (s := Rows.OpenSpec.upto Rows.segAnySpec) (k := Rows.uptoSmall) rfl false ⟨#[], #[.slice none 0 0, .slice none 0 0, .slice none 0 0, .int .i64 0], []⟩ 8 (by kernel_rfl) (by kernel_rfl) (by kernel_rfl) (x := ([.nil, .nil, .nil, .lit (.int .i64 0)], [], [])) (by kernel_rfl) rfl (by kernel_rfl)) ?_
  intro W base args ds gs before hval0 hW hcnd hk0 hsz0 _
  have hsz : (DataW.weightsEach Tryz.prog (Tryz.f3.params.toList ++ Rows.segAnySpec.plain.varTypes Tryz.prog) (ds ++ gs)).all (· ≤ reachBytes) = true := hsz0
  have hval : ∀ (j : Nat) t v, Tryz.f3.params[j]? = some t → args[j]? = some v → Value.okWide Tryz.prog W .any base t v := hval0
  have hW' : DataW.Whole enc Tryz.prog Tryz.f3.params.toList Rows.segAnySpec.vars false W args.toList ds gs before := hW
  obtain ⟨p, q, hA0, hV, rfl, hfz, hnd⟩ := hW
  have hA : DataW.TrodAll enc Tryz.prog W 0 (fun _ => true) true Tryz.f3.params.toList args.toList ds p := hA0
  rw [Tryz.params3] at hA hval hsz
  obtain ⟨v0, vs0, d0, ds0, p0, q0, hargs, rfl, rfl, h0, r0⟩ := trodAll_cons hA
  obtain ⟨v1, vs1, d1, ds1, p1, q1, rfl, rfl, rfl, h1, r1⟩ := trodAll_cons r0
  obtain ⟨v2, vs2, d2, ds2, p2, q2, rfl, rfl, rfl, h2, r2⟩ := trodAll_cons r1
  obtain ⟨v3, vs3, d3, ds3, p3, q3, rfl, rfl, rfl, h3, r3⟩ := trodAll_cons r2
  obtain ⟨rfl, rfl, rfl⟩ := trodAll_nil r3
  obtain rfl : args = #[v0, v1, v2, v3] := by cases args; simp_all
  obtain ⟨rfl, rfl⟩ := trodVars_none hV
  have hbulk : Rows.uptoBulkAll ([d0, d1, d2, d3] ++ []) ≤ 1048576 := of_decide_eq_true hk0
  simp only [List.append_nil, Rows.uptoBulkAll] at hbulk
  obtain ⟨A0, css0, cap0, rfl, l0, pl0, w0, all0⟩ := arg_slice (hval 0 22 v0 rfl rfl) h0 (wgt_each (j := 0) hsz rfl rfl)
  have hb0 : css0.length ≤ 1048576 := by
    rcases trod_len h0 with h | ⟨el, sp, rfl, h⟩
    · omega
    · have := length_le el
      simp only [Rows.uptoBulk] at hbulk
      omega
  obtain ⟨A1, css1, cap1, rfl, l1, pl1, w1, all1⟩ := arg_slice (hval 1 23 v1 rfl rfl) h1 (wgt_each (j := 1) hsz rfl rfl)
  have hb1 : css1.length ≤ 1048576 := by
    rcases trod_len h1 with h | ⟨el, sp, rfl, h⟩
    · omega
    · have := length_le el
      simp only [Rows.uptoBulk] at hbulk
      omega
  obtain ⟨A2, zs2, cap2, rfl, l2, pl2, w2, all2⟩ := arg_ints (hval 2 24 v2 rfl rfl) h2 (wgt_each (j := 2) hsz rfl rfl)
  have hb2 : zs2.length ≤ 1048576 := by
    rcases trod_len h2 with h | ⟨el, sp, rfl, h⟩
    · omega
    · have := length_le el
      simp only [Rows.uptoBulk] at hbulk
      omega
  obtain ⟨z3, rfl, w3⟩ := arg_int (hval 3 3 v3 rfl rfl) h3
  refine law_calls (s := Rows.segAnySpec) (tb := 4) hW' rfl (fun ds hl => ?_) laidOut (of_decide_eq_true (by kernel_rfl)) rfl Tryz.underlying4 ?_
  · match ds, hl with
    | [_, _, _, _], _ => rfl
  · exact by (obtain ⟨A, fes, cap, e1, q1, q2, q3, q4, q5, q6⟩ := arg_filesB (B := 1048576) (hval 0 22 _ rfl rfl) h0 (wgt_each (j := 0) hsz rfl rfl) (by omega); injection e1 with e1 e2 e3; subst e1 e3; rw [e2]; obtain ⟨es1, n1, hE1, _, hr1⟩ := arg_ens l1 pl1 w1 all1; exact segAny_K q4 q5 q1 q2 q3 q6 hE1 hr1 (by omega) pl2 l2 hb2)
theorem over : Rows.SegAnyUptoSaid :=
  OpenClaim.holds_of_cond 3 Tryz.f3 rfl rfl rfl rfl rfl rfl rfl ⟨rfl, rfl, rfl, rfl, rfl⟩ rfl rfl rfl rfl rfl (by kernel_rfl) Tryz.func3 (by kernel_rfl)
    (of_decide_eq_true (by kernel_rfl)) (by unfold Func.isWrapper; first | (rw [if_pos (by decide +kernel)]; kernel_rfl) | (rw [if_neg (by decide +kernel)]; exact ⟨rfl, rfl⟩))
    (fun os started H enc _ F => lifted os started H enc F)
end Go.Proofs.YtpjmlcnboedpeaaGreat.segAny
namespace Go.Proofs.YtpjmlcnboedpeaaGreat
theorem segAny_holds : Rows.SegAnyUptoSaid := segAny.over
end Go.Proofs.YtpjmlcnboedpeaaGreat
