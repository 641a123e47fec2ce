/- Sessions: All. -/
import Derived.Test.YtohdhkddnnokfaaE3
namespace Go.Sx
open Go.Proofs Go.RowKit
structure Ses where
  x : SeV
  ks : List KeV
/-- what a session says -/
structure SesD where
  id : Int
  sq : Int
  us : Int
  ks : List KeV
deriving DecidableEq
def Ses.d (s : Ses) : SesD := ⟨s.x.id, s.x.sq, s.x.us, s.ks⟩
def Ses.ok (M : Mem) (s : Ses) : Prop := KpOk M s.x s.ks
def mapX (l : List (Int × Ses)) : List (Int × SeV) := l.map fun p => (p.1, p.2.x)
structure OwX where
  s : Ses
  hp : Hp
def sesC (ys : List Ses) : List Value := (ys.map fun y => seC y.x).flatten
theorem sesC_app (a b : List Ses) : sesC (a ++ b) = sesC a ++ sesC b := by unfold sesC; rw [List.map_append, List.flatten_append]
theorem sesC_len (ys : List Ses) : (sesC ys).length = ys.length * 4 := by
  induction ys with
  | nil => rfl
  | cons k ks ih => unfold sesC at ih ⊢; rw [List.map_cons, List.flatten_cons, List.length_append, ih, List.length_cons]; show 4 + _ = _; omega
def owX (ys : List OwX) : List Ses := ys.map OwX.s
def owXH (ys : List OwX) : Hp := (ys.map OwX.hp).flatten
theorem owX_app (a b : List OwX) : owX (a ++ b) = owX a ++ owX b := List.map_append ..
theorem owXH_app (a b : List OwX) : owXH (a ++ b) = owXH a ++ owXH b := by unfold owXH; rw [List.map_append, List.flatten_append]
/-- a row of sessions of one's own, each with its answers of one's own -/
def OwnK (y : OwX) : Prop := y.s.x.kn = y.s.ks.length ∧ Own 62 6 (.slice y.s.x.kA y.s.ks.length y.s.x.kc) y.s.ks.length (keF y.s.ks) y.hp
def OwnXs (v : Value) (ys : List OwX) (hrow : Hp) : Prop := Own 43 4 v ys.length (sesC (owX ys)) hrow ∧ ∀ y ∈ ys, OwnK y
structure AaS where
  ys : List OwX
  ov : Value
  ho : Hp
attribute [local irreducible] C R Fin K Own OwnT Rd Pl Ok KOf RetOk OpsOf RP KP Res NoPanic KV KE Tab RTab RdB
variable {M M' : Mem} {H H1 H2 : Hp}

def AaSt (l : List (Int × Ses)) (s : AaS) (r : Int × SeV) (b : Bool) (s1 : AaS) : Prop :=
  b = true ∧ ∃ p, l[s.ys.length]? = some p ∧ r = (p.1, p.2.x) ∧ ∃ y, s1.ys = s.ys ++ [y] ∧ y.s.d = p.2.d ∧ OwnXs s1.ov s1.ys s1.ho
theorem told_aa {l : List (Int × Ses)} {pre : List (Int × SeV)} {s : AaS} (h : ToldG (AaSt l) ⟨[], .slice none 0 0, []⟩ pre s) :
    s.ys.length = pre.length ∧ (owX s.ys).map Ses.d = (l.take pre.length).map (fun p => p.2.d) ∧ OwnXs s.ov s.ys s.ho := by
  induction h with
  | nil => exact ⟨rfl, rfl, Own.nil _ _, fun _ h => absurd h (List.not_mem_nil)⟩
  | @more pre r s s1 _ hs ih =>
    obtain ⟨_, p, h1, h2, y, h3, h4, h5⟩ := hs
    obtain ⟨g1, g2, g3⟩ := ih
    refine ⟨by rw [h3, List.length_append, List.length_append, g1]; rfl, ?_, h5⟩
    rw [h3, owX_app, List.map_append, g2, List.length_append, show ([r] : List (Int × SeV)).length = 1 from rfl]
    rw [g1] at h1
    obtain ⟨hl, rfl⟩ := List.getElem?_eq_some_iff.1 h1
    rw [List.take_succ_eq_append_getElem hl, List.map_append]
    show _ ++ [y.s.d] = _ ++ [_]
    rw [h4]
theorem sall_K {sb tb : Nat} {life most tmost : Int} {l : List (Int × Ses)} {hp : Hp} (ht : Tab 87 26 43 4 uV seC tb most (mapX l) hp) (hk : ∀ p ∈ l, p.2.ok M) (hkl : ∀ p ∈ l, p.2.ks.length ≤ 1000000) : K Try.prog 14 [.pointer (some ⟨sb, 0, none⟩)] M ((sb, seB life tmost tb) :: (hp ++ H)) fun v' M' H' => ∃ ys ho, OwnXs v' ys ho ∧ (owX ys).map Ses.d = l.map (fun p => p.2.d) ∧ M' = M ∧ H' = ho ++ (owXH ys ++ ((sb, seB life tmost tb) :: (hp ++ H))) := by
  have hsm := ht.sml
  have hml : (mapX l).length = l.length := List.length_map ..
  rw [hml] at hsm
  refine K.enterM Try.func14 rfl rfl rfl ?_
  intro Q hNP hQ
  (repeat' (first | (apply R.step; (exact a_ok); exact rfl) | (first | (with_reducible first | apply R.nil | apply C.ret | apply C.block | apply C.skip | apply C.exit | apply Fin.thenRet | apply Fin.thenExit | apply Fin.blockNormal | apply Fin.blockRet | apply Fin.blockExit) | (with_reducible apply Fin.thenK; assumption) | (with_reducible apply C.seqK; intro _ _) | (with_reducible apply C.regionK; intro _ _) | (with_reducible apply Fin.blockOther; exact rfl)) | (apply R.store; exact rfl; exact rfl; exact rfl; (exact a_at); (exact a_blit); exact rfl; (focus (simp [Value.oneCell']; done))) | (first | (apply R.guardT; assumption; exact rfl; exact rfl; exact rfl) | (apply R.guardF; assumption; exact rfl; exact rfl; exact rfl; exact rfl; exact rfl) | (apply R.guardU; assumption; exact rfl; exact rfl; exact rfl; exact rfl) | (apply R.guardDec; assumption; exact rfl; exact rfl; (intro h; skip; rotate_left; intro h; skip; rotate_left)) | (apply R.guardBeq; assumption; exact rfl; exact rfl; (intro h; skip; rotate_left; intro h; skip; rotate_left)) | (apply R.guardBne; assumption; exact rfl; exact rfl; (intro h; skip; rotate_left; intro h; skip; rotate_left)) | (apply R.guardNDec; assumption; exact rfl; exact rfl; (intro h; skip; rotate_left; intro h; skip; rotate_left)) | (apply R.guardNot; assumption; exact rfl; exact rfl; (intro h; skip; rotate_left; intro h; skip; rotate_left)) | (apply R.guardC; assumption; exact rfl; exact rfl; (intro h; skip; rotate_left; intro h; skip; rotate_left))) | (first | (apply C.condT; exact rfl) | (apply C.condF; exact rfl) | (apply C.condDec; exact rfl; (intro h; skip; rotate_left; intro h; skip; rotate_left)) | (apply C.condBeq; exact rfl; (intro h; skip; rotate_left; intro h; skip; rotate_left)) | (apply C.condBne; exact rfl; (intro h; skip; rotate_left; intro h; skip; rotate_left)) | (apply C.condNDec; exact rfl; (intro h; skip; rotate_left; intro h; skip; rotate_left)) | (apply C.condNot; exact rfl; (intro h; skip; rotate_left; intro h; skip; rotate_left)) | (apply C.cond; exact rfl; (intro h; skip; rotate_left; intro h; skip; rotate_left)))))
  ((apply R.alloc; (simp only [Value.cells]; rfl); exact rfl); intro b3)
  (repeat' (first | (apply R.step; (exact a_ok); exact rfl) | (first | (with_reducible first | apply R.nil | apply C.ret | apply C.block | apply C.skip | apply C.exit | apply Fin.thenRet | apply Fin.thenExit | apply Fin.blockNormal | apply Fin.blockRet | apply Fin.blockExit) | (with_reducible apply Fin.thenK; assumption) | (with_reducible apply C.seqK; intro _ _) | (with_reducible apply C.regionK; intro _ _) | (with_reducible apply Fin.blockOther; exact rfl)) | (apply R.store; exact rfl; exact rfl; exact rfl; (exact a_at); (exact a_blit); exact rfl; (focus (simp [Value.oneCell']; done))) | (first | (apply R.guardT; assumption; exact rfl; exact rfl; exact rfl) | (apply R.guardF; assumption; exact rfl; exact rfl; exact rfl; exact rfl; exact rfl) | (apply R.guardU; assumption; exact rfl; exact rfl; exact rfl; exact rfl) | (apply R.guardDec; assumption; exact rfl; exact rfl; (intro h; skip; rotate_left; intro h; skip; rotate_left)) | (apply R.guardBeq; assumption; exact rfl; exact rfl; (intro h; skip; rotate_left; intro h; skip; rotate_left)) | (apply R.guardBne; assumption; exact rfl; exact rfl; (intro h; skip; rotate_left; intro h; skip; rotate_left)) | (apply R.guardNDec; assumption; exact rfl; exact rfl; (intro h; skip; rotate_left; intro h; skip; rotate_left)) | (apply R.guardNot; assumption; exact rfl; exact rfl; (intro h; skip; rotate_left; intro h; skip; rotate_left)) | (apply R.guardC; assumption; exact rfl; exact rfl; (intro h; skip; rotate_left; intro h; skip; rotate_left))) | (first | (apply C.condT; exact rfl) | (apply C.condF; exact rfl) | (apply C.condDec; exact rfl; (intro h; skip; rotate_left; intro h; skip; rotate_left)) | (apply C.condBeq; exact rfl; (intro h; skip; rotate_left; intro h; skip; rotate_left)) | (apply C.condBne; exact rfl; (intro h; skip; rotate_left; intro h; skip; rotate_left)) | (apply C.condNDec; exact rfl; (intro h; skip; rotate_left; intro h; skip; rotate_left)) | (apply C.condNot; exact rfl; (intro h; skip; rotate_left; intro h; skip; rotate_left)) | (apply C.cond; exact rfl; (intro h; skip; rotate_left; intro h; skip; rotate_left)))))
  (apply R.call; (exact a_evs); exact rfl); exact all_ux; rintro _ _ _ ⟨bx, rfl, e1_, e2_⟩; replace e1_ := e1_.symm; subst e1_; replace e2_ := e2_.symm; subst e2_
  (repeat' (first | (apply R.step; (exact a_ok); exact rfl) | (first | (with_reducible first | apply R.nil | apply C.ret | apply C.block | apply C.skip | apply C.exit | apply Fin.thenRet | apply Fin.thenExit | apply Fin.blockNormal | apply Fin.blockRet | apply Fin.blockExit) | (with_reducible apply Fin.thenK; assumption) | (with_reducible apply C.seqK; intro _ _) | (with_reducible apply C.regionK; intro _ _) | (with_reducible apply Fin.blockOther; exact rfl)) | (apply R.store; exact rfl; exact rfl; exact rfl; (exact a_at); (exact a_blit); exact rfl; (focus (simp [Value.oneCell']; done))) | (first | (apply R.guardT; assumption; exact rfl; exact rfl; exact rfl) | (apply R.guardF; assumption; exact rfl; exact rfl; exact rfl; exact rfl; exact rfl) | (apply R.guardU; assumption; exact rfl; exact rfl; exact rfl; exact rfl) | (apply R.guardDec; assumption; exact rfl; exact rfl; (intro h; skip; rotate_left; intro h; skip; rotate_left)) | (apply R.guardBeq; assumption; exact rfl; exact rfl; (intro h; skip; rotate_left; intro h; skip; rotate_left)) | (apply R.guardBne; assumption; exact rfl; exact rfl; (intro h; skip; rotate_left; intro h; skip; rotate_left)) | (apply R.guardNDec; assumption; exact rfl; exact rfl; (intro h; skip; rotate_left; intro h; skip; rotate_left)) | (apply R.guardNot; assumption; exact rfl; exact rfl; (intro h; skip; rotate_left; intro h; skip; rotate_left)) | (apply R.guardC; assumption; exact rfl; exact rfl; (intro h; skip; rotate_left; intro h; skip; rotate_left))) | (first | (apply C.condT; exact rfl) | (apply C.condF; exact rfl) | (apply C.condDec; exact rfl; (intro h; skip; rotate_left; intro h; skip; rotate_left)) | (apply C.condBeq; exact rfl; (intro h; skip; rotate_left; intro h; skip; rotate_left)) | (apply C.condBne; exact rfl; (intro h; skip; rotate_left; intro h; skip; rotate_left)) | (apply C.condNDec; exact rfl; (intro h; skip; rotate_left; intro h; skip; rotate_left)) | (apply C.condNot; exact rfl; (intro h; skip; rotate_left; intro h; skip; rotate_left)) | (apply C.cond; exact rfl; (intro h; skip; rotate_left; intro h; skip; rotate_left)))))
  apply C.rangeO (gf := 46) (pl := [11, 12]) (cs := [.pointer (some ⟨bx, 0, none⟩)]); exact rfl
  intro fn tmps bD lb o ho hfr
  have hJ : ∃ J : AaS → Hp, J = fun s : AaS => (lb, o .ready none) :: (bD, .deferred (some [])) :: (b3, .cells [s.ov].toArray 39 (0, 0)) :: (s.ho ++ owXH s.ys) := ⟨_, rfl⟩
  obtain ⟨J, hJ⟩ := hJ
  refine (K.arr (H2 := hp ++ ((bx, .cells [.pointer (some ⟨tb, 0, none⟩)].toArray (Try.f32.params.getD 0 0) (0, 0)) :: (lb, o .ready none) :: (bD, .deferred (some [])) :: (b3, .cells [.slice none 0 0].toArray 39 (0, 0)) :: (sb, seB life tmost tb) :: H)) (by ((try simp only [List.append_assoc, List.cons_append, List.nil_append, List.append_nil]); exact a_arr)) (all1_ux (J := J) (Mf := fun _ => M) (St := AaSt l) (H2 := (sb, seB life tmost tb) :: (hp ++ H)) ⟨[], .slice none 0 0, []⟩ ht (by rw [hJ]; dsimp only [owXH, List.map_nil, List.flatten_nil]; ((try simp only [List.append_assoc, List.cons_append, List.nil_append, List.append_nil]); exact a_arr)) (fun _ _ => Mem.le_refl _) ?_)).mono ?_
  · intro pre r rest s H2 hsp htold
    obtain ⟨g1, g2, g3⟩ := told_aa htold
    have hol : s.ys.length ≤ 4096 := by
      have h2 := congrArg List.length hsp
      rw [List.length_append, hml] at h2
      omega
    clear htold
    obtain ⟨p, hlp, hr⟩ : ∃ p, l[s.ys.length]? = some p ∧ r = (p.1, p.2.x) := by
      have h4 : (mapX l)[s.ys.length]? = some r := by rw [hsp, g1, List.getElem?_append_right (Nat.le_refl _), Nat.sub_self]; rfl
      unfold mapX at h4
      rw [List.getElem?_map] at h4
      cases hp0 : l[s.ys.length]? with
      | none => rw [hp0] at h4; cases h4
      | some p => rw [hp0] at h4; exact ⟨p, rfl, (Option.some.inj h4).symm⟩
    have hpm : p ∈ l := List.mem_of_getElem? hlp
    have hpk := hk p hpm
    have hpl := hkl p hpm
    subst hr
    obtain ⟨k, x, ks⟩ := p
    obtain ⟨ys, ov, hov⟩ := s
    dsimp only at g1 g2 g3 hol hlp hpk hpl
    obtain ⟨g3, g4⟩ := g3
    obtain ⟨Ao, co, rfl, _, _⟩ := g3.form
    rw [hJ]
    dsimp only
    refine KV.perm (H' := (lb, o .ready none) :: (bD, .deferred (some [])) :: (b3, .cells [.slice Ao ys.length co].toArray 39 (0, 0)) :: (hov ++ (owXH ys ++ H2))) (by ((try simp only [List.append_assoc, List.cons_append, List.nil_append, List.append_nil]); exact a_arr)) ?_
    subst ho
    unfold seV uV SeV.kv
    refine KV.roundL (pl := [11, 12]) (vs := [.int .u64 k, .agg #[.int .u64 x.id, .int .u64 x.sq, .int .u64 x.us, .slice x.kA x.kn x.kc]]) (At.head _ _ _) rfl (by decide) hfr ?_
    intro Q2 hNP2 hAsg
    (repeat' (first | (apply R.step; (exact a_ok); exact rfl) | (first | (with_reducible first | apply R.nil | apply C.ret | apply C.block | apply C.skip | apply C.exit | apply Fin.thenRet | apply Fin.thenExit | apply Fin.blockNormal | apply Fin.blockRet | apply Fin.blockExit) | (with_reducible apply Fin.thenK; assumption) | (with_reducible apply C.seqK; intro _ _) | (with_reducible apply C.regionK; intro _ _) | (with_reducible apply Fin.blockOther; exact rfl)) | (apply R.store; exact rfl; exact rfl; exact rfl; (exact a_at); (exact a_blit); exact rfl; (focus (simp [Value.oneCell']; done))) | (first | (apply R.guardT; assumption; exact rfl; exact rfl; exact rfl) | (apply R.guardF; assumption; exact rfl; exact rfl; exact rfl; exact rfl; exact rfl) | (apply R.guardU; assumption; exact rfl; exact rfl; exact rfl; exact rfl) | (apply R.guardDec; assumption; exact rfl; exact rfl; (intro h; skip; rotate_left; intro h; skip; rotate_left)) | (apply R.guardBeq; assumption; exact rfl; exact rfl; (intro h; skip; rotate_left; intro h; skip; rotate_left)) | (apply R.guardBne; assumption; exact rfl; exact rfl; (intro h; skip; rotate_left; intro h; skip; rotate_left)) | (apply R.guardNDec; assumption; exact rfl; exact rfl; (intro h; skip; rotate_left; intro h; skip; rotate_left)) | (apply R.guardNot; assumption; exact rfl; exact rfl; (intro h; skip; rotate_left; intro h; skip; rotate_left)) | (apply R.guardC; assumption; exact rfl; exact rfl; (intro h; skip; rotate_left; intro h; skip; rotate_left))) | (first | (apply C.condT; exact rfl) | (apply C.condF; exact rfl) | (apply C.condDec; exact rfl; (intro h; skip; rotate_left; intro h; skip; rotate_left)) | (apply C.condBeq; exact rfl; (intro h; skip; rotate_left; intro h; skip; rotate_left)) | (apply C.condBne; exact rfl; (intro h; skip; rotate_left; intro h; skip; rotate_left)) | (apply C.condNDec; exact rfl; (intro h; skip; rotate_left; intro h; skip; rotate_left)) | (apply C.condNot; exact rfl; (intro h; skip; rotate_left; intro h; skip; rotate_left)) | (apply C.cond; exact rfl; (intro h; skip; rotate_left; intro h; skip; rotate_left)))))
    ((apply R.alloc; (simp only [Value.cells]; rfl); exact rfl); intro ba)
    (repeat' (first | (apply R.step; (exact a_ok); exact rfl) | (first | (with_reducible first | apply R.nil | apply C.ret | apply C.block | apply C.skip | apply C.exit | apply Fin.thenRet | apply Fin.thenExit | apply Fin.blockNormal | apply Fin.blockRet | apply Fin.blockExit) | (with_reducible apply Fin.thenK; assumption) | (with_reducible apply C.seqK; intro _ _) | (with_reducible apply C.regionK; intro _ _) | (with_reducible apply Fin.blockOther; exact rfl)) | (apply R.store; exact rfl; exact rfl; exact rfl; (exact a_at); (exact a_blit); exact rfl; (focus (simp [Value.oneCell']; done))) | (first | (apply R.guardT; assumption; exact rfl; exact rfl; exact rfl) | (apply R.guardF; assumption; exact rfl; exact rfl; exact rfl; exact rfl; exact rfl) | (apply R.guardU; assumption; exact rfl; exact rfl; exact rfl; exact rfl) | (apply R.guardDec; assumption; exact rfl; exact rfl; (intro h; skip; rotate_left; intro h; skip; rotate_left)) | (apply R.guardBeq; assumption; exact rfl; exact rfl; (intro h; skip; rotate_left; intro h; skip; rotate_left)) | (apply R.guardBne; assumption; exact rfl; exact rfl; (intro h; skip; rotate_left; intro h; skip; rotate_left)) | (apply R.guardNDec; assumption; exact rfl; exact rfl; (intro h; skip; rotate_left; intro h; skip; rotate_left)) | (apply R.guardNot; assumption; exact rfl; exact rfl; (intro h; skip; rotate_left; intro h; skip; rotate_left)) | (apply R.guardC; assumption; exact rfl; exact rfl; (intro h; skip; rotate_left; intro h; skip; rotate_left))) | (first | (apply C.condT; exact rfl) | (apply C.condF; exact rfl) | (apply C.condDec; exact rfl; (intro h; skip; rotate_left; intro h; skip; rotate_left)) | (apply C.condBeq; exact rfl; (intro h; skip; rotate_left; intro h; skip; rotate_left)) | (apply C.condBne; exact rfl; (intro h; skip; rotate_left; intro h; skip; rotate_left)) | (apply C.condNDec; exact rfl; (intro h; skip; rotate_left; intro h; skip; rotate_left)) | (apply C.condNot; exact rfl; (intro h; skip; rotate_left; intro h; skip; rotate_left)) | (apply C.cond; exact rfl; (intro h; skip; rotate_left; intro h; skip; rotate_left)))))
    refine hAsg _ _ _ _ _ (At.tail _ (At.head _ _ _)) ?_
    intro Q3 hR
    have hNP3 := hR.np
    dsimp only
    apply C.block
    refine C.arr (H2 := (b3, .cells [.slice Ao ys.length co].toArray 39 (0, 0)) :: (ba, .cells #[.int .u64 x.id, .int .u64 x.sq, .int .u64 x.us, .slice x.kA x.kn x.kc] 43 (0, 0)) :: (lb, _) :: (bD, .deferred (some [])) :: (hov ++ (owXH ys ++ H2))) (by ((try simp only [List.append_assoc, List.cons_append, List.nil_append, List.append_nil]); exact a_arr)) ?_
    (apply C.regionE (isA := [0, 1, 2, 3, 4]) (ksA := [true, true, false, false, false]) (isB := [5]) (ksB := [0]) (Hs := [(b3, .cells [.slice Ao ys.length co].toArray 39 (0, 0)), (ba, .cells #[.int .u64 x.id, .int .u64 x.sq, .int .u64 x.us, .slice x.kA x.kn x.kc] 43 (0, 0))]); exact Mix.h; (first | exact Arr.all _ | (exact a_arr)); (exact a_np); (exact a_picked); (exact a_picked); kernel_rfl; intro _ e; subst e)
    (repeat' (first | fail | (apply RQ.step; intro _ _ _; (exact a_ok); exact rfl) | (apply RQ.stepT; exact rfl; exact rfl; exact rfl; intro _ _ _; (exact a_ok); exact rfl) | (apply RQ.stepF; exact rfl; exact rfl; exact rfl; exact rfl; exact rfl)))
    (apply RQ.eff; intro Kc hKc ops0)
    (apply R.call; (exact a_evs); exact rfl; exact twin_K (x := x) hpk hpl; rintro _ _ _ ⟨A, c, hpn, rfl, hon, e1_, e2_⟩; replace e1_ := e1_.symm; subst e1_; replace e2_ := e2_.symm; subst e2_)
    unfold seV uV SeV.kv
    dsimp only
    have hxn : x.kn = ks.length := hpk.1
    (apply R.nil; apply Fin.kq hKc; exact Mem.le_refl _; (exact a_arr))
    (repeat' (first | fail | (apply RQ.step; intro _ _ _; (exact a_ok); exact rfl) | (apply RQ.stepT; exact rfl; exact rfl; exact rfl; intro _ _ _; (exact a_ok); exact rfl) | (apply RQ.stepF; exact rfl; exact rfl; exact rfl; exact rfl; exact rfl)))
    (apply RQ.eff; intro Kc hKc ops0)
    (apply R.buildSlice; (exact a_prt); exact rfl; exact rfl; (exact a_fills); exact rfl; intro bl)
    (apply R.nil; apply Fin.kq hKc; exact Mem.le_refl _; (exact a_arr))
    (repeat' (first | fail | (apply RQ.step; intro _ _ _; (exact a_ok); exact rfl) | (apply RQ.stepT; exact rfl; exact rfl; exact rfl; intro _ _ _; (exact a_ok); exact rfl) | (apply RQ.stepF; exact rfl; exact rfl; exact rfl; exact rfl; exact rfl)))
    (apply RQ.eff; intro Kc hKc ops0)
    (apply R.append (news := seC { x with kA := A, kc := c }) (k := 1); exact rfl; exact rfl; exact g3; (exact a_tk); exact Rd.at_ (l := seC { x with kA := A, kc := c }) (by (exact a_at)) (fun j x h => by rw [Nat.zero_add]; exact h); exact rfl; exact seC_one _; omega; exact rfl; decide; decide; exact rfl; rintro v3 hp3 ho3)
    obtain ⟨A3, c3, rfl, _, _⟩ := ho3.form
    (apply R.nil; apply Fin.kq hKc; exact Mem.le_refl _; (exact a_arr))
    apply RQ.nil
    (repeat' (first | (first | (apply RP.step; intro _ _ _; (exact a_ok); exact rfl) | (apply RP.stepT; exact rfl; exact rfl; exact rfl; intro _ _ _; (exact a_ok); exact rfl) | (apply RP.stepF; exact rfl; exact rfl; exact rfl; exact rfl; exact rfl) | (apply RP.effF; exact rfl; exact rfl; exact rfl; exact rfl; exact rfl)) | (apply RP.callQ; (exact a_evs); exact rfl)))
    (apply RP.eff; intro Kc hKc ops0)
    (first | (apply R.store; exact rfl; exact rfl; exact rfl; (exact a_at); (exact a_blit); exact rfl; (focus (simp [Value.oneCell']; done))) | (apply R.buildSlice0; exact rfl; intro bz) | (apply R.box; exact rfl; (simp only [Value.cells]; rfl); exact rfl; intro bx) | (apply R.alloc; (simp only [Value.cells]; rfl); exact rfl; intro ba) | (apply R.buildSlice; (exact a_prt); exact rfl; exact rfl; (exact a_fills); exact rfl; intro bl))
    (apply R.nil; apply Fin.kp hKc; exact Mem.le_refl _; (exact a_arr))
    (first | apply RP.nil0 | apply RP.nil)
    (repeat' (first | (apply R.step; (exact a_ok); exact rfl) | (first | (with_reducible first | apply R.nil | apply C.ret | apply C.block | apply C.skip | apply C.exit | apply Fin.thenRet | apply Fin.thenExit | apply Fin.blockNormal | apply Fin.blockRet | apply Fin.blockExit) | (with_reducible apply Fin.thenK; assumption) | (with_reducible apply C.seqK; intro _ _) | (with_reducible apply C.regionK; intro _ _) | (with_reducible apply Fin.blockOther; exact rfl)) | (first | (apply R.store; exact rfl; exact rfl; exact rfl; (exact a_at); (exact a_blit); exact rfl; (focus (simp [Value.oneCell']; done))) | (apply R.buildSlice0; exact rfl; intro bz) | (apply R.box; exact rfl; (simp only [Value.cells]; rfl); exact rfl; intro bx) | (apply R.alloc; (simp only [Value.cells]; rfl); exact rfl; intro ba) | (apply R.buildSlice; (exact a_prt); exact rfl; exact rfl; (exact a_fills); exact rfl; intro bl)) | (first | (apply R.guardT; assumption; exact rfl; exact rfl; exact rfl) | (apply R.guardF; assumption; exact rfl; exact rfl; exact rfl; exact rfl; exact rfl) | (apply R.guardU; assumption; exact rfl; exact rfl; exact rfl; exact rfl) | (apply R.guardDec; assumption; exact rfl; exact rfl; (intro h; skip; rotate_left; intro h; skip; rotate_left)) | (apply R.guardBeq; assumption; exact rfl; exact rfl; (intro h; skip; rotate_left; intro h; skip; rotate_left)) | (apply R.guardBne; assumption; exact rfl; exact rfl; (intro h; skip; rotate_left; intro h; skip; rotate_left)) | (apply R.guardNDec; assumption; exact rfl; exact rfl; (intro h; skip; rotate_left; intro h; skip; rotate_left)) | (apply R.guardNot; assumption; exact rfl; exact rfl; (intro h; skip; rotate_left; intro h; skip; rotate_left)) | (apply R.guardC; assumption; exact rfl; exact rfl; (intro h; skip; rotate_left; intro h; skip; rotate_left))) | (first | (apply C.condT; exact rfl) | (apply C.condF; exact rfl) | (apply C.condDec; exact rfl; (intro h; skip; rotate_left; intro h; skip; rotate_left)) | (apply C.condBeq; exact rfl; (intro h; skip; rotate_left; intro h; skip; rotate_left)) | (apply C.condBne; exact rfl; (intro h; skip; rotate_left; intro h; skip; rotate_left)) | (apply C.condNDec; exact rfl; (intro h; skip; rotate_left; intro h; skip; rotate_left)) | (apply C.condNot; exact rfl; (intro h; skip; rotate_left; intro h; skip; rotate_left)) | (apply C.cond; exact rfl; (intro h; skip; rotate_left; intro h; skip; rotate_left)))))
    have hyk : OwnK ⟨⟨{ x with kA := A, kc := c }, ks⟩, hpn⟩ := ⟨hxn, by dsimp only at hon ⊢; rw [← hxn] at hon ⊢; exact hon⟩
    refine Fin.arr (H2 := (lb, ?ob) :: (bD, .deferred (some [])) :: (b3, .cells [.slice A3 (ys.length + 1) c3].toArray 39 (0, 0)) :: (hp3 ++ (owXH ys ++ (hpn ++ H2)))) ?_ ?_
    rotate_left
    · ((try simp only [List.append_eq, List.append_assoc, List.cons_append, List.nil_append, List.append_nil]); exact a_arr)
    refine hR.normal _ _ _ _ _ _ (At.head _ _ _) ?_
    refine ⟨true, ⟨ys ++ [⟨⟨{ x with kA := A, kc := c }, ks⟩, hpn⟩], .slice A3 (ys.length + 1) c3, hp3⟩, rfl, rfl, ?_, rfl, _, hlp, rfl, _, rfl, rfl, ?_, ?_⟩
    · dsimp only
      rw [owXH_app, show owXH [(⟨⟨{ x with kA := A, kc := c }, ks⟩, hpn⟩ : OwX)] = hpn ++ [] from rfl]
      simp only [List.cons_append, List.append_assoc, List.nil_append]
    · dsimp only
      rw [owX_app, sesC_app, List.length_append]
      exact ho3
    · intro y hy
      rcases List.mem_append.1 hy with hy | hy
      · exact g4 y hy
      · rw [List.mem_singleton] at hy
        rw [hy]
        exact hyk
  · rintro v M' H2 ⟨s', rfl, rfl, hend⟩
    have htold : ToldG (AaSt l) ⟨[], .slice none 0 0, []⟩ (mapX l) s' := by
      rcases hend with h | ⟨_, _, _, _, _, _, h⟩
      · exact h
      · exact absurd h.1 (by simp)
    obtain ⟨g1, g2, g3⟩ := told_aa htold
    obtain ⟨ys, ov, hov⟩ := s'
    dsimp only at g1 g2 g3
    rw [hml, List.take_length] at g2
    have g0 := g3
    obtain ⟨g3, g4⟩ := g3
    obtain ⟨Ao, co, rfl, _, _⟩ := g3.form
    rw [hJ]
    refine ⟨.ready, none, _, by simp, At.head _ _ _, ?_⟩
    dsimp only
    refine Fin.arr (H2 := (b3, .cells [.slice Ao ys.length co].toArray 39 (0, 0)) :: (bD, .deferred (some [])) :: (hov ++ (owXH ys ++ ((sb, seB life tmost tb) :: (hp ++ H))))) (by ((try simp only [List.append_eq, List.append_assoc, List.cons_append, List.nil_append, List.append_nil]); exact a_arr)) ?_
    (repeat' (first | (apply R.step; (exact a_ok); exact rfl) | (first | (with_reducible first | apply R.nil | apply C.ret | apply C.block | apply C.skip | apply C.exit | apply Fin.thenRet | apply Fin.thenExit | apply Fin.blockNormal | apply Fin.blockRet | apply Fin.blockExit) | (with_reducible apply Fin.thenK; assumption) | (with_reducible apply C.seqK; intro _ _) | (with_reducible apply C.regionK; intro _ _) | (with_reducible apply Fin.blockOther; exact rfl)) | (first | (apply R.store; exact rfl; exact rfl; exact rfl; (exact a_at); (exact a_blit); exact rfl; (focus (simp [Value.oneCell']; done))) | (apply R.buildSlice0; exact rfl; intro bz) | (apply R.box; exact rfl; (simp only [Value.cells]; rfl); exact rfl; intro bx) | (apply R.alloc; (simp only [Value.cells]; rfl); exact rfl; intro ba) | (apply R.buildSlice; (exact a_prt); exact rfl; exact rfl; (exact a_fills); exact rfl; intro bl)) | (first | (apply R.guardT; assumption; exact rfl; exact rfl; exact rfl) | (apply R.guardF; assumption; exact rfl; exact rfl; exact rfl; exact rfl; exact rfl) | (apply R.guardU; assumption; exact rfl; exact rfl; exact rfl; exact rfl) | (apply R.guardDec; assumption; exact rfl; exact rfl; (intro h; skip; rotate_left; intro h; skip; rotate_left)) | (apply R.guardBeq; assumption; exact rfl; exact rfl; (intro h; skip; rotate_left; intro h; skip; rotate_left)) | (apply R.guardBne; assumption; exact rfl; exact rfl; (intro h; skip; rotate_left; intro h; skip; rotate_left)) | (apply R.guardNDec; assumption; exact rfl; exact rfl; (intro h; skip; rotate_left; intro h; skip; rotate_left)) | (apply R.guardNot; assumption; exact rfl; exact rfl; (intro h; skip; rotate_left; intro h; skip; rotate_left)) | (apply R.guardC; assumption; exact rfl; exact rfl; (intro h; skip; rotate_left; intro h; skip; rotate_left))) | (first | (apply C.condT; exact rfl) | (apply C.condF; exact rfl) | (apply C.condDec; exact rfl; (intro h; skip; rotate_left; intro h; skip; rotate_left)) | (apply C.condBeq; exact rfl; (intro h; skip; rotate_left; intro h; skip; rotate_left)) | (apply C.condBne; exact rfl; (intro h; skip; rotate_left; intro h; skip; rotate_left)) | (apply C.condNDec; exact rfl; (intro h; skip; rotate_left; intro h; skip; rotate_left)) | (apply C.condNot; exact rfl; (intro h; skip; rotate_left; intro h; skip; rotate_left)) | (apply C.cond; exact rfl; (intro h; skip; rotate_left; intro h; skip; rotate_left)))))
    (apply Fin.returnM (H2 := hov ++ (owXH ys ++ ((sb, seB life tmost tb) :: (hp ++ H)))); assumption; exact .inl rfl; exact rfl; exact Marks.cons (by (exact a_at)) (Marks.nil _); (exact a_res); (simp only [retv]; rfl); (exact a_arr))
    exact ⟨ys, hov, g0, g2, rfl, rfl⟩
/-- what is of one's own may go to the pool -/
theorem OwnK.ok {y : OwX} (h : OwnK y) (hin : In M y.hp) : y.s.ok M := by
  obtain ⟨h1, h2⟩ := h
  obtain ⟨_, _, hv, h3, h4⟩ := h2.form
  injection hv with _ _ hc
  subst hc
  exact ⟨h1, by omega, by unfold maxLen at h4; omega, h2.plIn hin⟩
theorem OwnXs.oks {v : Value} {ys : List OwX} {hrow : Hp} (h : OwnXs v ys hrow) (hin : In M (owXH ys)) : ∀ y ∈ owX ys, y.ok M := by
  intro y hy
  obtain ⟨z, hz, rfl⟩ := List.mem_map.1 hy
  exact (h.2 z hz).ok (fun p hp => hin p (List.mem_flatten.2 ⟨_, List.mem_map.2 ⟨z, hz, rfl⟩, hp⟩))
/-- All, what is told being in the pool -/
theorem sall_KF {sb tb : Nat} {life most tmost : Int} {l : List (Int × Ses)} {hp : Hp} (ht : Tab 87 26 43 4 uV seC tb most (mapX l) hp) (hk : ∀ p ∈ l, p.2.ok M) (hkl : ∀ p ∈ l, p.2.ks.length ≤ 1000000) : K Try.prog 14 [.pointer (some ⟨sb, 0, none⟩)] M ((sb, seB life tmost tb) :: (hp ++ H)) fun v' M' H' => ∃ ys A c, v' = .slice A ys.length c ∧ ys.length ≤ c ∧ c ≤ 9223372036854775807 ∧ Pl M' A (sesC ys) ∧ (∀ y ∈ ys, y.ok M') ∧ ys.map Ses.d = l.map (fun p => p.2.d) ∧ M.le M' ∧ H' = (sb, seB life tmost tb) :: (hp ++ H) := by
  refine K.freezeT (sall_K ht hk hkl) ?_
  rintro v M' _ ⟨ys, ho, h1, h2, rfl, rfl⟩
  refine ⟨ho ++ owXH ys, (sb, seB life tmost tb) :: (hp ++ H), by ((try simp only [List.append_assoc, List.cons_append, List.nil_append, List.append_nil]); exact a_arr), fun M2 hM2 hin => ?_⟩
  obtain ⟨A, c, rfl, h3, h4⟩ := h1.1.form
  have hl : (owX ys).length = ys.length := List.length_map ..
  exact ⟨owX ys, A, c, by rw [hl], by rw [hl]; exact h3, by unfold maxLen at h4; omega, h1.1.plIn hin.left, h1.oks hin.right, h2, hM2, rfl⟩
end Go.Sx
