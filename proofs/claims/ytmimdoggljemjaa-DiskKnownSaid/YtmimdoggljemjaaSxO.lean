/- Steps of which the side conditions are filled in by their defaults. -/
import Derived.Test.YtmimdoggljemjaaSxN
namespace Go.Sx
section
variable {P : Program} {L : Sl} {M M' : Mem} {H : Hp} {d : Option Tmp} {ty : TypeId} {pos : String} {af : Array Edge} {g : Option (Nat × Bool)}
theorem le_at {b : Nat} {o : Obj} (h : M.le M') (hb : M.at_ b = some o) : M'.at_ b = some o := h.2.2 _ _ hb
theorem Ok.eqIR {t t' : TypeId} {x y : Operand} {k : IntKind} {p q : Int} (hx : ev L x = some (.int k p)) (hy : ev L y = some (.int k q)) (h : p = q) : Ok P ⟨d, .binOp .eql t x y t', ty, pos, af, g⟩ L M H (.bool true) := by
  subst h
  exact Ok.eqIS hx hy
theorem Ok.neIR {t t' : TypeId} {x y : Operand} {k : IntKind} {p q : Int} (hx : ev L x = some (.int k p)) (hy : ev L y = some (.int k q)) (h : p = q) : Ok P ⟨d, .binOp .neq t x y t', ty, pos, af, g⟩ L M H (.bool false) := by
  subst h
  exact Ok.neIS hx hy
theorem Ok.loadAggP {t : TypeId} {ds : TypeDesc} {x : Operand} {b o sz by_ : Nat} {z : Value} {c : Array Value} {e : TypeId} {fr : Nat × Nat} {vs : List Value} [hs : Und P t ds] [hi : Inf P t sz by_ z] (hx : ev L x = some (.pointer (some ⟨b, o, none⟩))) (hag : aggD ds = true)
    (hb : M.at_ b = some (.cells c e fr)) (hc : ∀ j u, vs[j]? = some u → c[o + j]? = some u) (hl : vs.length = sz) : Ok P ⟨d, .load t x, ty, pos, af, g⟩ L M H (.agg vs.toArray) :=
  Ok.loadAggC hx hag (fun _ hh => hh.pool _ _ hb) hl hc
theorem Ok.loadAggO {t : TypeId} {ds : TypeDesc} {x : Operand} {b o sz by_ : Nat} {z : Value} {l : List Value} {e : TypeId} {fr : Nat × Nat} {vs : List Value} {f : Obj → Hp} [hs : Und P t ds] [hi : Inf P t sz by_ z] (hx : ev L x = some (.pointer (some ⟨b, o, none⟩))) (hag : aggD ds = true)
    (hb : At H b (.cells l.toArray e fr) f) (hc : ∀ j u, vs[j]? = some u → l[o + j]? = some u) (hl : vs.length = sz) : Ok P ⟨d, .load t x, ty, pos, af, g⟩ L M H (.agg vs.toArray) :=
  Ok.loadAggC hx hag (fun _ hh => hh.own _ hb.mem) hl (fun j u hj => by simpa using hc j u hj)
theorem Ok.loadM {t : TypeId} {ds : TypeDesc} {x : Operand} {b o : Nat} {l : List Value} {e : TypeId} {fr : Nat × Nat} {v : Value} [hs : Und P t ds] (hx : ev L x = some (.pointer (some ⟨b, o, none⟩))) (hag : aggD ds = false)
    (hb : (b, Obj.cells l.toArray e fr) ∈ H) (hc : l[o]? = some v) : Ok P ⟨d, .load t x, ty, pos, af, g⟩ L M H v :=
  Ok.loadCell hx hag (fun _ hh => hh.own _ hb) (by simpa using hc)
theorem Ok.loadAggM {t : TypeId} {ds : TypeDesc} {x : Operand} {b o sz by_ : Nat} {z : Value} {l : List Value} {e : TypeId} {fr : Nat × Nat} {vs : List Value} [hs : Und P t ds] [hi : Inf P t sz by_ z] (hx : ev L x = some (.pointer (some ⟨b, o, none⟩))) (hag : aggD ds = true)
    (hb : (b, Obj.cells l.toArray e fr) ∈ H) (hc : Sub l o sz vs) : Ok P ⟨d, .load t x, ty, pos, af, g⟩ L M H (.agg vs.toArray) :=
  Ok.loadAggC hx hag (fun _ hh => hh.own _ hb) hc.spec.1 (fun j u hj => by simpa using hc.spec.2 j u hj)
theorem Arr.self {H : Hp} : Arr H (H ++ []) := by rw [List.append_nil]; exact Arr.all _
theorem Tk.self {s : Hp} : Tk s s [] := by have h := Tk.here s []; rwa [List.append_nil] at h
theorem Arr.rest1 {x : Nat × Obj} {H : Hp} : Arr (x :: H) (H ++ [x]) := Arr.app (Tk.skip x Tk.self) (Arr.all _)
theorem Arr.rest2 {x y : Nat × Obj} {H : Hp} : Arr (x :: y :: H) (H ++ [x, y]) := Arr.app (Tk.skip x (Tk.skip y Tk.self)) (Arr.all _)
theorem Arr.none : ∀ {H : Hp}, Arr H []
  | [] => Arr.all _
  | x :: _ => Arr.drop x Arr.none
theorem Arr.left {H X : Hp} : Arr (H ++ X) H := by have h : Arr (H ++ X) (H ++ []) := Arr.app (Tk.here H X) Arr.none; rwa [List.append_nil] at h
theorem RP.nil0 {r : Option Nat} {n : Nat} {D : List Deferred} {Q : Post} {ds : List (Option Tmp)} {M0 : Mem} {Hs : Hp} (h : Fin n .normal Q D L M Hs) : RP P r n ds [] [] Q D L M0 M Hs [] := RP.nil (by rw [List.append_nil]; exact h)
theorem a_mem {p : Prop} (h : p := by
  (first | assumption | exact List.mem_cons_self | exact List.mem_cons_of_mem _ (by assumption) | exact List.mem_cons_of_mem _ (List.mem_cons_of_mem _ (by assumption)) | exact List.mem_append_left _ (by assumption) | exact List.mem_append_left _ (List.mem_cons_of_mem _ (by assumption)) | exact List.mem_cons_of_mem _ (List.mem_append_left _ (by assumption)) | exact List.mem_append_right _ (by assumption) | exact List.mem_append_left _ (List.mem_cons_of_mem _ (List.mem_cons_of_mem _ (by assumption))) | exact List.mem_append_left _ (List.mem_append_right _ (by assumption)) | exact List.mem_cons_of_mem _ (List.mem_append_right _ (by assumption)) | fail)) : p := h
end

theorem a_blit {p : Prop} (h : p := by
  (focus ((repeat (first | exact Blit.nil _ | apply Blit.cons | apply Blit.skip)); (first | done | fail)))) : p := h
theorem a_sub {p : Prop} (h : p := by
  (focus ((repeat (first | exact Sub.nil _ | apply Sub.cons | apply Sub.skip)); (first | done | fail)))) : p := h
theorem a_at {p : Prop} (h : p := by
  (first | exact At.head _ _ _ | exact At.tail _ (At.head _ _ _) | exact At.tail _ (At.tail _ (At.head _ _ _)) | exact At.tail _ (At.tail _ (At.tail _ (At.head _ _ _))) | exact At.tail _ (At.tail _ (At.tail _ (At.tail _ (At.head _ _ _)))) | exact At.tail _ (At.tail _ (At.tail _ (At.tail _ (At.tail _ (At.head _ _ _))))) | exact At.tail _ (At.tail _ (At.tail _ (At.tail _ (At.tail _ (At.tail _ (At.head _ _ _)))))) | (focus (repeat (first | exact At.head _ _ _ | apply At.tail | apply At.app)); (first | done | fail)) | fail)) : p := h
theorem a_tk {p : Prop} (h : p := by
  (first | exact Tk.one _ _ _ | exact Tk.here _ _ | exact Tk.skip _ (Tk.one _ _ _) | exact Tk.skip _ (Tk.here _ _) | exact Tk.skip _ (Tk.skip _ (Tk.one _ _ _)) | exact Tk.skip _ (Tk.skip _ (Tk.here _ _)) | (focus (repeat (first | exact Tk.one _ _ _ | exact Tk.here _ _ | apply Tk.skip | apply Tk.skipA)); (first | done | fail)) | fail)) : p := h
theorem a_evs {p : Prop} (h : p := by
  (focus ((repeat (first | exact Evs.nil | apply Evs.cons rfl)); (first | done | fail)))) : p := h
theorem a_prt {p : Prop} (h : p := by
  (focus ((repeat (first | exact Prt.nil | apply Prt.cons rfl)); (first | done | fail)))) : p := h
theorem a_subs {p : Prop} (h : p := by
  (focus ((repeat (first | exact sub_nil _ | apply sub_cons rfl)); (first | done | fail)))) : p := h
theorem a_fills {p : Prop} (h : p := by
  (focus ((repeat (first | exact Fills.nil _ | (apply Fills.cons; exact rfl; exact rfl; exact rfl; exact a_blit))); (first | done | fail)))) : p := h
theorem a_res {p : Prop} (h : p := by
  (focus ((repeat (first | exact Res.nil | apply Res.cons rfl | (apply Res.cellAgg; exact rfl; exact rfl; exact a_at; exact a_sub) | (apply Res.cellOne; exact rfl; exact rfl; exact a_at; exact rfl))); (first | done | fail)))) : p := h
theorem a_arr {p : Prop} (h : p := by
  (first | (focus (repeat (first | exact Arr.all _ | (apply Arr.cons; exact a_tk) | (apply Arr.app; exact a_tk) | exact Arr.left | apply Arr.drop | apply Arr.dropA)); (first | done | fail)) | exact Arr.left | fail)) : p := h
theorem a_picked {p : Prop} (h : p := by
  (focus ((repeat (first | exact picked.nil | (apply picked.cons; exact rfl))); (first | done | fail)))) : p := h
theorem a_np {p : Prop} (h : p := by
  (focus ((repeat (first | assumption | apply NoPanic.then_ | apply NoPanic.inBlock)); (first | done | fail)))) : p := h
theorem a_ok {p : Prop} (h : p := by
  (first | (apply Ok.move; exact rfl) | (apply Ok.load; exact rfl; exact rfl; exact a_at; exact rfl) | (apply Ok.nilCheck; exact rfl) | (apply Ok.fieldAddr; exact rfl) | (apply Ok.assign; exact rfl) | (apply Ok.len; exact rfl) | (apply Ok.extract; exact rfl; exact rfl) | (apply Ok.eqIR; exact rfl; exact rfl; with_reducible rfl) | (apply Ok.eqI; exact rfl; exact rfl) | (apply Ok.neIR; exact rfl; exact rfl; with_reducible rfl) | (apply Ok.neI; exact rfl; exact rfl) | (apply Ok.lt; exact rfl; exact rfl) | (apply Ok.le; exact rfl; exact rfl) | (apply Ok.gt; exact rfl; exact rfl) | (apply Ok.ge; exact rfl; exact rfl) | (apply Ok.not; exact rfl) | (apply Ok.pickT; exact rfl; exact rfl) | (apply Ok.pickF; exact rfl; exact rfl) | (apply Ok.loadAgg; exact rfl; exact rfl; exact a_at; exact a_sub) | (apply Ok.field; exact rfl; exact rfl) | (apply Ok.fieldAgg; exact rfl; exact a_sub) | (apply Ok.minI; exact rfl; exact rfl) | (apply Ok.maxI; exact rfl; exact rfl) | (apply Ok.build; exact a_prt; exact a_fills) | (apply Ok.lenS; exact rfl) | (apply Ok.nilCheckF; exact rfl) | (apply Ok.eqStrS; exact rfl; exact rfl) | (apply Ok.eqStr; exact rfl; exact rfl) | (apply Ok.neStrS; exact rfl; exact rfl) | (apply Ok.neStr; exact rfl; exact rfl) | (apply Ok.addB; exact rfl; exact rfl; apply w64; omega; omega) | (apply Ok.subB; exact rfl; exact rfl; apply w64; omega; omega) | (apply Ok.addB; exact rfl; exact rfl; apply wu64; omega; omega) | (apply Ok.subB; exact rfl; exact rfl; apply wu64; omega; omega) | (apply Ok.convB; exact rfl; apply w64; omega; omega) | (apply Ok.convB; exact rfl; apply wu64; omega; omega) | (apply Ok.convB; exact rfl; apply wu32; omega; omega) | (apply Ok.mulB; exact rfl; exact rfl; apply w64; omega; omega) | (apply Ok.remP; exact rfl; exact rfl; omega; omega) | (apply Ok.quoP; exact rfl; exact rfl; omega; omega; omega) | (apply Ok.rem; exact rfl; exact rfl; omega) | (apply Ok.eqPN; exact rfl; exact rfl) | (apply Ok.nePN; exact rfl; exact rfl) | (apply Ok.xorB; exact rfl; exact rfl) | (apply Ok.xorN; exact rfl; exact rfl; omega; omega) | (apply Ok.andN; exact rfl; exact rfl; omega; omega) | (apply Ok.andN (q := 1); exact rfl; exact rfl; omega; decide) | (apply Ok.xorN (q := 2197175160); exact rfl; exact rfl; omega; decide) | (apply Ok.xorN (q := 4294967295); exact rfl; exact rfl; omega; decide) | (apply Ok.quoN (q := 2); exact rfl; exact rfl; decide; omega) | (apply Ok.shrQ 1 2; exact rfl; exact rfl; decide; decide) | (apply Ok.shrQ 8 256; exact rfl; exact rfl; decide; decide) | (apply Ok.shrQ 16 65536; exact rfl; exact rfl; decide; decide) | (apply Ok.shrQ 24 16777216; exact rfl; exact rfl; decide; decide) | (apply Ok.convW; exact rfl) | (apply Ok.convL; exact rfl) | (apply Ok.notN; exact rfl; omega) | (apply Ok.quoN; exact rfl; exact rfl; decide; omega) | (apply Ok.neBoS; exact rfl; exact rfl) | (apply Ok.eqBoS; exact rfl; exact rfl) | (apply Ok.neBo; exact rfl; exact rfl) | (apply Ok.eqBo; exact rfl; exact rfl) | (apply Ok.indexAddr; exact rfl; exact rfl; omega; omega) | (apply Ok.loadP; exact rfl; exact rfl; (first | assumption | (apply le_at; assumption; assumption)); assumption) | (apply Ok.load; exact rfl; exact rfl; exact a_at; assumption) | (apply Ok.loadAggP; exact rfl; exact rfl; (first | assumption | (apply le_at; assumption; assumption)); assumption; exact rfl) | (apply Ok.loadAggO; exact rfl; exact rfl; exact a_at; assumption; exact rfl) | (apply Ok.loadM; exact rfl; exact rfl; exact a_mem; exact rfl) | (apply Ok.loadAggM; exact rfl; exact rfl; exact a_mem; exact a_sub) | fail)) : p := h

section
variable {P : Program} {r : Option Nat} {n : Nat} {D : List Deferred} {L : Sl} {M : Mem} {H : Hp} {Q : Post} {d : Option Tmp} {op : Op} {ty : TypeId} {pos : String} {af : Array Edge} {v : Value} {rest : List Oper} {ds : List (Option Tmp)} {j : Nat} {want : Bool} {dj : Tmp}
theorem R.s {dr : Bool} {ops : Array Oper} (k : R dr P r n ops rest Q D (bnd d v L) M H) (h : Ok P ⟨d, op, ty, pos, af, none⟩ L M H v := by exact a_ok) (hd : dok n d = true := by exact rfl) : R dr P r n ops (⟨d, op, ty, pos, af, none⟩ :: rest) Q D L M H := R.step h hd k
theorem R.gT {dr : Bool} {ops : Array Oper} (k : R dr P r n ops (⟨d, op, ty, pos, af, none⟩ :: rest) Q D L M H) (ho : OpsOf ds ops := by assumption) (hdj : ds[j]? = some (some dj) := by exact rfl) (hb : lk L dj = some (.bool want) := by exact rfl) (hlt : Nat.ble (dj + 1) n = true := by exact rfl) :
    R dr P r n ops (⟨d, op, ty, pos, af, some (j, want)⟩ :: rest) Q D L M H := R.guardT ho hdj hb hlt k
theorem R.gF {dr : Bool} {ops : Array Oper} {b : Bool} (k : R dr P r n ops rest Q D (bnd d undef L) M H) (ho : OpsOf ds ops := by assumption) (hdj : ds[j]? = some (some dj) := by exact rfl) (hb : lk L dj = some (.bool b) := by exact rfl) (hlt : Nat.ble (dj + 1) n = true := by exact rfl) (hne : (b == want) = false := by exact rfl) (hd : dok n d = true := by exact rfl) :
    R dr P r n ops (⟨d, op, ty, pos, af, some (j, want)⟩ :: rest) Q D L M H := R.guardF ho hdj hb hlt hne hd k
theorem R.gU {dr : Bool} {ops : Array Oper} (k : R dr P r n ops rest Q D (bnd d undef L) M H) (ho : OpsOf ds ops := by assumption) (hdj : ds[j]? = some (some dj) := by exact rfl) (hb : lk L dj = some undef := by exact rfl) (hlt : Nat.ble (dj + 1) n = true := by exact rfl) (hd : dok n d = true := by exact rfl) :
    R dr P r n ops (⟨d, op, ty, pos, af, some (j, want)⟩ :: rest) Q D L M H := R.guardU ho hdj hb hlt hd k
variable {ks : List Nat} {M0 : Mem} {Hs Hx : Hp}
theorem RP.s (k : RP P r n ds ks rest Q D (bnd d v L) M0 M Hs Hx) (h : ∀ M' Hx', M0.le M' → Ok P ⟨d, op, ty, pos, af, none⟩ L M' (Hs ++ Hx') v := by (intro _ _ _; exact a_ok)) (hd : dok n d = true := by exact rfl) :
    RP P r n ds (1 :: ks) (⟨d, op, ty, pos, af, none⟩ :: rest) Q D L M0 M Hs Hx := RP.step h hd k
theorem RP.sT (k : RP P r n ds ks rest Q D (bnd d v L) M0 M Hs Hx) (hdj : ds[j]? = some (some dj) := by exact rfl) (hb : lk L dj = some (.bool want) := by exact rfl) (hlt : Nat.ble (dj + 1) n = true := by exact rfl) (h : ∀ M' Hx', M0.le M' → Ok P ⟨d, op, ty, pos, af, some (j, want)⟩ L M' (Hs ++ Hx') v := by (intro _ _ _; exact a_ok)) (hd : dok n d = true := by exact rfl) :
    RP P r n ds (1 :: ks) (⟨d, op, ty, pos, af, some (j, want)⟩ :: rest) Q D L M0 M Hs Hx := RP.stepT hdj hb hlt h hd k
theorem RP.sF {b : Bool} (k : RP P r n ds ks rest Q D (bnd d undef L) M0 M Hs Hx) (hdj : ds[j]? = some (some dj) := by exact rfl) (hb : lk L dj = some (.bool b) := by exact rfl) (hlt : Nat.ble (dj + 1) n = true := by exact rfl) (hne : (b == want) = false := by exact rfl) (hd : dok n d = true := by exact rfl) :
    RP P r n ds (1 :: ks) (⟨d, op, ty, pos, af, some (j, want)⟩ :: rest) Q D L M0 M Hs Hx := RP.stepF hdj hb hlt hne hd k
theorem RP.eF {b : Bool} (k : RP P r n ds ks rest Q D (bnd d undef L) M0 M Hs Hx) (hdj : ds[j]? = some (some dj) := by exact rfl) (hb : lk L dj = some (.bool b) := by exact rfl) (hlt : Nat.ble (dj + 1) n = true := by exact rfl) (hne : (b == want) = false := by exact rfl) (hd : dok n d = true := by exact rfl) :
    RP P r n ds (0 :: ks) (⟨d, op, ty, pos, af, some (j, want)⟩ :: rest) Q D L M0 M Hs Hx := RP.effF hdj hb hlt hne hd k
end
section
variable {P : Program} {n : Nat} {r : Option Nat} {D : List Deferred} {L : Sl} {M : Mem} {H : Hp} {Q : Post}
theorem R.st {ty : TypeId} {pos : String} {af : Array Edge} {ops : Array Oper} {rest : List Oper} {t sz by_ : Nat} {z : Value} {x y : Operand} {b o : Nat} {v : Value} {l vs l' : List Value} {e : TypeId} {f : Obj → Hp} [hi : Inf P t sz by_ z] (k : R false P r n ops rest Q D L M (f (.cells l'.toArray e (0, 0)))) (hx : ev L x = some (.pointer (some ⟨b, o, none⟩)) := by exact rfl) (hy : ev L y = some v := by exact rfl)
    (hv : v.cells = vs.toArray := by exact rfl) (hb : At H b (.cells l.toArray e (0, 0)) f := by exact a_at) (hB : Blit l o vs l' := by exact a_blit) (hl : vs.length = sz := by exact rfl) (hone : ∀ u ∈ vs, u.oneCell' = true := by (focus (simp [Value.oneCell']; done))) :
    R false P r n ops (⟨none, .store t x y, ty, pos, af, none⟩ :: rest) Q D L M H := R.store hx hy hv hb hB hl hone k
theorem Fin.rt {fn : Func} {T : Value → Mem → Hp → Prop} {rs : List ResultVar} {vs : List Value} {v : Value} {e : Exit} (ht : T v M H) (hq : RetOk P fn T Q := by assumption) (he : e = .ret ∨ e = .normal := by (first | exact .inl rfl | exact .inr rfl)) (hr : fn.results = rs.toArray := by exact rfl) (h : Res P L M H rs vs := by exact a_res) (hv : retv vs = v := by (simp only [retv]; rfl)) : Fin n e Q [] L M H := Fin.returnK hq he hr h hv ht
end
end Go.Sx
