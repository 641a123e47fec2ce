import Derived.Shelf.Sort.Plain
import Derived.Shelf.Slices.In.SortNone
import Derived.Sort.KeysCollected
import Derived.Test.YtpjmlcnboedpeaaGreatProg
import Derived.Scope
import Derived.Test.YtpjmlcnboedpeaaGreatZSegPlays2
set_option linter.unusedVariables false
set_option linter.unusedSimpArgs false
section
namespace Go.Sx
open Go Go.Proofs Go.RowKit
attribute [local irreducible] C R Fin K Own OwnT Rd Pl Ok KOf RetOk OpsOf RP KP Res NoPanic KV KE RT KT OneT RS KS OneS
variable {M M' : Mem} {H H1 H2 : Hp}
structure Sg where
 first : Nat
 it : List (En × Nat)
def Sg.es (s : Sg) : List En := s.it.map Prod.fst
def Sg.zs (s : Sg) : List Nat := s.it.map Prod.snd
def Sg.size (s : Sg) : Nat := s.zs.sum
theorem Sg.es_len (s : Sg) : s.es.length = s.it.length := List.length_map ..
theorem Sg.zs_len (s : Sg) : s.zs.length = s.it.length := List.length_map ..
def endsA : Nat → List Nat → List Nat
 | _, [] => []
 | a, z :: zs => (a + z) :: endsA (a + z) zs
theorem endsA_len : ∀ (zs : List Nat) (a : Nat), (endsA a zs).length = zs.length
 | [], _ => rfl
 | z :: zs, a => by rw [endsA, List.length_cons, List.length_cons, endsA_len zs]
theorem endsA_snoc : ∀ (zs : List Nat) (a z : Nat), endsA a (zs ++ [z]) = endsA a zs ++ [a + zs.sum + z]
 | [], a, z => by simp [endsA]
 | y :: zs, a, z => by
  rw [List.cons_append, endsA, endsA, endsA_snoc zs, List.cons_append, List.sum_cons]
  rw [Nat.add_assoc a y]
theorem endsA_take : ∀ (zs : List Nat) (a k : Nat), (endsA a zs).take k = endsA a (zs.take k)
 | [], _, _ => by simp [endsA]
 | z :: zs, a, 0 => rfl
 | z :: zs, a, k + 1 => by rw [endsA, List.take_succ_cons, List.take_succ_cons, endsA, endsA_take zs]
theorem endsA_last {zs : List Nat} (a : Nat) (h : 0 < zs.length) : (endsA a zs)[zs.length - 1]? = some (a + zs.sum) := by
 obtain ⟨ys, z, rfl⟩ : ∃ ys z, zs = ys ++ [z] := ⟨zs.dropLast, zs.getLast (List.ne_nil_of_length_pos h), (List.dropLast_concat_getLast _).symm⟩
 rw [endsA_snoc, List.length_append, List.length_singleton, Nat.add_sub_cancel, List.getElem?_append_right (by rw [endsA_len]; exact Nat.le_refl _), endsA_len, Nat.sub_self, List.sum_append]
 simp [Nat.add_assoc]
def endC (l : List Nat) : List Value := l.map fun n : Nat => .int .i64 (n : Int)
structure PtV where
 s : Sg
 lv : Value
 ev : Value
 lh : Hp
 eh : Hp
def PtO (M : Mem) (p : PtV) : Prop := OwnP M p.lv p.s.es p.lh ∧ OwnT 3 1 p.ev p.s.it.length (endC (endsA 0 p.s.zs)) p.eh
theorem PtO.mono {p : PtV} (hM : M.le M') (h : PtO M p) : PtO M' p := ⟨h.1.mono hM, h.2⟩
def ptC (p : PtV) : List Value := [.int .u64 (p.s.first : Int), p.lv, p.ev]
theorem ptC_all (ps : List PtV) : ∀ c ∈ ps.map ptC, c.length = 3 := by
 intro c hc
 obtain ⟨x, _, rfl⟩ := List.mem_map.1 hc
 rfl
def ptH (ps : List PtV) : Hp := ps.flatMap fun p => p.lh ++ p.eh
theorem ptH_snoc (ps : List PtV) (p : PtV) : ptH (ps ++ [p]) = ptH ps ++ (p.lh ++ p.eh) := by simp [ptH]
def lgO (db : Nat) (lim : Int) (pv : Value) : Obj := .cells [.pointer (some ⟨db, 0, none⟩), .int .i64 lim, pv].toArray 78 (0, 0)
def PtP (M : Mem) (p : PtV) : Prop := EnL M p.lv p.s.es ∧ ∃ A c, p.ev = .slice A p.s.it.length c ∧ p.s.it.length ≤ c ∧ c ≤ 9223372036854775807 ∧ Pl M A (endC (endsA 0 p.s.zs))
theorem PtO.ptP {M2 : Mem} {p : PtV} (h : PtO M p) (hM : M.le M2) (hi : In M2 (p.lh ++ p.eh)) : PtP M2 p := by
 obtain ⟨h1, h2⟩ := h
 refine ⟨(h1.mono hM).enL hi.left, ?_⟩
 obtain ⟨A, c, e, k1, k2⟩ := h2.form
 rw [e] at h2
 exact ⟨A, c, e, k1, by unfold maxLen at k2; omega, h2.plIn hi.right⟩
theorem PtP.mono {p : PtV} (h : PtP M p) (hM : M.le M') : PtP M' p := by
 obtain ⟨h1, A, c, h2, h3, h4, h5⟩ := h
 exact ⟨h1.mono hM, A, c, h2, h3, h4, h5.mono hM⟩
def SgO (M : Mem) (lb db : Nat) (lim : Int) (ss : List Sg) (hp : Hp) : Prop := ∃ (ps : List PtV) (pv : Value) (hrow : Hp), ps.map PtV.s = ss ∧ OwnT 85 3 pv ps.length (ps.map ptC).flatten hrow ∧ (∀ p ∈ ps, PtO M p) ∧ hp = (lb, lgO db lim pv) :: (hrow ++ ptH ps)
theorem SgO.mono {lb db : Nat} {lim : Int} {ss : List Sg} {hp : Hp} (h : SgO M lb db lim ss hp) (hM : M.le M') : SgO M' lb db lim ss hp := by
 obtain ⟨ps, pv, hrow, h1, h2, h3, h4⟩ := h
 exact ⟨ps, pv, hrow, h1, h2, fun p hp => (h3 p hp).mono hM, h4⟩
def SgP (M : Mem) (lb db : Nat) (lim : Int) (ss : List Sg) : Prop := ∃ (ps : List PtV) (A : Option Addr) (cap : Nat), ps.map PtV.s = ss ∧ M.at_ lb = some (lgO db lim (.slice A ps.length cap)) ∧ ps.length ≤ cap ∧ cap ≤ 9223372036854775807 ∧ Pl M A (ps.map ptC).flatten ∧ ∀ p ∈ ps, PtP M p
theorem ptH_in {ps : List PtV} (hi : In M (ptH ps)) {p : PtV} (hp : p ∈ ps) : In M (p.lh ++ p.eh) := fun q hq => hi q (List.mem_flatMap.2 ⟨p, hp, hq⟩)
theorem SgO.sgP {lb db : Nat} {lim : Int} {ss : List Sg} {hp : Hp} {M2 : Mem} (h : SgO M lb db lim ss hp) (hM : M.le M2) (hi : In M2 hp) : SgP M2 lb db lim ss := by
 obtain ⟨ps, pv, hrow, h1, h2, h3, rfl⟩ := h
 obtain ⟨A, c, rfl, k1, k2⟩ := h2.form
 exact ⟨ps, A, c, h1, hi.head, k1, by unfold maxLen at k2; omega, h2.plIn hi.tail.left, fun p hp => (h3 p hp).ptP hM (ptH_in hi.tail.right hp)⟩
def sgsOk (ss : List Sg) : Prop := ∀ s ∈ ss, 0 < s.it.length ∧ ∀ e ∈ s.es, entS e
theorem sgsOk.sub {ss ts : List Sg} (h : sgsOk ss) (hs : ∀ s ∈ ts, s ∈ ss) : sgsOk ts := fun s m => h s (hs s m)
def lastO (ss : List Sg) : Option En := ss.getLast?.bind fun s => s.es.getLast?
theorem getLast_len {α : Type} {l : List α} (h : 0 < l.length) : l.getLast? = some (l[l.length - 1]'(by omega)) := by
 rw [List.getLast?_eq_getElem?, List.getElem?_eq_getElem (by omega)]
theorem plast_KQ {f : Nat} {A B : Option Addr} {cap m cb : Nat} {es : List En} {a : En} (h : EnL M (.slice A es.length cap) es) (ha : es.getLast? = some a) : ∃ A' c', PlB M (.slice A' a.data.length c') a.data ∧ ∀ M2 H, M.le M2 → K Tryz.prog 80 [.agg #[.int .u64 (f : Int), .slice A es.length cap, .slice B m cb]] M2 H fun v' M' H' => v' = eV a (.slice A' a.data.length c') ∧ M' = M2 ∧ H' = H := by
 obtain ⟨A1, c1, vs, e1, k1, k2, k3, k4⟩ := h
 cases e1
 rw [List.getLast?_eq_getElem?] at ha
 obtain ⟨hi, ha⟩ := List.getElem?_eq_some_iff.1 ha
 obtain ⟨b, o, c, e, fr, Ai, ci, hA, hMb, hcell, _, hi1, hi2, hpi⟩ := en_at k3 k4 hi
 subst hA
 rw [ha] at hi1 hpi hcell
 refine ⟨Ai, ci, ⟨Ai, ci, rfl, hi1, hi2, hpi⟩, ?_⟩
 intro M2 H hM2
 refine K.enterM Tryz.func80 rfl rfl rfl ?_
 intro Q hNP hQ
 have hMb2 := hM2.2.2 _ _ hMb
 have hll : (es.length : Int) - 1 = ((es.length - 1 : Nat) : Int) := by omega
 (repeat' (first | (refine a_gn ?_; intros) | refine a_sp (fun h => ?_) fun h => ?_ | fail))
 ((apply R.box; exact rfl; (simp only [Value.cells]; rfl); exact rfl); intro b1)
 (repeat' (first | (refine a_gn ?_; intros) | refine a_sp (fun h => ?_) fun h => ?_ | fail))
 ((apply R.alloc; (simp only [Value.cells]; rfl); exact rfl); intro b2)
 (repeat' (first | (refine a_go ?_; intros) | refine a_sp (fun h => ?_) fun h => ?_ | fail))
 rw [hll]
 have hagg : ∀ (q : Nat) u, (ecells a (.slice Ai a.data.length ci))[q]? = some u → c[o + ((es.length - 1 : Nat) : Int).toNat * 5 + q]? = some u := fun q u hq => hcell q u hq
 (repeat' (first | refine a_mv ?_ | (apply R.step; (first | (apply Ok.indexAddr; exact rfl; exact rfl; omega; omega) | (apply Ok.loadAggP (vs := ecells a (.slice Ai a.data.length ci)); exact rfl; exact rfl; exact hMb2; exact rfl; exact hagg)); exact rfl) | (refine a_go ?_; intros) | refine a_sp (fun h => ?_) fun h => ?_ | fail))
 unfold ecells
 (repeat' (first | (refine a_go ?_; intros) | refine a_sp (fun h => ?_) fun h => ?_ | fail))
 (apply Fin.returnM (H2 := H); assumption; exact .inl rfl; exact rfl; exact Marks.nil _; (exact a_res); (simp only [retv]; rfl); (exact a_arr))
 exact ⟨rfl, rfl, rfl⟩
theorem psize_K {f : Nat} {v : Value} {B : Option Addr} {m n cb : Nat} {A : Option Addr} {q ca : Nat} {l : List Nat} (hv : v = .slice A q ca) (hp : Pl M B (endC l)) (hl : l.length = m) (h0 : 0 < m) (hn : l[m - 1]? = some n) (hm : m ≤ 9223372036854775807) : K Tryz.prog 77 [.agg #[.int .u64 (f : Int), v, .slice B m cb]] M H fun v' M' H' => v' = .int .i64 (n : Int) ∧ M' = M ∧ H' = H := by
 refine K.enterK Tryz.func77 rfl rfl rfl ?_
 intro Q hNP hQ
 subst hv
 have hll : (m : Int) - 1 = ((m - 1 : Nat) : Int) := by omega
 have hc : (endC l)[m - 1]? = some (.int .i64 (n : Int)) := by
  unfold endC
  rw [List.getElem?_map, hn]
  rfl
 obtain ⟨b, o, c, e, fr, rfl, hMb, hcell⟩ := hp.get hc
 rw [show o + (m - 1) = o + ((m - 1 : Nat) : Int).toNat * 1 by omega] at hcell
 (repeat' (first | (refine a_go ?_; intros) | refine a_sp (fun h => ?_) fun h => ?_ | fail))
 rw [hll]
 (repeat' (first | refine a_mv ?_ | (apply R.step; (first | (apply Ok.indexAddr; exact rfl; exact rfl; omega; omega) | (apply Ok.loadP; exact rfl; exact rfl; exact hMb; exact hcell)); exact rfl) | (refine a_go ?_; intros) | refine a_sp (fun h => ?_) fun h => ?_ | fail))
 (refine Fin.rA (H) ?_)
 exact ⟨rfl, rfl, rfl⟩
def fitE (a e : En) : Prop := e.idx = a.idx + 1 ∧ a.term ≤ e.term
instance (a e : En) : Decidable (fitE a e) := by unfold fitE; exact inferInstance
def fitS (prev : Option En) (first : Nat) (es : List En) (e : En) : Prop := match es.getLast? with
 | some a => fitE a e
 | none => e.idx = (first : Int) ∧ (match prev with
  | none => True
  | some a => fitE a e)
noncomputable instance (prev : Option En) (first : Nat) (es : List En) (e : En) : Decidable (fitS prev first es e) := Classical.propDecidable _
structure LastAt (M : Mem) (lb db : Nat) (lim : Int) (ss : List Sg) (s : Sg) (a : En) (b o cap cl ce : Nat) (Al Ae : Option Addr) (cc : Array Value) : Prop where
 rec_ : M.at_ lb = some (.cells #[.pointer (some ⟨db, 0, none⟩), .int .i64 lim, .slice (some ⟨b, o, none⟩) ss.length cap] 78 (0, 0))
 cap1 : ss.length ≤ cap
 cap2 : cap ≤ 9223372036854775807
 last : ss.getLast? = some s
 row : ∃ e fr, M.at_ b = some (.cells cc e fr)
 cell : ∀ (q : Nat) u, [Value.int .u64 (s.first : Int), .slice Al s.es.length cl, .slice Ae s.it.length ce][q]? = some u → cc[o + ((ss.length - 1 : Nat) : Int).toNat * 3 + q]? = some u
 enl : EnL M (.slice Al s.es.length cl) s.es
 ce1 : s.it.length ≤ ce
 ce2 : ce ≤ 9223372036854775807
 ends : Pl M Ae (endC (endsA 0 s.zs))
 len : 0 < s.it.length
 ok : ∀ e ∈ s.es, entS e
 lastE : s.es.getLast? = some a
 lastOE : lastO ss = some a
theorem LastAt.num {lb db : Nat} {lim : Int} {ss : List Sg} {s : Sg} {a : En} {b o cap cl ce : Nat} {Al Ae : Option Addr} {cc : Array Value} (h : LastAt M lb db lim ss s a b o cap cl ce Al Ae cc) : 1 ≤ a.idx ∧ a.idx ≤ 72057594037927935 := by
 have h1 := h.lastE
 rw [List.getLast?_eq_getElem?] at h1
 exact (entS_kind (h.ok _ (List.mem_of_getElem? h1))).2.2.2.2.2.1
theorem SgP.last {lb db : Nat} {lim : Int} {ss : List Sg} (h : SgP M lb db lim ss) (hok : sgsOk ss) (h0 : 0 < ss.length) : ∃ s a b o cap cl ce Al Ae cc, LastAt M lb db lim ss s a b o cap cl ce Al Ae cc := by
 obtain ⟨ps, Ap, cp, hss, hMl, p1, p2, p3, p4⟩ := h
 have hpl : ps.length = ss.length := by rw [← hss, List.length_map]
 have hpi : ps.length - 1 < ps.length := by omega
 obtain ⟨p, hp⟩ : ∃ p, ps[ps.length - 1]? = some p := ⟨_, List.getElem?_eq_getElem hpi⟩
 have hp' := (List.getElem?_eq_some_iff.1 hp).2
 have hls : ss.getLast? = some p.s := by
  rw [List.getLast?_eq_getElem?, ← hpl, ← hss, List.getElem?_map, hp]
  rfl
 have hpm : p ∈ ps := List.mem_of_getElem? hp
 have hso := hok p.s (by rw [← hss]; exact List.mem_map_of_mem hpm)
 obtain ⟨a, ha⟩ : ∃ a, p.s.es.getLast? = some a := ⟨_, getLast_len (by rw [Sg.es_len]; exact hso.1)⟩
 obtain ⟨b, o, cc, e0, fr, hA, hMb, hcell⟩ := row_agg p3 (ptC_all ps) (by decide) (k := ps.length - 1) (by rw [List.length_map]; exact hpi)
 subst hA
 rw [List.getElem_map, hp'] at hcell
 obtain ⟨hE, Ae, ce, hev, e1, e2, e3⟩ := p4 p hpm
 obtain ⟨Al, cl, vs, hlv, l1, l2, l3, l4⟩ := id hE
 refine ⟨p.s, a, b, o, cp, cl, ce, Al, Ae, cc, ?_, by omega, p2, hls, ⟨e0, fr, hMb⟩, ?_, hlv ▸ hE, e1, e2, e3, hso.1, hso.2, ha, ?_⟩
 ·rw [← hpl]
  exact hMl
 ·intro q u hq
  rw [← hpl]
  refine hcell q u ?_
  show [Value.int .u64 (p.s.first : Int), p.lv, p.ev][q]? = some u
  rw [hlv, hev]
  exact hq
 ·unfold lastO
  rw [hls]
  exact ha
theorem SgP.recE {lb db : Nat} {lim : Int} (h : SgP M lb db lim []) : ∃ A cap, M.at_ lb = some (.cells #[.pointer (some ⟨db, 0, none⟩), .int .i64 lim, .slice A 0 cap] 78 (0, 0)) := by
 obtain ⟨ps, A, cap, h1, h2, _⟩ := h
 have : ps = [] := List.map_eq_nil_iff.1 h1
 subst this
 exact ⟨A, cap, h2⟩
theorem SgP.at_ {lb db : Nat} {lim : Int} {ss : List Sg} (h : SgP M lb db lim ss) : ∃ (ps : List PtV) (A : Option Addr) (cap : Nat), ps.map PtV.s = ss ∧ M.at_ lb = some (lgO db lim (.slice A ps.length cap)) ∧ ps.length ≤ cap ∧ cap ≤ 9223372036854775807 ∧ Pl M A (ps.map ptC).flatten ∧ ∀ p ∈ ps, PtP M p := h
theorem fits_K {lb db : Nat} {lim : Int} {ss : List Sg} {f : Nat} {lv ev : Value} {es : List En} {e : En} {A : Option Addr} {cap q ce : Nat} {B : Option Addr} (hg : SgP M lb db lim ss) (hok : sgsOk ss) (hes : ∀ a ∈ es, entS a) (he : entS e) (hl : EnL M lv es) (hev : ev = .slice B q ce) : K Tryz.prog 86 [.pointer (some ⟨lb, 0, none⟩), .agg #[.int .u64 (f : Int), lv, ev], eV e (.slice A e.data.length cap)] M H fun v' M' H' => v' = .bool (decide (fitS (lastO ss) f es e)) ∧ M' = M ∧ H' = H := by
 refine K.enterK Tryz.func86 rfl rfl rfl ?_
 intro Q hNP hQ
 subst hev
 have hl0 := hl
 obtain ⟨A1, c1, vs, rfl, k1, k2, k3, k4⟩ := hl0
 have hEk := entS_kind he
 unfold eV ecells
 (repeat' (first | (refine a_gn ?_; intros) | refine a_sp (fun h => ?_) fun h => ?_ | fail))
 ((apply R.box; exact rfl; (simp only [Value.cells]; rfl); exact rfl); intro b1)
 (repeat' (first | (refine a_gn ?_; intros) | refine a_sp (fun h => ?_) fun h => ?_ | fail))
 ((apply R.box; exact rfl; (simp only [Value.cells]; rfl); exact rfl); intro b2)
 by_cases h0 : 0 < es.length
 ·have hi : es.length - 1 < es.length := by omega
  obtain ⟨a, ha⟩ : ∃ a, es.getLast? = some a := ⟨_, getLast_len h0⟩
  have hF : fitS (lastO ss) f es e ↔ fitE a e := by
   unfold fitS
   rw [ha]
  have hak := entS_kind (hes a (by rw [List.getLast?_eq_getElem?] at ha; exact List.mem_of_getElem? ha))
  (repeat' (first | refine a_mv ?_ | (apply R.step; (apply Ok.gtTr; exact rfl; exact rfl; omega); exact rfl) | (refine a_go ?_; intros) | refine a_sp (fun h => ?_) fun h => ?_ | fail))
  obtain ⟨Al, cl, hbl, hK⟩ := plast_KQ (f := f) (B := B) (m := q) (cb := ce) hl ha
  have hak2 := hak.2.2.2.2.2.1
  by_cases h1 : e.idx = a.idx + 1
  ·by_cases h2 : a.term ≤ e.term
   ·(apply C.regionT (t := .free 0 (.free 1 (.free 2 (.free 3 (.free 4 (.free 5 (.free 6 (.free 7 (.free 8 (.free 9 (.free 10 (.free 11 (.free 12 (.free 13 (.free 14 (.free 15 .nil)))))))))))))))) (Hs := [(b1, .cells #[.int .u64 ↑f, .slice A1 es.length c1, .slice B q ce] 85 (0, 0)), (b2, .cells #[.int .i64 e.kind, .int .u64 e.term, .int .u64 e.idx, .slice A e.data.length cap, .int .i64 e.conf] 33 (0, 0))]); exact Mix.h; (first | exact Arr.all _ | (exact a_arr) | (exact a_arrs)); (exact a_np); kernel_rfl)
    (repeat' (first | (apply RT.step; exact rfl; intro _ _ _; (apply Ok.move; exact rfl); exact rfl) | (apply RT.callQ; exact rfl; exact inferInstance; (exact a_evs); exact rfl; (intro M' Hx' hM'; exact hK M' _ hM')) | (apply RT.callQT; exact rfl; exact inferInstance; exact rfl; exact rfl; exact rfl; (exact a_evs); exact rfl; (intro M' Hx' hM'; exact hK M' _ hM')) | (apply RT.step; exact rfl; intro _ _ _; (first | (apply Ok.addB; exact rfl; exact rfl; apply wu64; omega; omega) | (apply Ok.eqIR; exact rfl; exact rfl; exact h1)); exact rfl) | (apply RT.stepT; exact rfl; exact rfl; exact rfl; exact rfl; intro _ _ _; (apply Ok.geTr; exact rfl; exact rfl; exact h2); exact rfl) | refine a_ot ?_ | fail))
    apply RT.nil
    (repeat' (first | (refine a_go ?_; intros) | refine a_sp (fun h => ?_) fun h => ?_ | fail))
    (refine Fin.rA (H) ?_)
    exact ⟨by rw [decide_eq_true (hF.2 ⟨h1, h2⟩)], rfl, rfl⟩
   ·(apply C.regionT (t := .free 0 (.free 1 (.free 2 (.free 3 (.free 4 (.free 5 (.free 6 (.free 7 (.free 8 (.free 9 (.free 10 (.free 11 (.free 12 (.free 13 (.free 14 (.free 15 .nil)))))))))))))))) (Hs := [(b1, .cells #[.int .u64 ↑f, .slice A1 es.length c1, .slice B q ce] 85 (0, 0)), (b2, .cells #[.int .i64 e.kind, .int .u64 e.term, .int .u64 e.idx, .slice A e.data.length cap, .int .i64 e.conf] 33 (0, 0))]); exact Mix.h; (first | exact Arr.all _ | (exact a_arr) | (exact a_arrs)); (exact a_np); kernel_rfl)
    (repeat' (first | (apply RT.step; exact rfl; intro _ _ _; (apply Ok.move; exact rfl); exact rfl) | (apply RT.callQ; exact rfl; exact inferInstance; (exact a_evs); exact rfl; (intro M' Hx' hM'; exact hK M' _ hM')) | (apply RT.callQT; exact rfl; exact inferInstance; exact rfl; exact rfl; exact rfl; (exact a_evs); exact rfl; (intro M' Hx' hM'; exact hK M' _ hM')) | (apply RT.step; exact rfl; intro _ _ _; (first | (apply Ok.addB; exact rfl; exact rfl; apply wu64; omega; omega) | (apply Ok.eqIR; exact rfl; exact rfl; exact h1)); exact rfl) | (apply RT.stepT; exact rfl; exact rfl; exact rfl; exact rfl; intro _ _ _; (apply Ok.geF; exact rfl; exact rfl; exact h2); exact rfl) | refine a_ot ?_ | fail))
    apply RT.nil
    (repeat' (first | (refine a_go ?_; intros) | refine a_sp (fun h => ?_) fun h => ?_ | fail))
    (refine Fin.rA (H) ?_)
    exact ⟨by rw [decide_eq_false (fun h => h2 (hF.1 h).2)], rfl, rfl⟩
  ·(apply C.regionT (t := .free 0 (.free 1 (.free 2 (.free 3 (.free 4 (.free 5 (.free 6 (.free 7 (.free 8 (.free 9 (.free 10 (.free 11 (.free 12 (.free 13 (.free 14 (.free 15 .nil)))))))))))))))) (Hs := [(b1, .cells #[.int .u64 ↑f, .slice A1 es.length c1, .slice B q ce] 85 (0, 0)), (b2, .cells #[.int .i64 e.kind, .int .u64 e.term, .int .u64 e.idx, .slice A e.data.length cap, .int .i64 e.conf] 33 (0, 0))]); exact Mix.h; (first | exact Arr.all _ | (exact a_arr) | (exact a_arrs)); (exact a_np); kernel_rfl)
   (repeat' (first | (apply RT.step; exact rfl; intro _ _ _; (apply Ok.move; exact rfl); exact rfl) | (apply RT.callQ; exact rfl; exact inferInstance; (exact a_evs); exact rfl; (intro M' Hx' hM'; exact hK M' _ hM')) | (apply RT.callQT; exact rfl; exact inferInstance; exact rfl; exact rfl; exact rfl; (exact a_evs); exact rfl; (intro M' Hx' hM'; exact hK M' _ hM')) | (apply RT.step; exact rfl; intro _ _ _; (first | (apply Ok.addB; exact rfl; exact rfl; apply wu64; omega; omega) | (apply Ok.eqIF; exact rfl; exact rfl; exact h1)); exact rfl) | (apply RT.stepT; exact rfl; exact rfl; exact rfl; exact rfl; intro _ _ _; fail; exact rfl) | refine a_ot ?_ | fail))
   apply RT.nil
   (repeat' (first | (refine a_go ?_; intros) | refine a_sp (fun h => ?_) fun h => ?_ | fail))
   (refine Fin.rA (H) ?_)
   exact ⟨by rw [decide_eq_false (fun h => h1 (hF.1 h).1)], rfl, rfl⟩
 ·have hnil : es = [] := List.eq_nil_of_length_eq_zero (by omega)
  by_cases h1 : e.idx = (f : Int)
  rotate_left
  ·(repeat' (first | refine a_mv ?_ | (apply R.step; (first | (apply Ok.gtF; exact rfl; exact rfl; omega) | (apply Ok.neIT; exact rfl; exact rfl; exact h1)); exact rfl) | (refine a_go ?_; intros) | refine a_sp (fun h => ?_) fun h => ?_ | fail))
   (refine Fin.rA (H) ?_)
   exact ⟨by rw [decide_eq_false]; rw [hnil]; exact fun h => h1 h.1, rfl, rfl⟩
  by_cases h2 : ss.length = 0
  ·have hnl : ss = [] := List.eq_nil_of_length_eq_zero h2
   subst hnl
   obtain ⟨Ap, cp, hMl2⟩ := hg.recE
   have hpv : (#[.pointer (some ⟨db, 0, none⟩), .int .i64 lim, .slice Ap 0 cp] : Array Value)[0 + 2]? = some (.slice Ap 0 cp) := rfl
   (repeat' (first | refine a_mv ?_ | (apply R.step; (first | (apply Ok.gtF; exact rfl; exact rfl; omega) | (apply Ok.neIR; exact rfl; exact rfl; exact h1) | (apply Ok.eqIR; exact rfl; exact rfl; rfl) | (apply Ok.loadP; exact rfl; exact rfl; exact hMl2; exact hpv)); exact rfl) | (refine a_go ?_; intros) | refine a_sp (fun h => ?_) fun h => ?_ | fail))
   (refine Fin.rA (H) ?_)
   exact ⟨by rw [decide_eq_true]; rw [hnil]; exact ⟨h1, trivial⟩, rfl, rfl⟩
  obtain ⟨s0, a, b, o, cp, cl0, ce', Al0, Ae, cc, hL⟩ := hg.last hok (by omega)
  have hMl2 := hL.rec_
  have hpv : (#[.pointer (some ⟨db, 0, none⟩), .int .i64 lim, .slice (some ⟨b, o, none⟩) ss.length cp] : Array Value)[0 + 2]? = some (.slice (some ⟨b, o, none⟩) ss.length cp) := rfl
  obtain ⟨e0, fr, hMb⟩ := hL.row
  have hcap := hL.cap1
  have hcap2 := hL.cap2
  have hak2 := hL.num
  have hagg := hL.cell
  obtain ⟨Al, cl, hbl, hK⟩ := plast_KQ (f := s0.first) (B := Ae) (m := s0.it.length) (cb := ce') hL.enl hL.lastE
  have hF : fitS (lastO ss) f es e ↔ fitE a e := by
   rw [hnil, hL.lastOE]
   exact ⟨fun h => h.2, fun h => ⟨h1, h⟩⟩
  have hll : (ss.length : Int) - 1 = ((ss.length - 1 : Nat) : Int) := by omega
  (repeat' (first | refine a_mv ?_ | (apply R.step; (first | (apply Ok.gtF; exact rfl; exact rfl; omega) | (apply Ok.neIR; exact rfl; exact rfl; exact h1) | (apply Ok.eqIF; exact rfl; exact rfl; omega) | (apply Ok.loadP; exact rfl; exact rfl; exact hMl2; exact hpv)); exact rfl) | (refine a_go ?_; intros) | refine a_sp (fun h => ?_) fun h => ?_ | fail))
  (apply C.regionT (t := .free 0 (.free 1 (.free 2 (.free 3 (.free 4 (.free 5 (.free 6 (.free 7 (.free 8 (.free 9 (.free 10 (.free 11 (.free 12 (.one 13 (.one 14 .nil))))))))))))))) (Hs := [(b2, .cells #[.int .i64 e.kind, .int .u64 e.term, .int .u64 e.idx, .slice A e.data.length cap, .int .i64 e.conf] 33 (0, 0))]); exact Mix.h; (first | exact Arr.all _ | (exact a_arr) | (exact a_arrs)); (exact a_np); kernel_rfl)
  (repeat' (first | (apply RT.step; exact rfl; intro _ _ _; (apply Ok.move; exact rfl); exact rfl) | (apply RT.callQ; exact rfl; exact inferInstance; (exact a_evs); exact rfl; (intro M' Hx' hM'; exact hK M' _ hM')) | (apply RT.step; exact rfl; intro _ _ hMx; (first | (apply Ok.loadP; exact rfl; exact rfl; exact hMx.2.2 _ _ hMl2; exact hpv) | (apply Ok.subQ ((ss.length - 1 : Nat) : Int); exact rfl; exact rfl; exact hll; apply w64; omega; omega) | (apply Ok.indexAddr; exact rfl; exact rfl; omega; omega) | (apply Ok.loadAggP (vs := [Value.int .u64 (s0.first : Int), .slice Al0 s0.es.length cl0, .slice Ae s0.it.length ce']); exact rfl; exact rfl; exact hMx.2.2 _ _ hMb; exact rfl; exact hagg)); exact rfl) | refine a_ot ?_ | fail))
  (apply RT.one; apply OneT.eff; exact rfl; intro Kc hKc ops0)
  ((apply R.alloc; (simp only [Value.cells]; rfl); exact rfl); intro b7)
  (apply R.nil; apply Fin.kt (Hx := (b7, .cells #[.int .i64 0, .int .u64 0, .int .u64 0, .slice none 0 0, .int .i64 0] 33 (0, 0)) :: H) hKc; exact Mem.le_refl _; (exact a_arrs))
  (repeat' (first | refine a_ot ?_ | fail))
  (apply RT.one; apply OneT.eff; exact rfl; intro Kc hKc ops0)
  unfold eV ecells
  (repeat' (first | (refine a_go ?_; intros) | refine a_sp (fun h => ?_) fun h => ?_ | fail))
  (apply Fin.kt (Hx := (b7, .cells [.int .i64 a.kind, .int .u64 a.term, .int .u64 a.idx, .slice Al a.data.length cl, .int .i64 a.conf].toArray 33 (0, 0)) :: H) hKc; exact Mem.le_refl _; (exact a_arrs))
  (repeat' (first | refine a_ot ?_ | fail))
  apply RT.nil
  by_cases h3 : e.idx = a.idx + 1
  ·by_cases h4 : a.term ≤ e.term
   ·(repeat' (first | refine a_mv ?_ | (apply R.step; (first | (apply Ok.addB; exact rfl; exact rfl; apply wu64; omega; omega) | (apply Ok.eqIR; exact rfl; exact rfl; exact h3) | (apply Ok.geTr; exact rfl; exact rfl; exact h4)); exact rfl) | (refine a_go ?_; intros) | refine a_sp (fun h => ?_) fun h => ?_ | fail))
    (refine Fin.rA (H) ?_)
    exact ⟨by rw [decide_eq_true (hF.2 ⟨h3, h4⟩)], rfl, rfl⟩
   ·(repeat' (first | refine a_mv ?_ | (apply R.step; (first | (apply Ok.addB; exact rfl; exact rfl; apply wu64; omega; omega) | (apply Ok.eqIR; exact rfl; exact rfl; exact h3) | (apply Ok.geF; exact rfl; exact rfl; exact h4)); exact rfl) | (refine a_go ?_; intros) | refine a_sp (fun h => ?_) fun h => ?_ | fail))
    (refine Fin.rA (H) ?_)
    exact ⟨by rw [decide_eq_false (fun h => h4 (hF.1 h).2)], rfl, rfl⟩
  ·(repeat' (first | refine a_mv ?_ | (apply R.step; (first | (apply Ok.addB; exact rfl; exact rfl; apply wu64; omega; omega) | (apply Ok.eqIF; exact rfl; exact rfl; exact h3)); exact rfl) | (refine a_go ?_; intros) | refine a_sp (fun h => ?_) fun h => ?_ | fail))
   (refine Fin.rA (H) ?_)
   exact ⟨by rw [decide_eq_false (fun h => h3 (hF.1 h).1)], rfl, rfl⟩
end Go.Sx
end
section
namespace Go.Sx
open Go Go.Proofs Go.RowKit
def dig (k : Nat) : UInt8 := if k < 10 then UInt8.ofNat (48 + k) else UInt8.ofNat (87 + k)
def digT : Txt := [48, 49, 50, 51, 52, 53, 54, 55, 56, 57, 97, 98, 99, 100, 101, 102]
theorem digT_get {k : Nat} (h : k < digT.length) : digT[k] = dig k := by
 have h' : k < 16 := h
 have : ∀ i : _root_.Fin 16, digT[i.val]'(i.isLt) = dig i.val := by decide
 exact this ⟨k, h'⟩
def hexS : Nat → Nat → Txt
 | 0, _ => []
 | k + 1, n => hexS k (n / 16) ++ [dig (n % 16)]
theorem hexS_len : ∀ (k n : Nat), (hexS k n).length = k
 | 0, _ => rfl
 | k + 1, n => by rw [hexS, List.length_append, hexS_len k, List.length_singleton]
theorem hexS_cons : ∀ (k n : Nat), hexS (k + 1) n = dig (n / 16 ^ k % 16) :: hexS k n
 | 0, n => by simp [hexS]
 | k + 1, n => by
  rw [hexS, hexS_cons k (n / 16), List.cons_append, Nat.div_div_eq_div_mul, ← Nat.pow_succ']
  rfl
def nameS (n : Nat) : Txt := if 72057594037927935 < n then [] else 115 :: hexS 15 n
theorem nameS_ok {n : Nat} (h : n ≤ 72057594037927935) : nameS n = 115 :: hexS 15 n := if_neg (by omega)
theorem nameS_len {n : Nat} (h : n ≤ 72057594037927935) : (nameS n).length = 16 := by
 rw [nameS_ok h, List.length_cons, hexS_len]
def dv (c : UInt8) : Option Nat := if 48 ≤ c.toNat ∧ c.toNat ≤ 57 then some (c.toNat - 48) else if 97 ≤ c.toNat ∧ c.toNat ≤ 102 then some (c.toNat - 87) else none
theorem dv_lt {c : UInt8} {d : Nat} (h : dv c = some d) : d < 16 := by
 unfold dv at h
 split at h
 ·cases h
  omega
 ·split at h
  ·cases h
   omega
  ·cases h
theorem dv_dig {c : UInt8} {d : Nat} (h : dv c = some d) : dig d = c := by
 unfold dv at h
 split at h
 ·cases h
  unfold dig
  rw [if_pos (by omega)]
  apply UInt8.toNat_inj.1
  rw [UInt8.toNat_ofNat']
  have := c.toNat_lt
  show (48 + (c.toNat - 48)) % 256 = c.toNat
  omega
 ·split at h
  ·cases h
   unfold dig
   rw [if_neg (by omega)]
   apply UInt8.toNat_inj.1
   rw [UInt8.toNat_ofNat']
   have := c.toNat_lt
   show (87 + (c.toNat - 87)) % 256 = c.toNat
   omega
  ·cases h
theorem dig_dv {k : Nat} (h : k < 16) : dv (dig k) = some k := by
 have : ∀ i : _root_.Fin 16, dv (dig i.val) = some i.val := by decide
 exact this ⟨k, h⟩
def dvI (c : UInt8) : Int := match dv c with
 | some d => (d : Int)
 | none => -1
def dk (c : UInt8) : Nat → Int
 | 0 => -1
 | k + 1 => if dig k = c then (k : Int) else dk c k
theorem dk16 (c : UInt8) : dk c 16 = dvI c := by
 have h : ∀ i : _root_.Fin 256, dk (UInt8.ofNat i.val) 16 = dvI (UInt8.ofNat i.val) := by decide +kernel
 have h1 := h ⟨c.toNat, c.toNat_lt⟩
 have h2 : UInt8.ofNat c.toNat = c := UInt8.ofNat_toNat
 dsimp only at h1
 rwa [h2] at h1
def valS : Txt → Nat → Option Nat
 | [], n => some n
 | c :: l, n => match dv c with
  | some d => valS l (16 * n + d)
  | none => none
theorem valS_some {c : UInt8} {d : Nat} (h : dv c = some d) (l : Txt) (n : Nat) : valS (c :: l) n = valS l (16 * n + d) := by rw [valS, h]
theorem valS_none {c : UInt8} (h : dv c = none) (l : Txt) (n : Nat) : valS (c :: l) n = none := by rw [valS, h]
theorem valS_hex : ∀ (l : Txt) (a n : Nat), valS l a = some n → n / 16 ^ l.length = a ∧ hexS l.length n = l
 | [], a, n, h => by
  cases h
  exact ⟨by simp, rfl⟩
 | c :: l, a, n, h => by
  cases hd : dv c with
  | none => rw [valS_none hd] at h; cases h
  | some d =>
   rw [valS_some hd] at h
   obtain ⟨h1, h2⟩ := valS_hex l _ n h
   have hlt := dv_lt hd
   refine ⟨?_, ?_⟩
   ·rw [List.length_cons, Nat.pow_succ, ← Nat.div_div_eq_div_mul, h1]
    omega
   ·rw [List.length_cons, hexS_cons, h1, h2]
    have : (16 * a + d) % 16 = d := by omega
    rw [this, dv_dig hd]
theorem hex_valS : ∀ (k n a : Nat), valS (hexS k n) a = some (a * 16 ^ k + n % 16 ^ k)
 | 0, n, a => by simp [hexS, valS, Nat.mod_one]
 | k + 1, n, a => by
  rw [hexS_cons, valS_some (dig_dv (Nat.mod_lt _ (by decide))), hex_valS k]
  congr 1
  have h1 : n % 16 ^ (k + 1) = n % 16 ^ k + 16 ^ k * (n / 16 ^ k % 16) := by
   rw [Nat.pow_succ, Nat.mod_mul]
  rw [h1, Nat.pow_succ, Nat.add_mul, Nat.mul_comm (16 ^ k) 16, ← Nat.mul_assoc, Nat.mul_comm 16 a, Nat.mul_comm (16 ^ k) (n / 16 ^ k % 16)]
  omega
def numO (t : Txt) : Option Nat := if t.length = 16 then (match valS (t.drop 1) 0 with
 | some n => if nameS n = t then some n else none
 | none => none) else none
theorem numO_some {t : Txt} {n : Nat} (h : numO t = some n) : nameS n = t ∧ n ≤ 72057594037927935 := by
 unfold numO at h
 split at h
 ·rename_i h16
  split at h
  ·split at h
   ·rename_i hn
    cases h
    refine ⟨hn, ?_⟩
    apply Classical.byContradiction
    intro hgt
    have : nameS n = [] := if_pos (by omega)
    rw [this] at hn
    rw [← hn] at h16
    cases h16
   ·cases h
  ·cases h
 ·cases h
theorem numO_name {n : Nat} (h : n ≤ 72057594037927935) : numO (nameS n) = some n := by
 unfold numO
 rw [if_pos (nameS_len h)]
 have e : valS ((nameS n).drop 1) 0 = some n := by
  rw [nameS_ok h, List.drop_succ_cons, List.drop_zero, hex_valS, Nat.zero_mul, Nat.zero_add, Nat.mod_eq_of_lt (by omega)]
 rw [e]
 dsimp only
 exact if_pos rfl
theorem name_inj {a b : Nat} (ha : a ≤ 72057594037927935) (hb : b ≤ 72057594037927935) (h : nameS a = nameS b) : a = b := by
 have := numO_name ha
 rw [h, numO_name hb] at this
 exact (Option.some.inj this).symm
end Go.Sx
end
section
namespace Go.Sx
open Go Go.Proofs Go.RowKit
attribute [local irreducible] C R Fin K Own OwnT Rd Pl Ok KOf RetOk OpsOf RP KP Res NoPanic KV KE RT KT OneT RS KS OneS PlB
variable {M M' : Mem} {H H1 H2 : Hp}
theorem fill_set (j : Nat) (h : Txt) (d : UInt8) : ((115 : UInt8) :: (List.replicate (j + 1) 0 ++ h)).set (j + 1) d = 115 :: (List.replicate j 0 ++ d :: h) := by
 rw [List.set_cons_succ, List.replicate_succ', List.append_assoc, List.set_append_right _ _ (by simp)]
 simp
structure SnmX where
 i : Nat
 f : Nat
theorem segName_K {n : Nat} (hn : n ≤ 18446744073709551615) : K Tryz.prog 28 [.int .u64 (n : Int)] M H fun v' M' H' => v' = str (nameS n) ∧ M' = M ∧ H' = H := by
 refine K.enterK Tryz.func28 rfl rfl rfl ?_
 intro Q hNP hQ
 by_cases hb : 72057594037927935 < n
 ·have e : nameS n = [] := if_pos hb
  rw [e] at hQ
  (repeat' (first | refine a_mv ?_ | (apply R.step; (apply Ok.gtTr; exact rfl; exact rfl; omega); exact rfl) | (refine a_go ?_; intros) | refine a_sp (fun h => ?_) fun h => ?_ | fail))
  (refine Fin.rA (H) ?_)
  exact ⟨rfl, rfl, rfl⟩
 rw [nameS_ok (by omega)] at hQ
 (repeat' (first | refine a_mv ?_ | (apply R.step; (apply Ok.gtF; exact rfl; exact rfl; omega); exact rfl) | (refine a_go ?_; intros) | refine a_sp (fun h => ?_) fun h => ?_ | fail))
 apply R.makeSlice; exact rfl; exact rfl; omega; omega; decide; decide; exact rfl; exact rfl
 intro b
 (repeat' (first | (refine a_go ?_; intros) | refine a_sp (fun h => ?_) fun h => ?_ | fail))
 apply C.loop (fun y : SnmX => y.i ≤ 15 ∧ y.f = n / 16 ^ (15 - y.i))
  (fun y => [(0, .int .u64 (y.f : Int)), (3, .slice (some ⟨b, 0, none⟩) 16 16), (4, .int .i64 (y.i : Int))]) (fun _ => M) (fun y => (b, .cells (((115 : UInt8) :: (List.replicate y.i 0 ++ hexS (15 - y.i) n)).map bv).toArray 5 (0, 0)) :: H) (fun y => y.i) ⟨15, n⟩
 ·exact ⟨Nat.le_refl _, by simp⟩
 ·(exact a_subs)
 ·exact rfl
 ·exact rfl
 rintro ⟨i, f⟩ ⟨hi, hf⟩
 dsimp only at hi hf ⊢
 cases i with
 | zero =>
  have hl : ((115 : UInt8) :: (List.replicate 0 0 ++ hexS (15 - 0) n)) = 115 :: hexS 15 n := rfl
  rw [hl]
  have hlen : (115 :: hexS 15 n).length = 16 := by rw [List.length_cons, hexS_len]
  (repeat' (first | refine a_mv ?_ | (apply R.step; (apply Ok.gtF; exact rfl; exact rfl; omega); exact rfl) | (refine a_go ?_; intros) | refine a_sp (fun h => ?_) fun h => ?_ | fail))
  (apply R.step; (apply Ok.toT (bs := 115 :: hexS 15 n) (A := some ⟨b, 0, none⟩) (c := 16); rw [hlen]; exact rfl; exact Rd.at_ (l := (115 :: hexS 15 n).map bv) (by (exact a_at)) (fun j x h => by rw [Nat.zero_add]; exact h)); exact rfl)
  (repeat' (first | (refine a_go ?_; intros) | refine a_sp (fun h => ?_) fun h => ?_ | fail))
  (refine Fin.rA (H) ?_)
  exact ⟨rfl, rfl, rfl⟩
 | succ j =>
  have hd : f % 16 < digT.length := Nat.mod_lt _ (by decide)
  (repeat' (first | refine a_mv ?_ | (apply R.step; (first | (apply Ok.gtTr; exact rfl; exact rfl; omega) | (apply Ok.andU15; exact rfl; exact rfl) | (apply Ok.indexT (a := digT); exact rfl; exact rfl; omega; exact hd) | (apply Ok.indexAddr; exact rfl; exact rfl; omega; omega)); exact rfl) | (refine a_go ?_; intros) | refine a_sp (fun h => ?_) fun h => ?_ | fail))
  have hw : (List.map bv (115 :: (List.replicate (j + 1) 0 ++ hexS (15 - (j + 1)) n))).length = 16 := by
   rw [List.length_map, List.length_cons, List.length_append, List.length_replicate, hexS_len]
   omega
  (apply R.storeI; exact rfl; exact rfl; exact rfl; (exact a_at); (rw [hw]; omega); exact rfl)
  have he : hexS (15 - j) n = dig (f % 16) :: hexS (15 - (j + 1)) n := by
   rw [show 15 - j = (15 - (j + 1)) + 1 by omega, hexS_cons, hf]
  have h0 : 0 + ((j + 1 : Nat) : Int).toNat * 1 = j + 1 := by omega
  have h1 : ∀ h, digT[((f % 16 : Nat) : Int).toNat]'h = dig (f % 16) := fun h => by
   have : ((f % 16 : Nat) : Int).toNat = f % 16 := rfl
   exact digT_get hd
  rw [h0, h1, bv_set, fill_set, ← he]
  (repeat' (first | refine a_mv ?_ | (apply R.step; (first | (apply Ok.shrUN 4 16; exact rfl; exact rfl; decide; decide) | (apply Ok.subQ (j : Int); exact rfl; exact rfl; omega; apply wi64; omega; omega)); exact rfl) | (refine a_go ?_; intros) | refine a_sp (fun h => ?_) fun h => ?_ | fail))
  rw [show ((j + 1 : Nat) : Int) - 1 = (j : Int) by omega]
  refine Fin.again (⟨j, f / 16⟩ : SnmX) ⟨by dsimp only; omega, ?_⟩ (by dsimp only; omega) ?_ rfl rfl
  ·dsimp only
   rw [hf, Nat.div_div_eq_div_mul, ← Nat.pow_succ]
   congr 2
   omega
  ·(exact a_subs)
structure NuX where
 i : Nat
 n : Nat
structure NuY where
 k : Nat
theorem segNum_K {t : Txt} : K Tryz.prog 36 [str t] M H fun v' M' H' => ∃ n : Nat, v' = .tuple #[.int .u64 (n : Int), .bool (numO t).isSome] ∧ (∀ m, numO t = some m → n = m) ∧ M' = M ∧ H' = H := by
 refine K.enterK Tryz.func36 rfl rfl rfl ?_
 intro Q hNP hQ
 by_cases h16 : t.length = 16
 rotate_left
 ·have e : numO t = none := if_neg h16
  rw [e] at hQ
  (repeat' (first | refine a_mv ?_ | (apply R.step; (first | (apply Ok.lenT; exact rfl) | (apply Ok.neIT; exact rfl; exact rfl; omega)); exact rfl) | (refine a_go ?_; intros) | refine a_sp (fun h => ?_) fun h => ?_ | fail))
  (refine Fin.rA (H) ?_)
  exact ⟨0, rfl, (fun m h => by cases h), rfl, rfl⟩
 have hE : numO t = match valS (t.drop 1) 0 with
  | some n => if nameS n = t then some n else none
  | none => none := if_pos h16
 (repeat' (first | refine a_mv ?_ | (apply R.step; (first | (apply Ok.lenT; exact rfl) | (apply Ok.neIR; exact rfl; exact rfl; omega)); exact rfl) | (refine a_go ?_; intros) | refine a_sp (fun h => ?_) fun h => ?_ | fail))
 apply C.loop (fun y : NuX => 1 ≤ y.i ∧ y.i ≤ 16 ∧ y.n < 16 ^ (y.i - 1) ∧ valS (t.drop 1) 0 = valS (t.drop y.i) y.n)
  (fun y => [(0, str t), (4, .int .u64 (y.n : Int)), (5, .int .i64 (y.i : Int))]) (fun _ => M) (fun _ => H) (fun y => 16 - y.i) ⟨1, 0⟩
 ·exact ⟨Nat.le_refl _, by decide, by decide, rfl⟩
 ·(exact a_subs)
 ·exact rfl
 ·exact rfl
 rintro ⟨i, n⟩ ⟨hi1, hi2, hn, hv⟩
 dsimp only at hi1 hi2 hn hv ⊢
 by_cases hlt : i < 16
 ·(repeat' (first | refine a_mv ?_ | (apply R.step; (apply Ok.ltTr; exact rfl; exact rfl; omega); exact rfl) | (refine a_go ?_; intros) | refine a_sp (fun h => ?_) fun h => ?_ | fail))
  have hit : i < t.length := by omega
  have hit' : (i : Int).toNat < t.length := hit
  obtain ⟨c, hc⟩ : ∃ c, c = t[i] := ⟨_, rfl⟩
  have hci : ∀ h, t[(i : Int).toNat]'h = c := fun h => hc.symm
  apply C.loop (fun y : NuY => y.k ≤ 16)
   (fun y => [(0, str t), (4, .int .u64 (n : Int)), (5, .int .i64 (i : Int)), (6, .int .i64 (dk c y.k)), (7, .int .i64 (y.k : Int))]) (fun _ => M) (fun _ => H) (fun y => 16 - y.k) ⟨0⟩
  ·exact Nat.zero_le _
  ·(exact a_subs)
  ·exact rfl
  ·exact rfl
  rintro ⟨k⟩ hk
  dsimp only at hk ⊢
  by_cases hkl : k < 16
  ·have hkl' : (k : Int).toNat < digT.length := hkl
   have hkd : ∀ h, digT[(k : Int).toNat]'h = dig k := fun h => digT_get hkl
   by_cases hq : dig k = c
   ·(repeat' (first | refine a_mv ?_ | (apply R.step; (apply Ok.ltTr; exact rfl; exact rfl; omega); exact rfl) | (refine a_go ?_; intros) | refine a_sp (fun h => ?_) fun h => ?_ | fail))
    (apply C.regionT (t := .free 0 (.free 1 (.free 2 (.free 3 (.free 4 (.free 5 .nil)))))) (Hs := []); exact Mix.h; (first | exact Arr.all _ | (exact a_arr) | (exact a_arrs)); (exact a_np); kernel_rfl)
    (repeat' (first | (apply RT.step; exact rfl; intro _ _ _; (apply Ok.move; exact rfl); exact rfl) | (apply RT.step; exact rfl; intro _ _ _; (first | exact Ok.indexT (a := digT) rfl rfl (Int.natCast_nonneg _) hkl' | exact Ok.indexT (a := t) rfl rfl (Int.natCast_nonneg _) hit' | (apply Ok.eqIR; exact rfl; exact rfl; rw [hkd, hci, hq])); exact rfl) | refine a_ot ?_ | fail))
    apply RT.nil
    (repeat' (first | (refine a_go ?_; intros) | refine a_sp (fun h => ?_) fun h => ?_ | fail))
    refine Fin.again (⟨k + 1⟩ : NuY) (by dsimp only; omega) (by dsimp only; omega) ?_ rfl rfl
    dsimp only
    rw [show dk c (k + 1) = (k : Int) from if_pos hq]
    (exact a_subs)
   ·(repeat' (first | refine a_mv ?_ | (apply R.step; (apply Ok.ltTr; exact rfl; exact rfl; omega); exact rfl) | (refine a_go ?_; intros) | refine a_sp (fun h => ?_) fun h => ?_ | fail))
    (apply C.regionT (t := .free 0 (.free 1 (.free 2 (.free 3 (.free 4 (.free 5 .nil)))))) (Hs := []); exact Mix.h; (first | exact Arr.all _ | (exact a_arr) | (exact a_arrs)); (exact a_np); kernel_rfl)
    (repeat' (first | (apply RT.step; exact rfl; intro _ _ _; (apply Ok.move; exact rfl); exact rfl) | (apply RT.step; exact rfl; intro _ _ _; (first | exact Ok.indexT (a := digT) rfl rfl (Int.natCast_nonneg _) hkl' | exact Ok.indexT (a := t) rfl rfl (Int.natCast_nonneg _) hit' | (apply Ok.eqIF; exact rfl; exact rfl; rw [hkd, hci]; exact fun h => hq (UInt8.toNat_inj.1 (by omega)))); exact rfl) | refine a_ot ?_ | fail))
    apply RT.nil
    (repeat' (first | (refine a_go ?_; intros) | refine a_sp (fun h => ?_) fun h => ?_ | fail))
    refine Fin.again (⟨k + 1⟩ : NuY) (by dsimp only; omega) (by dsimp only; omega) ?_ rfl rfl
    dsimp only
    rw [show dk c (k + 1) = dk c k from if_neg hq]
    (exact a_subs)
  ·have hk16 : k = 16 := by omega
   subst hk16
   rw [dk16]
   have hcons : t.drop i = c :: t.drop (i + 1) := by rw [List.drop_eq_getElem_cons hit, hc]
   rw [hcons] at hv
   unfold dvI
   cases hd : dv c with
   | none =>
    dsimp only
    rw [valS_none hd] at hv
    have e : numO t = none := by rw [hE, hv]
    rw [e] at hQ
    (repeat' (first | refine a_mv ?_ | (apply R.step; (first | (apply Ok.ltF; exact rfl; exact rfl; omega)); exact rfl) | (refine a_go ?_; intros) | refine a_sp (fun h => ?_) fun h => ?_ | fail))
    (refine Fin.rA (H) ?_)
    exact ⟨0, rfl, (fun m h => by cases h), rfl, rfl⟩
   | some d =>
    dsimp only
    rw [valS_some hd] at hv
    have hd16 := dv_lt hd
    have hn2 : n < 16 ^ 14 := Nat.lt_of_lt_of_le hn (Nat.pow_le_pow_right (by decide) (by omega))
    have hn3 : (16 : Nat) ^ 14 = 72057594037927936 := by decide
    rw [hn3] at hn2
    (repeat' (first | refine a_mv ?_ | (apply R.step; (first | (apply Ok.ltF; exact rfl; exact rfl; omega) | (apply Ok.shlUN 4 16; exact rfl; exact rfl; rfl; decide; decide; omega) | (apply Ok.convB; exact rfl; apply wu64; omega; omega) | (apply Ok.orUN_hi 4 n; exact rfl; exact rfl; omega; omega; omega)); exact rfl) | (refine a_go ?_; intros) | refine a_sp (fun h => ?_) fun h => ?_ | fail))
    refine Fin.again (⟨i + 1, n * 16 + d⟩ : NuX) ⟨by dsimp only; omega, by dsimp only; omega, ?_, ?_⟩ (by dsimp only; omega) ?_ rfl rfl
    ·dsimp only
     have : (16 : Nat) ^ (i + 1 - 1) = 16 ^ (i - 1) * 16 := by rw [← Nat.pow_succ]; congr 1; omega
     rw [this]
     omega
    ·dsimp only
     rw [hv, Nat.mul_comm n 16]
    ·(exact a_subs)
 ·have h16' : i = 16 := by omega
  subst h16'
  have hdr : t.drop 16 = [] := List.drop_eq_nil_of_le (by omega)
  rw [hdr] at hv
  have hE2 : numO t = if nameS n = t then some n else none := by rw [hE, hv]; rfl
  have hn3 : (16 : Nat) ^ 15 = 1152921504606846976 := by decide
  have hn4 : n < 16 ^ 15 := hn
  rw [hn3] at hn4
  (repeat' (first | refine a_mv ?_ | (apply R.step; (apply Ok.ltF; exact rfl; exact rfl; omega); exact rfl) | (refine a_go ?_; intros) | refine a_sp (fun h => ?_) fun h => ?_ | fail))
  (apply R.call; (exact a_evs); exact rfl; exact segName_K (n := n) (by omega); rintro _ M H ⟨rfl, rfl, rfl⟩)
  by_cases hnt : nameS n = t
  ·rw [if_pos hnt] at hE2
   rw [hE2] at hQ
   (repeat' (first | refine a_mv ?_ | (apply R.step; (apply Ok.eqT; exact rfl; exact rfl); exact rfl) | (refine a_go ?_; intros) | refine a_sp (fun h => ?_) fun h => ?_ | fail))
   rw [decide_eq_true hnt]
   (refine Fin.rA (H) ?_)
   exact ⟨n, rfl, (fun m h => Option.some.inj h), rfl, rfl⟩
  ·rw [if_neg hnt] at hE2
   rw [hE2] at hQ
   (repeat' (first | refine a_mv ?_ | (apply R.step; (apply Ok.eqT; exact rfl; exact rfl); exact rfl) | (refine a_go ?_; intros) | refine a_sp (fun h => ?_) fun h => ?_ | fail))
   rw [decide_eq_false hnt]
   (refine Fin.rA (H) ?_)
   exact ⟨n, rfl, (fun m h => by cases h), rfl, rfl⟩
end Go.Sx
end
section
namespace Go.Sx
open Go.Proofs Go.RowKit
attribute [local irreducible] C R Fin K Own Rd Pl Ok KOf RetOk OpsOf RP KP Res NoPanic
variable {M : Mem} {H : Hp}
def bitS (h : Nat) : Nat := if h % 2 = 1 then (h / 2) ^^^ 2197175160 else h / 2
def bitsS : Nat → Nat → Nat
 | 0, h => h
 | k + 1, h => bitsS k (bitS h)
def byteS (h : Nat) (b : UInt8) : Nat := bitsS 8 (h ^^^ b.toNat)
def sumS (bs : List UInt8) : Nat := 4294967295 ^^^ bs.foldl byteS 4294967295
theorem bitS_lt {h : Nat} (hh : h < 4294967296) : bitS h < 4294967296 := by
 unfold bitS
 split
 ·exact Nat.xor_lt_two_pow (n := 32) (by omega) (by decide)
 ·omega
theorem bitsS_lt : ∀ (k : Nat) {h : Nat}, h < 4294967296 → bitsS k h < 4294967296
 | 0, _, hh => hh
 | k + 1, _, hh => bitsS_lt k (bitS_lt hh)
theorem xor_lt {a b : Nat} (ha : a < 4294967296) (hb : b < 4294967296) : a ^^^ b < 4294967296 := Nat.xor_lt_two_pow (n := 32) ha hb
theorem sumS_lt (bs : List UInt8) : sumS bs < 4294967296 := by
 have h : ∀ (l : List UInt8) (h : Nat), h < 4294967296 → l.foldl byteS h < 4294967296 := by
  intro l
  induction l with
  | nil => exact fun h hh => hh
  | cons b l ih => exact fun h hh => ih _ (bitsS_lt 8 (xor_lt hh (by have := b.toNat_lt; omega)))
 exact xor_lt (by decide) (h bs _ (by decide))
structure SumL where
 i : Int
 h : Nat
theorem sum_K {A : Option Addr} {cap : Nat} {bs : List UInt8} (hpl : Pl M A (bs.map bv)) (hb : bs.length ≤ 140737488351232) : K Tryz.prog 106 [.slice A bs.length cap] M H fun v M' H' => v = wv (sumS bs) ∧ M' = M ∧ H' = H := by
 refine K.enterK Tryz.func106 rfl rfl rfl ?_
 intro Q hNP hQ
 (repeat' (first | (refine a_go ?_; intros) | refine a_sp (fun h => ?_) fun h => ?_ | fail))
 apply C.loop (fun x : SumL => 0 ≤ x.i ∧ x.i ≤ bs.length ∧ x.h < 4294967296 ∧ (bs.drop x.i.toNat).foldl byteS x.h = bs.foldl byteS 4294967295)
  (fun x => [(3, wv x.h), (8, .slice A bs.length cap), (9, .int .i64 bs.length), (10, .int .i64 x.i)]) (fun _ => M) (fun _ => H) (fun x => (bs.length - x.i).toNat) ⟨0, 4294967295⟩
 ·exact ⟨Int.le_refl 0, Int.natCast_nonneg _, by decide, rfl⟩
 ·(exact a_subs)
 ·exact rfl
 ·exact rfl
 rintro ⟨i, z⟩ ⟨hi, hi2, hh, hs⟩
 dsimp only at hi hi2 hh hs ⊢
 (repeat' (first | (refine a_go ?_; intros) | refine a_sp (fun h => ?_) fun h => ?_ | fail))
 ·have hlt : i < bs.length := by assumption
  obtain ⟨b0, o0, c0, e0, f0, rfl, hat, hcell⟩ := hpl.cell (by simp; omega)
  (apply R.step; (apply Ok.indexAddr; exact rfl; exact rfl; omega; omega); exact rfl)
  (apply R.step; (apply Ok.loadP; exact rfl; exact rfl; exact hat; rw [Nat.mul_one]; exact hcell _ _ (bv_at (o := i.toNat) (by omega))); exact rfl)
  have hbl : bs[i.toNat].toNat < 256 := bs[i.toNat].toNat_lt
  have hdrop : bs.drop i.toNat = bs[i.toNat] :: bs.drop (i.toNat + 1) := List.drop_eq_getElem_cons (by omega)
  rw [hdrop, List.foldl_cons] at hs
  generalize bs[i.toNat] = b at hbl hs
  (repeat' (first | (refine a_go ?_; intros) | refine a_sp (fun h => ?_) fun h => ?_ | fail))
  apply C.loop (fun y : SumL => 0 ≤ y.i ∧ y.i ≤ 8 ∧ y.h < 4294967296 ∧ bitsS (8 - y.i.toNat) y.h = byteS z b)
   (fun y => [(3, wv y.h), (6, .int .i64 y.i), (8, .slice (some ⟨b0, o0, none⟩) bs.length cap), (9, .int .i64 bs.length), (10, .int .i64 i)]) (fun _ => M) (fun _ => H) (fun y => (8 - y.i).toNat) ⟨0, z ^^^ b.toNat⟩
  ·exact ⟨Int.le_refl 0, by dsimp only; omega, xor_lt hh (by omega), rfl⟩
  ·(exact a_subs)
  ·exact rfl
  ·exact rfl
  rintro ⟨j, g⟩ ⟨hj, hj2, hg, hb3⟩
  dsimp only at hj hj2 hg hb3 ⊢
  (repeat' (first | (refine a_go ?_; intros) | refine a_sp (fun h => ?_) fun h => ?_ | fail))
  ·refine Fin.again (⟨j + 1, g / 2 ^^^ 2197175160⟩ : SumL) ⟨by dsimp only; omega, by dsimp only; omega, xor_lt (by omega) (by decide), ?_⟩ (by dsimp only; omega) ?_ rfl rfl
   ·dsimp only
    have h1 : ((g &&& 1 : Nat) : Int) = 1 := by assumption
    rw [← hb3, show 8 - j.toNat = (8 - (j + 1).toNat) + 1 by omega, bitsS]
    unfold bitS
    rw [if_pos (by rw [Nat.and_one_is_mod] at h1; omega)]
   ·dsimp only
    (exact a_subs)
  ·refine Fin.again (⟨j + 1, g / 2⟩ : SumL) ⟨by dsimp only; omega, by dsimp only; omega, by dsimp only; omega, ?_⟩ (by dsimp only; omega) ?_ rfl rfl
   ·dsimp only
    have h1 : ((g &&& 1 : Nat) : Int) ≠ 1 := by assumption
    rw [← hb3, show 8 - j.toNat = (8 - (j + 1).toNat) + 1 by omega, bitsS]
    unfold bitS
    rw [if_neg (by rw [Nat.and_one_is_mod] at h1; omega)]
   ·dsimp only
    (exact a_subs)
  ·refine Fin.again (⟨i + 1, g⟩ : SumL) ⟨by dsimp only; omega, by dsimp only; omega, hg, ?_⟩ (by dsimp only; omega) ?_ rfl rfl
   ·dsimp only
    have h1 : ¬ j < 8 := by assumption
    have h8 : j = 8 := by omega
    subst h8
    have h9 : g = byteS z b := hb3
    rw [h9, show (i + 1).toNat = i.toNat + 1 by omega]
    exact hs
   ·dsimp only
    (exact a_subs)
 ·(refine Fin.rt ?_)
  refine ⟨?_, rfl, rfl⟩
  have h1 : ¬ i < bs.length := by assumption
  rw [List.drop_of_length_le (by omega)] at hs
  unfold sumS
  rw [← hs]
  rfl
def layS (p : Nat) : List UInt8 := [UInt8.ofNat p, UInt8.ofNat (p / 256), UInt8.ofNat (p / 65536), UInt8.ofNat (p / 16777216)]
def frameS (bs : List UInt8) : List UInt8 := if bs.length > 65536 then [] else layS bs.length ++ layS (sumS bs) ++ bs
theorem lay_K {p : Nat} : K Tryz.prog 105 [wv p] M H fun v M' H' => ∃ hp, Own 5 1 v 4 ((layS p).map bv) hp ∧ M' = M ∧ H' = hp ++ H := by
 refine K.enterK Tryz.func105 rfl rfl rfl ?_
 intro Q hNP hQ
 (repeat' (first | (refine a_go ?_; intros) | refine a_sp (fun h => ?_) fun h => ?_ | fail))
 (refine Fin.rt ?_)
 exact ⟨[_], Own.of_cells (xs := (layS p).map bv) (by show 4 ≤ maxLen; unfold maxLen; omega), rfl, rfl⟩
theorem frame_K {A : Option Addr} {cap : Nat} {bs : List UInt8} (hpl : Pl M A (bs.map bv)) (hb : bs.length ≤ 140737488351232) : K Tryz.prog 76 [.slice A bs.length cap] M H fun v M' H' =>
  ∃ hp, Own 5 1 v (frameS bs).length ((frameS bs).map bv) hp ∧ M' = M ∧ H' = hp ++ H := by
 refine K.enterK Tryz.func76 rfl rfl rfl ?_
 intro Q hNP hQ
 (repeat' (first | (refine a_go ?_; intros) | refine a_sp (fun h => ?_) fun h => ?_ | fail))
 ·have h1 : 65536 < (bs.length : Int) := by assumption
  (refine Fin.rA ([] ++ H) ?_)
  have e : frameS bs = [] := if_pos (by omega)
  rw [e]
  exact ⟨[], Own.nil _ 1, rfl, rfl⟩
 have hle : ¬ 65536 < (bs.length : Int) := by assumption
 (apply R.call; (exact a_evs); exact rfl); exact lay_K (p := bs.length); rintro v1 M _ ⟨hp1, hown1, rfl, rfl⟩
 obtain ⟨A1, cap1, rfl, _, _⟩ := hown1.form
 (repeat' (first | (refine a_go ?_; intros) | refine a_sp (fun h => ?_) fun h => ?_ | fail))
 (apply R.call; (exact a_evs); exact rfl); exact sum_K hpl hb; rintro _ M _ ⟨rfl, rfl, rfl⟩
 (repeat' (first | (refine a_go ?_; intros) | refine a_sp (fun h => ?_) fun h => ?_ | fail))
 (apply R.call; (exact a_evs); exact rfl); exact lay_K; rintro v2 M _ ⟨hp2, hown2, rfl, rfl⟩
 obtain ⟨A2, cap2, rfl, _, _⟩ := hown2.form
 (repeat' (first | (refine a_go ?_; intros) | refine a_sp (fun h => ?_) fun h => ?_ | fail))
 (apply R.append; exact rfl; exact rfl; exact hown1; (exact a_tk); exact hown2.rd (by (exact a_tk)); exact rfl; exact bv_one _; omega; exact rfl; decide; decide; exact rfl; rintro v3 hp3 hown3)
 obtain ⟨A3, cap3, rfl, _, _⟩ := hown3.form
 (repeat' (first | (refine a_go ?_; intros) | refine a_sp (fun h => ?_) fun h => ?_ | fail))
 (apply R.append; exact rfl; exact rfl; exact hown3; (exact a_tk); exact hpl.rd; (focus (simp; done)); exact bv_one _; omega; exact rfl; decide; decide; exact rfl; rintro v4 hp4 hown4)
 obtain ⟨A4, cap4, rfl, _, _⟩ := hown4.form
 (repeat' (first | (refine a_go ?_; intros) | refine a_sp (fun h => ?_) fun h => ?_ | fail))
 (refine Fin.rA (hp4 ++ H) ?_)
 have e : frameS bs = layS bs.length ++ layS (sumS bs) ++ bs := if_neg (by omega)
 rw [e]
 refine ⟨hp4, ?_, rfl, rfl⟩
 rw [show (layS bs.length ++ layS (sumS bs) ++ bs).length = 4 + 4 + bs.length by simp [layS]; omega, List.map_append, List.map_append]
 exact hown4
def readS (bs : List UInt8) : Nat := (bs[0]?.getD 0).toNat + (bs[1]?.getD 0).toNat * 256 + (bs[2]?.getD 0).toNat * 65536 + (bs[3]?.getD 0).toNat * 16777216
theorem readS_lt (bs : List UInt8) : readS bs < 4294967296 := by
 have h0 := (bs[0]?.getD 0).toNat_lt
 have h1 := (bs[1]?.getD 0).toNat_lt
 have h2 := (bs[2]?.getD 0).toNat_lt
 have h3 := (bs[3]?.getD 0).toNat_lt
 unfold readS
 omega
theorem read_K {A : Option Addr} {cap : Nat} {bs : List UInt8} (hpl : Pl M A (bs.map bv)) (h4 : 4 ≤ bs.length) : K Tryz.prog 133 [.slice A bs.length cap] M H fun v M' H' => v = wv (readS bs) ∧ M' = M ∧ H' = H := by
 refine K.enterK Tryz.func133 rfl rfl rfl ?_
 intro Q hNP hQ
 obtain ⟨b0, o0, c0, e0, f0, rfl, hat, hcell⟩ := hpl.cell (by simp; omega)
 obtain ⟨x0, x1, x2, x3, rest, rfl⟩ : ∃ x0 x1 x2 x3 rest, bs = x0 :: x1 :: x2 :: x3 :: rest := by
  match bs, h4 with
  | x0 :: x1 :: x2 :: x3 :: rest, _ => exact ⟨x0, x1, x2, x3, rest, rfl⟩
 have g0 := hcell 0 (bv x0) rfl
 have g1 := hcell 1 (bv x1) rfl
 have g2 := hcell 2 (bv x2) rfl
 have g3 := hcell 3 (bv x3) rfl
 have l0 : x0.toNat < 256 := x0.toNat_lt
 have l1 : x1.toNat < 256 := x1.toNat_lt
 have l2 : x2.toNat < 256 := x2.toNat_lt
 have l3 : x3.toNat < 256 := x3.toNat_lt
 have o2 : (x0.toNat ||| x1.toNat * 2 ^ 8) < 4294967296 := Nat.or_lt_two_pow (n := 32) (by omega) (by omega)
 have o3 : ((x0.toNat ||| x1.toNat * 2 ^ 8) ||| x2.toNat * 2 ^ 16) < 4294967296 := Nat.or_lt_two_pow (n := 32) o2 (by omega)
 have hlen : (x0 :: x1 :: x2 :: x3 :: rest).length = rest.length + 4 := rfl
 rw [hlen]
 (repeat' (first | (apply R.step; (apply Ok.indexAddr; exact rfl; exact rfl; omega; omega); exact rfl) | (apply R.step; (apply Ok.loadP; exact rfl; exact rfl; exact hat; (first | exact g0 | exact g1 | exact g2 | exact g3)); exact rfl) | (apply R.step; (first | (apply Ok.shlN (s := 8); exact rfl; exact rfl; decide; omega) | (apply Ok.shlN (s := 16); exact rfl; exact rfl; decide; omega) | (apply Ok.shlN (s := 24); exact rfl; exact rfl; decide; omega)); exact rfl) | (apply R.step; (apply Ok.orN; exact rfl; exact rfl; omega; omega); exact rfl) | (apply R.step; (exact a_ok); exact rfl) | (first | (with_reducible first | apply R.nil | apply C.ret | apply C.block | apply C.skip | apply C.exit | apply Fin.thenRet | apply Fin.thenExit | apply Fin.blockNormal | apply Fin.blockRet | apply Fin.blockExit) | (with_reducible apply Fin.thenK; assumption) | (with_reducible apply C.seqK; intro _ _) | (with_reducible apply C.regionK; intro _ _) | (with_reducible apply C.regionQK; exact Mix.h; kernel_rfl; intro _ _) | (with_reducible apply Fin.blockOther; exact rfl)) | (first | (apply R.store; exact rfl; exact rfl; exact rfl; (exact a_at); (exact a_blit); exact rfl; (focus (simp [Value.oneCell']; done))) | (apply R.buildSlice0; exact rfl; intro bz) | (apply R.box; exact rfl; (simp only [Value.cells]; rfl); exact rfl; intro bx) | (apply R.alloc; (simp only [Value.cells]; rfl); exact rfl; intro ba) | (apply R.buildSlice; (exact a_prt); exact rfl; exact rfl; (exact a_fills); exact rfl; intro bl)) | (first | (apply R.guardT; assumption; exact rfl; exact rfl; exact rfl) | (apply R.guardF; assumption; exact rfl; exact rfl; exact rfl; exact rfl; exact rfl) | (apply R.guardU; assumption; exact rfl; exact rfl; exact rfl; exact rfl) | (apply R.guardDec; assumption; exact rfl; exact rfl; (intro h; skip; rotate_left; intro h; skip; rotate_left)) | (apply R.guardBeq; assumption; exact rfl; exact rfl; (intro h; skip; rotate_left; intro h; skip; rotate_left)) | (apply R.guardBne; assumption; exact rfl; exact rfl; (intro h; skip; rotate_left; intro h; skip; rotate_left)) | (apply R.guardNDec; assumption; exact rfl; exact rfl; (intro h; skip; rotate_left; intro h; skip; rotate_left)) | (apply R.guardNot; assumption; exact rfl; exact rfl; (intro h; skip; rotate_left; intro h; skip; rotate_left)) | (apply R.guardC; assumption; exact rfl; exact rfl; (intro h; skip; rotate_left; intro h; skip; rotate_left))) | (first | (apply C.condT; exact rfl) | (apply C.condF; exact rfl) | (apply C.condDec; exact rfl; (intro h; skip; rotate_left; intro h; skip; rotate_left)) | (apply C.condBeq; exact rfl; (intro h; skip; rotate_left; intro h; skip; rotate_left)) | (apply C.condBne; exact rfl; (intro h; skip; rotate_left; intro h; skip; rotate_left)) | (apply C.condNDec; exact rfl; (intro h; skip; rotate_left; intro h; skip; rotate_left)) | (apply C.condNot; exact rfl; (intro h; skip; rotate_left; intro h; skip; rotate_left)) | (apply C.cond; exact rfl; (intro h; skip; rotate_left; intro h; skip; rotate_left)))))
 (refine Fin.rt ?_)
 exact ⟨congrArg wv (or4 l0 l1 l2), rfl, rfl⟩
theorem sum_Km {A : Option Addr} {cap m : Nat} {bs : List UInt8} (hpl : Pl M A (bs.map bv)) (hm : bs.length = m) (hb : m ≤ 140737488351232) : K Tryz.prog 106 [.slice A m cap] M H fun v M' H' => v = wv (sumS bs) ∧ M' = M ∧ H' = H := by
 subst hm
 exact sum_K hpl hb
theorem read_Km {A : Option Addr} {cap m : Nat} {bs : List UInt8} (hpl : Pl M A (bs.map bv)) (hm : bs.length = m) (h4 : 4 ≤ m) : K Tryz.prog 133 [.slice A m cap] M H fun v M' H' => v = wv (readS bs) ∧ M' = M ∧ H' = H := by
 subst hm
 exact read_K hpl h4
def wholeS (bs : List UInt8) : Option (List UInt8) :=
 if bs.length < 8 then none
 else if readS bs > 65536 ∨ (bs.length - 8) % 4294967296 < readS bs then none
 else if sumS ((bs.drop 8).take (readS bs)) = readS (bs.drop 4) then some ((bs.drop 8).take (readS bs)) else none
theorem whole_K {A : Option Addr} {cap : Nat} {bs : List UInt8} (hpl : Pl M A (bs.map bv)) (hc : bs.length ≤ cap) (hb : cap ≤ 9223372036854775807) : K Tryz.prog 110 [.slice A bs.length cap] M H fun v M' H' =>
  ∃ A' r c' ok, v = .tuple #[.slice A' r.length c', .bool ok] ∧ Pl M A' (r.map bv) ∧ r.length ≤ c' ∧ c' ≤ cap ∧ wholeS bs = (if ok then some r else none) ∧ M' = M ∧ H' = H := by
 refine K.enterK Tryz.func110 rfl rfl rfl ?_
 intro Q hNP hQ
 (repeat' (first | (refine a_go ?_; intros) | refine a_sp (fun h => ?_) fun h => ?_ | fail))
 ·have h1 : (bs.length : Int) < 8 := by assumption
  (refine Fin.rt ?_)
  exact ⟨none, [], 0, false, rfl, Pl.nil, Nat.zero_le _, Nat.zero_le _, if_pos (by omega), rfl, rfl⟩
 have h8 : ¬ (bs.length : Int) < 8 := by assumption
 (apply R.call; (exact a_evs); exact rfl); exact read_K hpl (by omega); rintro _ M _ ⟨rfl, rfl, rfl⟩
 have hrl := readS_lt bs
 generalize hn : readS bs = n at hrl ⊢
 (repeat' (first | (refine a_go ?_; intros) | refine a_sp (fun h => ?_) fun h => ?_ | fail))
 ·have h1 : 65536 < (n : Int) := by assumption
  (refine Fin.rt ?_)
  exact ⟨none, [], 0, false, rfl, Pl.nil, Nat.zero_le _, Nat.zero_le _, by unfold wholeS; rw [hn, if_neg (by omega), if_pos (by omega)]; rfl, rfl, rfl⟩
 have h9 : ¬ 65536 < (n : Int) := by assumption
 apply R.step (v := wv ((bs.length - 8) % 4294967296))
 ·rw [show wv ((bs.length - 8) % 4294967296) = .int .u32 (IntKind.u32.wrap ((bs.length : Int) - 8)) by unfold wv; rw [wrap32]; congr 1; omega]
  exact Ok.conv rfl
 ·exact rfl
 generalize hm : (bs.length - 8) % 4294967296 = m
 (repeat' (first | (refine a_go ?_; intros) | refine a_sp (fun h => ?_) fun h => ?_ | fail))
 ·have h1 : (m : Int) < n := by assumption
  (refine Fin.rt ?_)
  exact ⟨none, [], 0, false, rfl, Pl.nil, Nat.zero_le _, Nat.zero_le _, by unfold wholeS; rw [hn, if_neg (by omega), if_pos (by omega)]; rfl, rfl, rfl⟩
 have h10 : ¬ (m : Int) < n := by assumption
 have hle : n + 8 ≤ bs.length := by
  have := Nat.mod_le (bs.length - 8) 4294967296
  omega
 (apply R.step; (apply Ok.addB; exact rfl; exact rfl; apply wu32; omega; omega); exact rfl)
 (apply R.step; (apply Ok.sliceLoHi; exact rfl; exact rfl; exact rfl; omega; omega; omega); exact rfl)
 (repeat' (first | (refine a_go ?_; intros) | refine a_sp (fun h => ?_) fun h => ?_ | fail))
 have hr : ((bs.drop 8).take n).length = n := by simp; omega
 have hpr : Pl M (adv A (8 : Int).toNat 1 cap) (((bs.drop 8).take n).map bv) := Pl.cutTake n hpl hc
 have hp4 : Pl M (adv A (4 : Int).toNat 1 cap) ((bs.drop 4).map bv) := by
  have h5 := Pl.cutTake (l := 4) bs.length hpl hc
  rw [List.take_of_length_le (by simp)] at h5
  exact h5
 rw [show (8 + (n : Int)).toNat - Int.toNat 8 = n by omega]
 apply C.regionP [1, 1, 1, 1, 1, 1, 1, 1, 1] [] _ Mix.h (Arr.all _) (by (exact a_np)) (by kernel_rfl); intro _ e; subst e
 (repeat' (first | refine a_op ?_ | (apply RP.callQ; (exact a_evs); exact rfl)))
 ·exact fun _ _ hM => sum_Km (hpr.mono hM) hr (by omega)
 (repeat' (first | refine a_op ?_ | (apply RP.callQ; (exact a_evs); exact rfl)))
 (apply RP.step; intro _ _ _; (apply Ok.sliceLo; exact rfl; exact rfl; omega; omega); exact rfl)
 (repeat' (first | refine a_op ?_ | (apply RP.callQ; (exact a_evs); exact rfl)))
 ·exact fun _ _ hM => read_Km (bs := bs.drop 4) (hp4.mono hM) (by simp) (by omega)
 (repeat' (first | refine a_op ?_ | (apply RP.callQ; (exact a_evs); exact rfl)))
 apply RP.nil
 (repeat' (first | (refine a_go ?_; intros) | refine a_sp (fun h => ?_) fun h => ?_ | fail))
 (refine Fin.rt ?_)
 refine ⟨_, (bs.drop 8).take n, _, _, by rw [hr], hpr, by omega, by omega, ?_, rfl, rfl⟩
 unfold wholeS
 rw [hn, if_neg (by omega), if_neg (by omega)]
 generalize sumS ((bs.drop 8).take n) = a
 generalize readS (bs.drop 4) = b
 by_cases hab : a = b
 ·rw [if_pos hab, if_pos (by rw [hab]; simp)]
 ·rw [if_neg hab, if_neg (by simp; omega)]
end Go.Sx
end
section
namespace Go.Sx
open Go.Proofs Go.RowKit
attribute [local irreducible] C R Fin K Own Rd Pl Ok KOf RetOk OpsOf RP KP Res NoPanic KV
variable {M : Mem} {H : Hp}
def framesF : Nat → List UInt8 → List (List UInt8)
 | 0, _ => []
 | k + 1, bs => match wholeS bs with
  | none => []
  | some r => r :: framesF k (bs.drop (8 + r.length))
inductive Told {σ : Type} (St : σ → List UInt8 → Bool → σ → Prop) (s0 : σ) : List (List UInt8) → σ → Prop
 | nil : Told St s0 [] s0
 | more {pre : List (List UInt8)} {r : List UInt8} {s s1 : σ} (h : Told St s0 pre s) (hs : St s r true s1) : Told St s0 (pre ++ [r]) s1
def Ends {σ : Type} (St : σ → List UInt8 → Bool → σ → Prop) (s0 : σ) (l : List (List UInt8)) (s' : σ) : Prop :=
 Told St s0 l s' ∨ ∃ pre r rest s, l = pre ++ r :: rest ∧ Told St s0 pre s ∧ St s r false s'
theorem wholeS_len {bs r : List UInt8} (h : wholeS bs = some r) : 8 + r.length ≤ bs.length ∧ r.length ≤ 65536 := by
 unfold wholeS at h
 split at h
 ·cases h
 split at h
 ·cases h
 split at h
 ·cases h
  have := Nat.mod_le (bs.length - 8) 4294967296
  simp only [List.length_take, List.length_drop]
  omega
 ·cases h
theorem framesF_none {k : Nat} {bs : List UInt8} (h : wholeS bs = none) : framesF k bs = [] := by
 cases k with
 | zero => rfl
 | succ k => simp [framesF, h]
theorem wholeS_nil : wholeS [] = none := if_pos (by simp)
theorem framesF_fuel : ∀ (k k' : Nat) (bs : List UInt8), bs.length ≤ k → bs.length ≤ k' → framesF k bs = framesF k' bs
 | 0, k', bs, h, _ => by
  have : bs = [] := List.eq_nil_of_length_eq_zero (by omega)
  subst this
  rw [framesF_none wholeS_nil, framesF_none wholeS_nil]
 | k + 1, 0, bs, _, h => by
  have : bs = [] := List.eq_nil_of_length_eq_zero (by omega)
  subst this
  rw [framesF_none wholeS_nil, framesF_none wholeS_nil]
 | k + 1, k' + 1, bs, h, h' => by
  simp only [framesF]
  cases hw : wholeS bs with
  | none => rfl
  | some r =>
   have := (wholeS_len hw).1
   simp only
   rw [framesF_fuel k k' (bs.drop (8 + r.length)) (by simp; omega) (by simp; omega)]
theorem framesF_some {bs r : List UInt8} (h : wholeS bs = some r) : framesF bs.length bs = r :: framesF (bs.drop (8 + r.length)).length (bs.drop (8 + r.length)) := by
 have hl := (wholeS_len h).1
 obtain ⟨k, hk⟩ : ∃ k, bs.length = k + 1 := ⟨bs.length - 1, by omega⟩
 rw [hk]
 simp only [framesF, h]
 rw [framesF_fuel k (bs.drop (8 + r.length)).length _ (by simp; omega) (Nat.le_refl _)]
structure Rest (σ : Type) where
 s : σ
 A : Option Addr
 bs : List UInt8
 cap : Nat
theorem all_K {A : Option Addr} {m cap : Nat} : K Tryz.prog 84 [.slice A m cap] M H fun v M' H' =>
  ∃ bx, v = .func (.func 109) #[] #[.pointer (some ⟨bx, 0, none⟩)] ∧ M' = M ∧ H' = (bx, .cells #[.slice A m cap] 28 (0, 0)) :: H := by
 refine K.enterK Tryz.func84 rfl rfl rfl ?_
 intro Q hNP hQ
 (repeat' (first | (refine a_bx ?_; intro bx) | (refine a_go ?_; intros) | refine a_sp (fun h => ?_) fun h => ?_ | fail))
 (apply R.step; (apply Ok.makeFunc (fs := []) ; (exact a_evs); (exact a_evs); (intro w; rfl)); exact rfl)
 (repeat' (first | (refine a_bx ?_; intro bx) | (refine a_go ?_; intros) | refine a_sp (fun h => ?_) fun h => ?_ | fail))
 (refine Fin.rt ?_)
 exact ⟨_, rfl, rfl, rfl⟩
def endS (l : List (List UInt8)) : Nat := (l.map fun r => 8 + r.length).sum
theorem endS_append (a b : List (List UInt8)) : endS (a ++ b) = endS a + endS b := by
 unfold endS
 rw [List.map_append, List.sum_append]
theorem framesF_end : ∀ (k : Nat) (bs : List UInt8), endS (framesF k bs) ≤ bs.length
 | 0, _ => Nat.zero_le _
 | k + 1, bs => by
  simp only [framesF]
  cases hw : wholeS bs with
  | none => exact Nat.zero_le _
  | some r =>
   have h1 := (wholeS_len hw).1
   have h2 := framesF_end k (bs.drop (8 + r.length))
   rw [List.length_drop] at h2
   have h3 : endS (r :: framesF k (bs.drop (8 + r.length))) = 8 + r.length + endS (framesF k (bs.drop (8 + r.length))) := by
    unfold endS
    simp
   simp only
   omega
theorem readS_four {x0 x1 x2 x3 : UInt8} {rest : List UInt8} {s : Nat} (hs : s < 4294967296) :
  readS (x0 :: x1 :: x2 :: x3 :: rest) = s ↔ x0 = UInt8.ofNat s ∧ x1 = UInt8.ofNat (s / 256) ∧ x2 = UInt8.ofNat (s / 65536) ∧ x3 = UInt8.ofNat (s / 16777216) := by
 have l0 : x0.toNat < 256 := x0.toNat_lt
 have l1 : x1.toNat < 256 := x1.toNat_lt
 have l2 : x2.toNat < 256 := x2.toNat_lt
 have l3 : x3.toNat < 256 := x3.toNat_lt
 have e : readS (x0 :: x1 :: x2 :: x3 :: rest) = x0.toNat + x1.toNat * 256 + x2.toNat * 65536 + x3.toNat * 16777216 := rfl
 simp only [← UInt8.toNat_inj, UInt8.toNat_ofNat', e]
 omega
theorem endS_len : ∀ (l : List (List UInt8)), 8 * l.length ≤ endS l
 | [] => Nat.zero_le _
 | x :: l => by
  have h := endS_len l
  have : endS (x :: l) = 8 + x.length + endS l := by simp [endS]
  simp only [List.length_cons]
  omega
theorem frameS_len {bs : List UInt8} (h : bs.length ≤ 65536) : (frameS bs).length = 8 + bs.length := by
 unfold frameS
 rw [if_neg (by omega)]
 simp [layS]
 omega
def cat (ls : List (List UInt8)) : List UInt8 := ls.flatMap frameS
theorem cat_cons (p : List UInt8) (ls : List (List UInt8)) : cat (p :: ls) = frameS p ++ cat ls := rfl
theorem readS_lay {p : Nat} (hp : p < 4294967296) (rest : List UInt8) : readS (layS p ++ rest) = p :=
 (readS_four hp).2 ⟨rfl, rfl, rfl, rfl⟩
theorem frame_take {p : List UInt8} (hp : p.length ≤ 65536) (rest : List UInt8) {k : Nat} (h8 : 8 ≤ k) :
  ((frameS p ++ rest).take k) = layS p.length ++ (layS (sumS p) ++ (p ++ rest).take (k - 8)) := by
 have e : frameS p = layS p.length ++ layS (sumS p) ++ p := if_neg (by omega)
 rw [e, List.append_assoc, List.take_append]
 have l : (layS p.length ++ layS (sumS p)).length = 8 := rfl
 rw [l, List.take_of_length_le (by rw [l]; exact h8), List.append_assoc]
theorem whole_frame {p : List UInt8} (hp : p.length ≤ 65536) (rest : List UInt8) (k : Nat) (hk : k ≤ (frameS p ++ rest).length) (hb : k < 4294967296) :
  wholeS ((frameS p ++ rest).take k) = if 8 + p.length ≤ k then some p else none := by
 have hl : ((frameS p ++ rest).take k).length = k := by rw [List.length_take]; omega
 unfold wholeS
 rw [hl]
 by_cases h8 : k < 8
 ·rw [if_pos h8, if_neg (by omega)]
 rw [if_neg h8, frame_take hp rest (by omega), readS_lay (by omega)]
 have d4 : (layS p.length ++ (layS (sumS p) ++ (p ++ rest).take (k - 8))).drop 4 = layS (sumS p) ++ (p ++ rest).take (k - 8) := rfl
 have d8 : (layS p.length ++ (layS (sumS p) ++ (p ++ rest).take (k - 8))).drop 8 = (p ++ rest).take (k - 8) := rfl
 rw [d4, d8, readS_lay (sumS_lt p), Nat.mod_eq_of_lt (by omega : k - 8 < 4294967296)]
 by_cases hle : 8 + p.length ≤ k
 ·rw [if_neg (by omega), if_pos hle]
  have : ((p ++ rest).take (k - 8)).take p.length = p := by
   rw [List.take_take, Nat.min_eq_left (by omega), List.take_left]
  rw [this, if_pos rfl]
 ·rw [if_pos (by omega), if_neg hle]
def wholeN : List (List UInt8) → Nat → Nat
 | [], _ => 0
 | p :: ls, k => if 8 + p.length ≤ k then 1 + wholeN ls (k - (8 + p.length)) else 0
theorem frames_cut : ∀ (ls : List (List UInt8)) (k : Nat), (∀ p ∈ ls, p.length ≤ 65536) → k ≤ (cat ls).length → k < 4294967296 →
  framesF ((cat ls).take k).length ((cat ls).take k) = ls.take (wholeN ls k)
 | [], k, _, hk, _ => by
  have : k = 0 := by simpa [cat] using hk
  subst this
  rfl
 | p :: ls, k, hp, hk, hb => by
  have hpl := hp p (List.mem_cons_self ..)
  have hfl := frameS_len hpl
  rw [cat_cons] at hk ⊢
  have hw := whole_frame hpl (cat ls) k hk hb
  rw [wholeN]
  by_cases hle : 8 + p.length ≤ k
  ·rw [if_pos hle] at hw ⊢
   rw [framesF_some hw]
   have e : ((frameS p ++ cat ls).take k).drop (8 + p.length) = (cat ls).take (k - (8 + p.length)) := by
    rw [List.take_append, hfl, List.take_of_length_le (by omega), List.drop_left' hfl]
   rw [e, frames_cut ls (k - (8 + p.length)) (fun q hq => hp q (List.mem_cons_of_mem _ hq)) (by rw [List.length_append, hfl] at hk; omega) (by omega), Nat.add_comm 1, List.take_succ_cons]
  ·rw [if_neg hle] at hw ⊢
   rw [framesF_none hw]
   rfl
theorem cat_len : ∀ (ls : List (List UInt8)), (∀ p ∈ ls, p.length ≤ 65536) → (cat ls).length = endS ls
 | [], _ => rfl
 | p :: ls, hp => by
  rw [cat_cons, List.length_append, frameS_len (hp p (List.mem_cons_self ..)), cat_len ls (fun q hq => hp q (List.mem_cons_of_mem _ hq))]
  simp [endS]
theorem wholeN_all : ∀ (ls : List (List UInt8)) (k : Nat), endS ls ≤ k → wholeN ls k = ls.length
 | [], _, _ => rfl
 | p :: ls, k, h => by
  have e : endS (p :: ls) = 8 + p.length + endS ls := by simp [endS]
  rw [wholeN, if_pos (by omega), wholeN_all ls _ (by omega), List.length_cons, Nat.add_comm]
theorem frames_cat (ls : List (List UInt8)) (hp : ∀ p ∈ ls, p.length ≤ 65536) (hb : (cat ls).length < 4294967296) : framesF (cat ls).length (cat ls) = ls := by
 have h := frames_cut ls (cat ls).length hp (Nat.le_refl _) hb
 rw [List.take_length, wholeN_all ls _ (by rw [cat_len ls hp]; exact Nat.le_refl _), List.take_length] at h
 exact h
theorem all1_M {σ : Type} {J : σ → Hp} {Mf : σ → Mem} {St : σ → List UInt8 → Bool → σ → Prop} {yv : Value} {bx : Nat} {A : Option Addr} {cap : Nat} {bs : List UInt8} (s0 : σ) (hpl : Pl (Mf s0) A (bs.map bv)) (hc : bs.length ≤ cap) (hb : cap ≤ 9223372036854775807)
  (hle : ∀ pre s, Told St s0 pre s → (Mf s0).le (Mf s))
  (hY : ∀ pre r rest s v hpv H', framesF bs.length bs = pre ++ r :: rest → Told St s0 pre s → Own 5 1 v r.length (r.map bv) hpv → r.length ≤ 65536 → KV Tryz.prog yv [v] (Mf s) (hpv ++ (J s ++ H')) (fun u M'' H'' => ∃ b s', u = .bool b ∧ M'' = Mf s' ∧ H'' = J s' ++ H' ∧ St s r b s')) :
  K Tryz.prog 109 [yv, .pointer (some ⟨bx, 0, none⟩)] (Mf s0) (J s0 ++ ((bx, .cells #[.slice A bs.length cap] 28 (0, 0)) :: H)) fun _ M' H' =>
   ∃ s', M' = Mf s' ∧ H' = J s' ++ ((bx, .cells #[.slice A bs.length cap] 28 (0, 0)) :: H) ∧ Ends St s0 (framesF bs.length bs) s' := by
 refine K.enterK Tryz.func109 rfl rfl rfl ?_
 intro Q hNP hQ
 (repeat' (first | (refine a_bx ?_; intro bx) | (refine a_go ?_; intros) | refine a_sp (fun h => ?_) fun h => ?_ | fail))
 apply C.loop (fun x : Rest σ => Pl (Mf s0) x.A (x.bs.map bv) ∧ x.bs.length ≤ x.cap ∧ x.cap ≤ 9223372036854775807 ∧ ∃ pre, framesF bs.length bs = pre ++ framesF x.bs.length x.bs ∧ Told St s0 pre x.s)
  (fun x => [(0, yv), (3, .slice x.A x.bs.length x.cap)]) (fun x => Mf x.s) (fun x => J x.s ++ ((bx, .cells #[.slice A bs.length cap] 28 (0, 0)) :: H)) (fun x => x.bs.length) ⟨s0, A, bs, cap⟩
 ·exact ⟨hpl, hc, hb, [], rfl, .nil⟩
 ·(exact a_subs)
 ·exact rfl
 ·exact rfl
 rintro ⟨s, A1, bs1, cap1⟩ ⟨hpl1, hc1, hb1, pre, hfr, htold⟩
 dsimp only at hpl1 hc1 hb1 hfr htold ⊢
 have hls := hle _ _ htold
 obtain ⟨Ms, hMs⟩ : ∃ Ms, Ms = Mf s := ⟨_, rfl⟩
 rw [← hMs] at hls ⊢
 (repeat' (first | (refine a_bx ?_; intro bx) | (refine a_go ?_; intros) | refine a_sp (fun h => ?_) fun h => ?_ | fail))
 (apply R.call; (exact a_evs); exact rfl); exact whole_K (hpl1.mono hls) hc1 hb1; rintro _ _ _ ⟨A2, r, c2, ok, rfl, hpr, hrc, hcc, hw, e1_, rfl⟩
 replace e1_ := e1_.symm
 subst e1_
 (repeat' (first | (refine a_bx ?_; intro bx) | (refine a_go ?_; intros) | refine a_sp (fun h => ?_) fun h => ?_ | fail))
 ·have h1 : ok = false := by assumption
  subst h1
  (refine Fin.rt ?_)
  exact ⟨s, hMs, rfl, .inl (by rw [hfr, framesF_none hw, List.append_nil]; exact htold)⟩
 have h1 : ok = true := by assumption
 subst h1
 have hw2 : wholeS bs1 = some r := hw
 obtain ⟨hl8, hl6⟩ := wholeS_len hw2
 have hfr2 := hfr
 rw [framesF_some hw2] at hfr2
 (apply R.append; exact rfl; exact rfl; exact Own.empty; (exact a_tk); exact hpr.rd; (focus (simp; done)); exact bv_one _; omega; exact rfl; decide; decide; exact rfl; rintro v hpv hown')
 have hown : Own 5 1 v r.length (r.map bv) hpv := by simpa using hown'
 clear hown'
 (repeat' (first | (refine a_bx ?_; intro bx) | (refine a_go ?_; intros) | refine a_sp (fun h => ?_) fun h => ?_ | fail))
 have hYs := hY pre r _ s v hpv ((bx, .cells #[.slice A bs.length cap] 28 (0, 0)) :: H) hfr2 htold hown hl6
 rw [← hMs] at hYs
 (apply R.callV; exact rfl; (exact a_evs); exact rfl; exact hYs; rintro _ _ _ ⟨b, s1, rfl, rfl, rfl, hst⟩)
 (repeat' (first | (refine a_bx ?_; intro bx) | (refine a_go ?_; intros) | refine a_sp (fun h => ?_) fun h => ?_ | fail))
 ·have h2 : b = false := by assumption
  subst h2
  (refine Fin.rt ?_)
  exact ⟨s1, rfl, rfl, .inr ⟨pre, r, _, s, hfr2, htold, hst⟩⟩
 have h2 : b = true := by assumption
 subst h2
 (apply R.step; (apply Ok.sliceLo; exact rfl; exact rfl; omega; omega); exact rfl)
 rw [show (8 + (r.length : Int)).toNat = 8 + r.length by omega]
 (repeat' (first | (refine a_bx ?_; intro bx) | (refine a_go ?_; intros) | refine a_sp (fun h => ?_) fun h => ?_ | fail))
 refine Fin.again (⟨s1, adv A1 (8 + r.length) 1 cap1, bs1.drop (8 + r.length), cap1 - (8 + r.length)⟩ : Rest σ) ⟨?_, by simp; omega, by dsimp only; omega, ?_⟩ (by simp; omega) ?_ rfl rfl
 ·have h5 := Pl.cutTake (l := 8 + r.length) bs1.length hpl1 hc1
  rw [List.take_of_length_le (by simp)] at h5
  exact h5
 ·exact ⟨pre ++ [r], by rw [hfr2, List.append_assoc]; rfl, .more htold hst⟩
 ·dsimp only
  rw [List.length_drop]
  (exact a_subs)
end Go.Sx
end
section
namespace Go.Sx
open Go Go.Proofs Go.RowKit
attribute [local irreducible] C R Fin K Own OwnT Rd Pl Ok KOf RetOk OpsOf RP KP Res NoPanic KV KE MapS ItS EntS FsO FsR
variable {M M' : Mem} {H H1 H2 : Hp}
structure StX where
 so : Obj
 D : Fs
 oi : Obj
 rest : ML
 G : Fs
theorem FsO.put {o' : Obj} {l : ML} {F : Fs} {k : Txt} {v : Value} {b : Txt} (h : FsR M l F) (hv : PlB M v b) (hm : MapS o' (putS l k v)) : FsO M o' (putS F k b) := by
 unfold FsO
 exact ⟨_, hm, h.put hv⟩
theorem settle_K {db sb nb : Nat} {room fuse : Int} {pv : Value} {down : Bool} {no : Obj} {F : Fs} (hf : FsO M no F) : K Tryz.prog 60 [.pointer (some ⟨db, 0, none⟩)] M ((db, dkB room sb nb pv fuse down) :: (nb, no) :: H) fun v' M' H' => v' = .tuple #[] ∧ M' = M ∧ ∃ sb' so, FsO M so F ∧ H' = (db, dkB room sb' nb (.slice none 0 0) fuse down) :: (nb, no) :: (sb', so) :: H := by
 have hnF := hf.nodup
 obtain ⟨l, hm, hr, hn⟩ := hf.use
 clear hf
 refine K.enterK Tryz.func60 rfl rfl rfl ?_
 intro Q hNP hQ
 unfold dkB at hQ ⊢
 (repeat' (first | (refine a_go ?_; intros) | refine a_sp (fun h => ?_) fun h => ?_ | fail))
 (apply R.makeMap; exact rfl; intro bs)
 (repeat' (first | (refine a_go ?_; intros) | refine a_sp (fun h => ?_) fun h => ?_ | fail))
 (apply R.rangeS (b := nb) (o := no); exact rfl; exact a_mm; exact hm; exact rfl; intro it oi hit)
 (repeat' (first | (refine a_go ?_; intros) | refine a_sp (fun h => ?_) fun h => ?_ | fail))
 apply C.arr (H2 := (it, oi) :: (db, .cells [.int .i64 room, .map (some bs), .map (some nb), pv, .int .i64 fuse, .bool down].toArray 107 (0, 0)) :: (nb, no) :: (bs, .map #[] 0) :: H) (by (exact a_arrs))
 apply C.loop (fun y : StX => ItS y.oi no nb y.rest ∧ FsR M y.rest y.G ∧ FsO M y.so y.D ∧ F.Perm (y.D ++ y.G)) (fun y => [(0, .pointer (some ⟨db, 0, none⟩)), (12, .pointer (some ⟨it, 0, none⟩))]) (fun _ => M) (fun y => (it, y.oi) :: (db, .cells [.int .i64 room, .map (some bs), .map (some nb), pv, .int .i64 fuse, .bool down].toArray 107 (0, 0)) :: (nb, no) :: (bs, y.so) :: H) (fun y => y.rest.length) ⟨.map #[] 0, [], oi, l, F⟩
 ·exact ⟨hit, hr, FsO.empty, List.Perm.refl _⟩
 ·(exact a_subs)
 ·exact rfl
 ·exact rfl
 rintro ⟨so, D, oi, rest, G⟩ ⟨h1, h2, h3, h4⟩
 dsimp only at h1 h2 h3 h4 ⊢
 (repeat' (first | (refine a_go ?_; intros) | refine a_sp (fun h => ?_) fun h => ?_ | fail))
 apply R.nextS (it := it) (oi := oi) (b := nb) (o := no)
 ·exact rfl
 ·(exact a_at)
 ·exact a_mm
 ·exact h1
 ·exact rfl
 ·intro hz
  subst hz
  have hG : G = [] := List.eq_nil_of_length_eq_zero h2.len.symm
  subst hG
  (repeat' (first | (refine a_go ?_; intros) | refine a_sp (fun h => ?_) fun h => ?_ | fail))
  (refine Fin.rA ((db, .cells [.int .i64 room, .map (some bs), .map (some nb), .slice none 0 0, .int .i64 fuse, .bool down].toArray 107 (0, 0)) :: (nb, no) :: (bs, so) :: H) ?_)
  rw [List.append_nil] at h4
  exact ⟨rfl, rfl, bs, so, h3.perm h4.symm, rfl⟩
 ·intro r1 k v r2 oi2 hrest h5 h6
  subst hrest
  obtain ⟨b, G2, q1, q2, q3⟩ := h2.mid
  have hl : (r1 ++ r2).length < (r1 ++ (k, v) :: r2).length := by
   rw [List.length_append, List.length_append, List.length_cons]
   omega
  obtain ⟨l2, hm2, hr2, _⟩ := h3.use
  have hp : F.Perm ((D ++ [(k, b)]) ++ G2) := h4.trans ((q2.append_left D).trans (by rw [List.append_assoc]; exact List.Perm.refl _))
  have hkD : k ∉ keyS D := by
   have h7 := (hp.map Prod.fst).nodup_iff.1 hnF
   rw [List.append_assoc, List.map_append, List.nodup_append] at h7
   intro hk
   exact h7.2.2 k hk k (List.mem_cons_self ..) rfl
  (repeat' (first | refine a_mv ?_ | (apply R.step; (apply Ok.entryS (h := h6); exact rfl; exact a_mm; exact a_mm); exact rfl) | (refine a_go ?_; intros) | refine a_sp (fun h => ?_) fun h => ?_ | fail))
  (apply R.putS (k := k) (v := v) (l := l2) (o := so); exact rfl; exact rfl; exact rfl; (exact a_at); exact hm2; intro o2 hm3)
  have h7 : FsO M o2 (D ++ [(k, b)]) := by
   have := FsO.put hr2 q1 hm3
   rw [putS_new hkD] at this
   exact this
  (repeat' (first | (refine a_go ?_; intros) | refine a_sp (fun h => ?_) fun h => ?_ | fail))
  refine Fin.again (⟨o2, D ++ [(k, b)], oi2, r1 ++ r2, G2⟩ : StX) ⟨h5, q3, h7, hp⟩ hl ?_ rfl rfl
  (exact a_subs)
def RowD (M : Mem) (v : Value) (ps : List De) (hp : Hp) : Prop := ∃ cs : List (List Value), OwnT 109 5 v ps.length cs.flatten hp ∧ cs.length = ps.length ∧ ∀ (i : Nat) (x : De) (c : List Value), ps[i]? = some x → cs[i]? = some c → DeC M x c
theorem RowD.mono {v : Value} {ps : List De} {hp : Hp} (hM : M.le M') (h : RowD M v ps hp) : RowD M' v ps hp := by
 obtain ⟨cs, h1, h2, h3⟩ := h
 exact ⟨cs, h1, h2, fun i x c hx hc => (h3 i x c hx hc).mono hM⟩
theorem RowD.nil : RowD M (.slice none 0 0) [] [] := ⟨[], OwnT.nil _ _, rfl, fun i x c hx => by simp at hx⟩
theorem RowD.snoc {cs : List (List Value)} {v : Value} {ps : List De} {hp : Hp} {x : De} {c : List Value} (h1 : OwnT 109 5 v (ps.length + 1) (cs.flatten ++ c) hp) (h2 : cs.length = ps.length) (h3 : ∀ (i : Nat) (x : De) (c : List Value), ps[i]? = some x → cs[i]? = some c → DeC M x c) (hx : DeC M x c) : RowD M v (ps ++ [x]) hp := by
 refine ⟨cs ++ [c], ?_, by rw [List.length_append, List.length_append, h2]; rfl, fun i x' c' hx' hc' => ?_⟩
 ·rw [List.flatten_append, List.length_append]
  rw [show [c].flatten = c by simp]
  exact h1
 ·by_cases hi : i < ps.length
  ·rw [List.getElem?_append_left hi] at hx'
   rw [List.getElem?_append_left (by omega)] at hc'
   exact h3 i _ _ hx' hc'
  ·rw [List.getElem?_append_right (by omega)] at hx'
   rw [List.getElem?_append_right (by omega), h2] at hc'
   obtain ⟨j, hj⟩ : ∃ j, j = i - ps.length := ⟨_, rfl⟩
   rw [← hj] at hx' hc'
   cases j with
   | zero =>
    injection hx' with hx'
    injection hc' with hc'
    rw [← hx', ← hc']
    exact hx
   | succ j => simp at hx'
theorem put_K {db sb nb : Nat} {room fuse : Int} {pv : Value} {down : Bool} {no : Obj} {F : Fs} {ps : List De} {hp : Hp} {x : De} {c : List Value} (hf : FsO M no F) (hrow : RowD M pv ps hp) (hx : DeC M x c) (hfit : Fit F x) (hlen : ps.length ≤ 1000000) : K Tryz.prog 68 [.pointer (some ⟨db, 0, none⟩), .agg c.toArray] M ((db, dkB room sb nb pv fuse down) :: (nb, no) :: (hp ++ H)) fun v' M' H' => v' = .int .i64 0 ∧ M.le M' ∧ ∃ pv' hp' no', FsO M' no' (doF F x) ∧ RowD M' pv' (ps ++ [x]) hp' ∧ H' = (db, dkB room sb nb pv' fuse down) :: (nb, no') :: (hp' ++ H) := by
 obtain ⟨cs, hot, hcl, hcd⟩ := hrow
 refine K.enterK Tryz.func68 rfl rfl rfl ?_
 intro Q hNP hQ
 unfold dkB at hQ ⊢
 obtain ⟨A1, c1, rfl, _, _⟩ := hot.form
 have hc5 := hx.cells
 obtain ⟨c0, c1', c2, c3, c4, rfl⟩ : ∃ c0 c1 c2 c3 c4, c = [c0, c1, c2, c3, c4] := by
  match c, hc5.1 with
  | [a, b, c, d, e], _ => exact ⟨a, b, c, d, e, rfl⟩
 (repeat' (first | (refine a_bz ?_; intro bz) | (refine a_bx ?_; intro bx) | (refine a_ba ?_; intro ba) | (refine a_bl ?_; intro bl) | (refine a_go ?_; intros) | refine a_sp (fun h => ?_) fun h => ?_ | fail))
 apply C.arr (H2 := (bx, .cells [c0, c1', c2, c3, c4].toArray 109 (0, 0)) :: (db, .cells [.int .i64 room, .map (some sb), .map (some nb), .slice A1 ps.length c1, .int .i64 fuse, .bool down].toArray 107 (0, 0)) :: (hp ++ ((nb, no) :: H))) (by (exact a_arrs))
 (apply C.regionE (isA := [0, 1, 2, 3, 4, 5, 6, 7]) (ksA := [true, true, true, true, true, true, false, false]) (isB := [8, 9, 10]) (ksB := [1, 1, 0]) (Hs := [(bx, .cells [c0, c1', c2, c3, c4].toArray 109 (0, 0)), (db, .cells [.int .i64 room, .map (some sb), .map (some nb), .slice A1 ps.length c1, .int .i64 fuse, .bool down].toArray 107 (0, 0))]); exact Mix.h; (first | exact Arr.all _ | (exact a_arr)); (exact a_np); (exact a_picked); (exact a_picked); kernel_rfl; intro _ e; subst e)
 (repeat' (first | fail | (apply RQ.step; intro _ _ _; (exact a_ok); exact rfl) | (apply RQ.stepT; exact rfl; exact rfl; exact rfl; intro _ _ _; (exact a_ok); exact rfl) | (apply RQ.stepF; exact rfl; exact rfl; exact rfl; exact rfl; exact rfl)))
 (apply RQ.eff; intro Kc hKc ops0)
 (apply R.buildSlice; (exact a_prt); exact rfl; exact rfl; (exact a_fills); exact rfl; intro bl)
 (apply R.nil; apply Fin.kq hKc; exact Mem.le_refl _; (exact a_arr))
 (apply RQ.eff; intro Kc hKc ops0)
 (apply R.appendT (news := [c0, c1', c2, c3, c4]) (k := 1); exact rfl; exact rfl; exact hot; (exact a_tk); exact Rd.at_ (l := [c0, c1', c2, c3, c4]) (by (exact a_at)) (fun j u h => by rw [Nat.zero_add]; exact h); exact rfl; exact hc5.2; omega; exact rfl; decide; decide; exact rfl; rintro lv' hp' hot')
 obtain ⟨A2, c2', rfl, _, _⟩ := hot'.form
 (apply R.nil; apply Fin.kq hKc; exact Mem.le_refl _; (exact a_arr))
 apply RQ.nil
 (repeat' (first | refine a_op ?_ | (apply RP.callQ; (exact a_evs); exact rfl)))
 (apply RP.eff; intro Kc hKc ops0)
 (first | (apply R.store; exact rfl; exact rfl; exact rfl; (exact a_at); (exact a_blit); exact rfl; (focus (simp [Value.oneCell']; done))) | (apply R.buildSlice0; exact rfl; intro bz) | (apply R.box; exact rfl; (simp only [Value.cells]; rfl); exact rfl; intro bx) | (apply R.alloc; (simp only [Value.cells]; rfl); exact rfl; intro ba) | (apply R.buildSlice; (exact a_prt); exact rfl; exact rfl; (exact a_fills); exact rfl; intro bl))
 (apply R.nil; apply Fin.kp hKc; exact Mem.le_refl _; (exact a_arr))
 (first | apply RP.nil0 | apply RP.nil)
 (repeat' (first | (refine a_bz ?_; intro bz) | (refine a_bx ?_; intro bx) | (refine a_ba ?_; intro ba) | (refine a_bl ?_; intro bl) | (refine a_go ?_; intros) | refine a_sp (fun h => ?_) fun h => ?_ | fail))
 have hrow2 := RowD.snoc hot' hcl hcd hx
 (apply C.regionO (ks := [1, 1, 1, 1, 1, 0]) (is := [0, 1, 2, 3, 4, 5]) (Hs := [(bx, .cells [c0, c1', c2, c3, c4].toArray 109 (0, 0)), (db, .cells [.int .i64 room, .map (some sb), .map (some nb), .slice A2 (ps.length + 1) c2', .int .i64 fuse, .bool down].toArray 107 (0, 0))]); exact Mix.h; (first | exact Arr.all _ | (exact a_arr)); (exact a_np); (exact a_picked); kernel_rfl; intro _ e; subst e)
 (repeat' (first | refine a_op ?_ | (apply RP.callQ; (exact a_evs); exact rfl)))
 (apply RP.eff; intro Kc hKc ops0)
 (apply R.call; (exact a_evs); exact rfl; (apply K.arr (h := does_K (nb := nb) hf hx hfit)); (exact a_art); rintro _ M3 _ ⟨rfl, hM3, no', hf3, rfl⟩)
 (apply R.nil; apply Fin.kpB (E := []) hKc; exact hM3; (exact a_art))
 (first | apply RP.nil0 | apply RP.nil)
 (repeat' (first | (refine a_bz ?_; intro bz) | (refine a_bx ?_; intro bx) | (refine a_ba ?_; intro ba) | (refine a_bl ?_; intro bl) | (refine a_go ?_; intros) | refine a_sp (fun h => ?_) fun h => ?_ | fail))
 (refine Fin.rA ((db, .cells [.int .i64 room, .map (some sb), .map (some nb), .slice A2 (ps.length + 1) c2', .int .i64 fuse, .bool down].toArray 107 (0, 0)) :: (nb, no') :: (hp' ++ H)) ?_)
 exact ⟨rfl, hM3, _, hp', no', hf3, hrow2.mono hM3, rfl⟩
end Go.Sx
end
section
namespace Go.Sx
open Go Go.Proofs Go.RowKit
attribute [local irreducible] C R Fin K Own OwnT Rd Pl Ok KOf RetOk OpsOf RP KP Res NoPanic KV KE MapS ItS EntS FsO FsR RowD
variable {M M' : Mem} {H H1 H2 : Hp}
structure Dk where
 room : Int
 S : Fs
 ps : List De
 fuse : Int
 down : Bool
def Dk.now (d : Dk) : Fs := d.ps.foldl doF d.S
def Runs : Fs → List De → Prop
 | _, [] => True
 | F, x :: xs => Fit F x ∧ Runs (doF F x) xs
theorem Runs.snoc : ∀ {ps : List De} {F : Fs} {x : De}, Runs F ps → Fit (ps.foldl doF F) x → Runs F (ps ++ [x])
 | [], _, _, _, h => ⟨h, trivial⟩
 | _ :: _, _, _, h1, h2 => ⟨h1.1, Runs.snoc h1.2 h2⟩
theorem Runs.sum : ∀ {ps : List De} {F : Fs}, sumF F ≤ 1048576 → Runs F ps → sumF (ps.foldl doF F) ≤ 1048576
 | [], _, h, _ => h
 | x :: _, F, _, h => Runs.sum (F := doF F x) h.1.1 h.2
def Dk.ok (d : Dk) : Prop := (0 ≤ d.room ∧ d.room ≤ 1048576) ∧ (-1 ≤ d.fuse ∧ d.fuse ≤ 4611686018427387904) ∧ sumF d.S ≤ 1048576 ∧ Runs d.S d.ps
theorem Dk.ok.sum {d : Dk} (h : d.ok) : sumF d.now ≤ 1048576 := Runs.sum h.2.2.1 h.2.2.2
def DkO (M : Mem) (db : Nat) (d : Dk) (hp : Hp) : Prop := d.ok ∧ ∃ sb nb so no pv hr, FsO M so d.S ∧ FsO M no d.now ∧ RowD M pv d.ps hr ∧ hp = (db, dkB d.room sb nb pv d.fuse d.down) :: (nb, no) :: (sb, so) :: hr
theorem DkO.mono {db : Nat} {d : Dk} {hp : Hp} (hM : M.le M') (h : DkO M db d hp) : DkO M' db d hp := by
 obtain ⟨h0, sb, nb, so, no, pv, hr, h1, h2, h3, h4⟩ := h
 exact ⟨h0, sb, nb, so, no, pv, hr, h1.mono hM, h2.mono hM, h3.mono hM, h4⟩
theorem DkO.nodup {db : Nat} {d : Dk} {hp : Hp} (h : DkO M db d hp) : (keyS d.now).Nodup := by
 obtain ⟨h0, sb, nb, so, no, pv, hr, h1, h2, h3, h4⟩ := h
 exact h2.nodup
def newD (room : Int) : Dk := ⟨room, [], [], -1, false⟩
theorem new_K {room : Int} (h0 : 0 ≤ room) (h1 : room ≤ 1048576) : K Tryz.prog 23 [.int .i64 room] M H fun v' M' H' => ∃ db hp, v' = .tuple #[.pointer (some ⟨db, 0, none⟩), .int .i64 0] ∧ M' = M ∧ DkO M db (newD room) hp ∧ H' = hp ++ H := by
 refine K.enterK Tryz.func23 rfl rfl rfl ?_
 intro Q hNP hQ
 (repeat' (first | (refine a_bx ?_; intro bx) | (refine a_go ?_; intros) | refine a_sp (fun h => ?_) fun h => ?_ | fail))
 ·exfalso; omega
 ·exfalso; omega
 (apply R.makeMap; exact rfl; intro b1)
 (repeat' (first | (refine a_bx ?_; intro bx) | (refine a_go ?_; intros) | refine a_sp (fun h => ?_) fun h => ?_ | fail))
 (apply R.makeMap; exact rfl; intro b2)
 (repeat' (first | (refine a_bx ?_; intro bx) | (refine a_go ?_; intros) | refine a_sp (fun h => ?_) fun h => ?_ | fail))
 (refine Fin.rA ([(bx, dkB room b1 b2 (.slice none 0 0) (-1) false), (b2, .map #[] 0), (b1, .map #[] 0)] ++ H) ?_)
 exact ⟨bx, _, rfl, rfl, ⟨⟨⟨h0, h1⟩, ⟨Int.le_refl _, show (-1 : Int) ≤ 4611686018427387904 by decide⟩, Nat.zero_le _, trivial⟩, b1, b2, _, _, _, [], FsO.empty, FsO.empty, RowD.nil, rfl⟩, rfl⟩
def stopD (d : Dk) : Prop := d.down = true ∨ d.fuse = 0
instance (d : Dk) : Decidable (stopD d) := inferInstanceAs (Decidable (_ ∨ _))
def cntD (d : Dk) : Dk := if stopD d then { d with down := true } else { d with fuse := if 0 < d.fuse then d.fuse - 1 else d.fuse }
def opD (e : Int) (d : Dk) (x : De) : Dk := if e = 0 then { cntD d with ps := d.ps ++ [x] } else cntD d
theorem cntD_ok {d : Dk} (h : d.ok) : (cntD d).ok := by
 obtain ⟨h1, h2, h3, h4⟩ := h
 unfold cntD
 split
 ·exact ⟨h1, h2, h3, h4⟩
 ·refine ⟨h1, ?_, h3, h4⟩
  dsimp only
  split <;> omega
theorem cntD_now (d : Dk) : (cntD d).now = d.now := by
 unfold cntD
 split <;> rfl
theorem cntD_ps (d : Dk) : (cntD d).ps = d.ps := by
 unfold cntD
 split <;> rfl
theorem cntD_S (d : Dk) : (cntD d).S = d.S := by
 unfold cntD
 split <;> rfl
theorem cntD_room (d : Dk) : (cntD d).room = d.room := by
 unfold cntD
 split <;> rfl
theorem opD_ok {d : Dk} {x : De} (h : d.ok) (hf : Fit d.now x) : Dk.ok { cntD d with ps := d.ps ++ [x] } := by
 obtain ⟨h1, h2, h3, h4⟩ := cntD_ok h
 rw [cntD_S, cntD_ps] at h4
 rw [cntD_S] at h3
 refine ⟨h1, h2, ?_, ?_⟩
 ·show sumF (cntD d).S ≤ _
  rw [cntD_S]
  exact h3
 ·show Runs (cntD d).S _
  rw [cntD_S]
  exact h4.snoc hf
theorem counts_KD {db : Nat} {d : Dk} {hp : Hp} (ho : DkO M db d hp) : K Tryz.prog 65 [.pointer (some ⟨db, 0, none⟩)] M (hp ++ H) fun v' M' H' => v' = .bool (!decide (stopD d)) ∧ M' = M ∧ ∃ hp', DkO M db (cntD d) hp' ∧ H' = hp' ++ H ∧ (¬ stopD d → (cntD d).down = false) := by
 obtain ⟨h0, sb, nb, so, no, pv, hr, h1, h2, h3, rfl⟩ := ho
 have hok := cntD_ok h0
 refine (counts_K (sb := sb) (nb := nb) (room := d.room) (pv := pv) (down := d.down) ⟨h0.2.1.1, by have := h0.2.1.2; omega⟩).mono ?_
 rintro _ _ _ ⟨rfl, ⟨rfl, c1, rfl⟩ | ⟨rfl, c1, c2, rfl⟩⟩
 ·have hs : stopD d := c1
  have e : cntD d = { d with down := true } := if_pos hs
  rw [e] at hok ⊢
  exact ⟨by rw [decide_eq_true hs]; rfl, rfl, _, ⟨hok, sb, nb, so, no, pv, hr, h1, h2, h3, rfl⟩, rfl, fun h => absurd hs h⟩
 ·have hs : ¬ stopD d := fun h => by
   rcases h with h | h
   ·rw [h] at c1; cases c1
   ·exact c2 h
  have e : cntD d = { d with fuse := if 0 < d.fuse then d.fuse - 1 else d.fuse } := if_neg hs
  rw [e] at hok ⊢
  refine ⟨by rw [decide_eq_false hs]; rfl, rfl, _, ⟨hok, sb, nb, so, no, pv, hr, h1, h2, h3, rfl⟩, ?_, fun h => c1⟩
  dsimp only
  rw [c1]
  rfl
def appE (d : Dk) (n b : Txt) : Int := if stopD d then 3 else if namedB n = false then 1 else if d.room < (sumF d.now + b.length : Nat) ∨ (getS d.now n = none ∧ 64 ≤ d.now.length) then 2 else 0
theorem sumF_put {F : Fs} {n b : Txt} (hn : (keyS F).Nodup) : sumF (putS F n b) + (fileD F n).length = sumF F + b.length := by
 by_cases h : n ∈ keyS F
 ·obtain ⟨p, hp, rfl⟩ := List.mem_map.1 h
  obtain ⟨l1, l2, rfl⟩ := List.append_of_mem hp
  rw [putS_old (v := b) hn]
  have hg : fileD (l1 ++ p :: l2) p.1 = p.2 := by
   unfold fileD
   rw [show l1 ++ p :: l2 = l1 ++ (p.1, p.2) :: l2 from rfl, getS_some (keyS_mid hn).1]
   rfl
  rw [hg]
  unfold sumF
  simp only [List.map_append, List.map_cons, List.sum_append, List.sum_cons]
  omega
 ·rw [putS_new h]
  have hg : fileD F n = [] := by
   unfold fileD
   rw [getS_none h]
   rfl
  rw [hg]
  unfold sumF
  simp
theorem app_fit {F : Fs} {n b : Txt} (hn : (keyS F).Nodup) (h : sumF F + b.length ≤ 1048576) : Fit F (.app n b) := by
 refine ⟨?_, trivial⟩
 have := sumF_put (b := fileD F n ++ b) (n := n) hn
 rw [List.length_append] at this
 show sumF (putS F n (fileD F n ++ b)) ≤ _
 omega
theorem app0 {d : Dk} {n b : Txt} (h : appE d n b = 0) : namedB n = true ∧ ¬ (d.room < (sumF d.now + b.length : Nat)) ∧ ¬ (getS d.now n = none ∧ 64 ≤ d.now.length) := by
 unfold appE at h
 split at h
 ·cases h
 ·split at h
  ·cases h
  ·rename_i h1
   split at h
   ·cases h
   ·rename_i h2
    exact ⟨by simpa using h1, fun h3 => h2 (.inl h3), fun h3 => h2 (.inr h3)⟩
theorem cntD_down {d : Dk} (hs : ¬ stopD d) : (cntD d).down = false := by
 rw [show cntD d = { d with fuse := if 0 < d.fuse then d.fuse - 1 else d.fuse } from if_neg hs]
 cases h : d.down with
 | false => rfl
 | true => exact absurd (.inl h) hs
theorem opD_now (d : Dk) (x : De) : (opD 0 d x).now = doF d.now x := by
 show (d.ps ++ [x]).foldl doF (cntD d).S = _
 rw [List.foldl_append, cntD_S]
 rfl
theorem DkO.op {db sb nb : Nat} {d : Dk} {x : De} {so no : Obj} {pv : Value} {hr : Hp} (hok : d.ok) (hs : ¬ stopD d) (hfit : Fit d.now x) (h1 : FsO M so (cntD d).S) (h2 : FsO M no (doF d.now x)) (h3 : RowD M pv ((cntD d).ps ++ [x]) hr) : DkO M db (opD 0 d x) ((db, dkB d.room sb nb pv (cntD d).fuse false) :: (nb, no) :: (sb, so) :: hr) := by
 rw [cntD_ps] at h3
 refine ⟨opD_ok hok hfit, sb, nb, so, no, pv, hr, h1, by rw [opD_now]; exact h2, h3, ?_⟩
 rw [show (opD 0 d x).room = (cntD d).room from rfl, show (opD 0 d x).down = (cntD d).down from rfl, show (opD 0 d x).fuse = (cntD d).fuse from rfl, cntD_room, cntD_down hs]
theorem append_K {db : Nat} {d : Dk} {hp : Hp} {n b : Txt} {va : Value} (ho : DkO M db d hp) (hb : PlB M va b) (hbl : b.length ≤ 4611686018427387904) (hnl : n.length ≤ 4611686018427387904) (hlen : d.ps.length ≤ 1000000) : K Tryz.prog 24 [.pointer (some ⟨db, 0, none⟩), str n, va] M (hp ++ H) fun v' M' H' => v' = .int .i64 (appE d n b) ∧ M.le M' ∧ ∃ hp', DkO M' db (opD (appE d n b) d (.app n b)) hp' ∧ H' = hp' ++ H := by
 obtain ⟨A, c, rfl, hbc, hcc, hpl⟩ := hb
 refine K.enterK Tryz.func24 rfl rfl rfl ?_
 intro Q hNP hQ
 (repeat' (first | (refine a_go ?_; intros) | refine a_sp (fun h => ?_) fun h => ?_ | fail))
 (apply R.call; (exact a_evs); exact rfl); exact counts_KD ho; rintro _ M _ ⟨rfl, rfl, hp1, ho1, rfl, hdn⟩
 have hnn := ho.nodup
 have hok := ho.1
 clear ho
 by_cases hs : stopD d
 ·rw [decide_eq_true hs]
  have hE : appE d n b = 3 := if_pos hs
  rw [hE] at hQ
  (repeat' (first | (refine a_go ?_; intros) | refine a_sp (fun h => ?_) fun h => ?_ | fail))
  (refine Fin.rA (hp1 ++ H) ?_)
  exact ⟨rfl, Mem.le_refl _, hp1, ho1, rfl⟩
 rw [decide_eq_false hs]
 obtain ⟨hok1, sb, nb, so, no, pv, hr, h1, h2, h3, rfl⟩ := ho1
 rw [cntD_now] at h2
 rw [hdn hs, cntD_room]
 unfold dkB
 obtain ⟨l, hm, hfr, hn⟩ := h2.use
 have hg := hfr.get hn n
 (repeat' (first | (refine a_g0 ?_; intros) | refine a_s3 (fun h => ?_) fun h => ?_ | fail))
 (apply C.condF; exact rfl)
 (repeat' (first | (refine a_g0 ?_; intros) | refine a_s3 (fun h => ?_) fun h => ?_ | fail))
 (apply R.step; (apply Ok.lookupS (ho := hm); exact rfl; exact rfl; exact a_mm); exact rfl)
 (repeat' (first | (refine a_g0 ?_; intros) | refine a_s3 (fun h => ?_) fun h => ?_ | fail))
 have hsum := hok.sum
 have hroom := hok.1
 have hml : l.length = d.now.length := hfr.len
 apply C.seqCut (X := Unit) (fun _ => appE d n b = 0) (fun _ => [(0, .pointer (some ⟨db, 0, none⟩)), (1, str n), (2, .slice A b.length c)]) (fun _ => M) (fun _ => (db, .cells [.int .i64 d.room, .map (some sb), .map (some nb), pv, .int .i64 (cntD d).fuse, .bool false].toArray 107 (0, 0)) :: (nb, no) :: (sb, so) :: (hr ++ H))
 ·(repeat' (first | (refine a_go ?_; intros) | refine a_sp (fun h => ?_) fun h => ?_ | fail))
  (apply R.call; (exact a_evs); exact rfl); exact named_K (by omega); rintro _ M _ ⟨rfl, rfl, rfl⟩
  cases hnm : namedB n with
  | false =>
   have hE : appE d n b = 1 := (if_neg hs).trans (if_pos hnm)
   rw [hE] at hQ
   (repeat' (first | (refine a_go ?_; intros) | refine a_sp (fun h => ?_) fun h => ?_ | fail))
   (refine Fin.rA ((db, .cells [.int .i64 d.room, .map (some sb), .map (some nb), pv, .int .i64 (cntD d).fuse, .bool false].toArray 107 (0, 0)) :: (nb, no) :: (sb, so) :: (hr ++ H)) ?_)
   refine ⟨rfl, Mem.le_refl _, _, ⟨hok1, sb, nb, so, no, pv, hr, h1, ?_, h3, rfl⟩, ?_⟩
   ·rw [show (opD 1 d (De.app n b)).now = (cntD d).now from rfl, cntD_now]
    exact h2
   ·rw [show opD 1 d (De.app n b) = cntD d from rfl, cntD_room, hdn hs]
    rfl
  | true =>
   have hfull : (d.room < (sumF d.now + b.length : Nat) ∨ (getS d.now n = none ∧ 64 ≤ d.now.length)) → appE d n b = 2 := fun h => (if_neg hs).trans ((if_neg (by rw [hnm]; decide)).trans (if_pos h))
   have hdone : ∀ H', H' = (db, dkB d.room sb nb pv (cntD d).fuse false) :: (nb, no) :: (sb, so) :: (hr ++ H) → appE d n b = 2 → ∃ hp', DkO M db (opD (appE d n b) d (.app n b)) hp' ∧ H' = hp' ++ H := fun H' hH hE => by
    rw [hE, show opD 2 d (De.app n b) = cntD d from rfl]
    refine ⟨_, ⟨hok1, sb, nb, so, no, pv, hr, h1, by rw [cntD_now]; exact h2, h3, rfl⟩, ?_⟩
    rw [cntD_room, hdn hs]
    exact hH
   (repeat' (first | (refine a_go ?_; intros) | refine a_sp (fun h => ?_) fun h => ?_ | fail))
   (apply C.regionO (ks := [1, 1, 1, 1, 1, 1, 1, 0, 1, 1, 1]) (is := [0, 2, 3, 5, 6, 7, 8, 1, 4, 9, 10]) (Hs := [(db, .cells [.int .i64 d.room, .map (some sb), .map (some nb), pv, .int .i64 (cntD d).fuse, .bool false].toArray 107 (0, 0)), (nb, no)]); exact Mix.h; (first | exact Arr.all _ | (exact a_arr)); (exact a_np); (exact a_picked); kernel_rfl; intro _ e; subst e)
   (repeat' (first | refine a_op ?_ | (apply RP.callQ; (exact a_evs); exact rfl)))
   (apply RP.eff; intro Kc hKc ops0)
   (apply R.call; (exact a_evs); exact rfl; exact used_K (down := false) h2 (by omega); rintro _ M _ ⟨rfl, rfl, rfl⟩)
   (apply R.nil; apply Fin.kp hKc; exact Mem.le_refl _; exact Arr.all _)
   rw [show usedD false d.now = sumF d.now from rfl]
   (repeat' (first | refine a_op ?_ | (apply RP.callQ; (exact a_evs); exact rfl)))
   (first | apply RP.nil0 | apply RP.nil)
   obtain ⟨g1, g2⟩ := hg
   rw [g2]
   (repeat' (first | refine a_mv ?_ | (apply R.step; (apply Ok.lenM (ho := hm); exact rfl; exact a_mm); exact rfl) | (refine a_go ?_; intros) | refine a_sp (fun h => ?_) fun h => ?_ | fail))
   ·have h : d.room < (sumF d.now : Int) + (b.length : Int) := by assumption
    have hE := hfull (.inl (by omega))
    (refine Fin.rA ((db, dkB d.room sb nb pv (cntD d).fuse false) :: (nb, no) :: (sb, so) :: (hr ++ H)) ?_)
    exact ⟨by rw [hE], Mem.le_refl _, hdone _ rfl hE⟩
   ·exfalso
    have h5 : d.room < (sumF d.now : Int) + (b.length : Int) := by assumption
    have h6 : ¬ d.room < (sumF d.now : Int) + (b.length : Int) := by assumption
    exact h6 h5
   ·have h : (64 : Int) ≤ (l.length : Int) := by assumption
    have h5 : (getS d.now n).isSome = false := by assumption
    have hE := hfull (.inr ⟨by (revert h5; cases getS d.now n; exact fun _ => rfl; intro h7; cases h7), by omega⟩)
    (refine Fin.rA ((db, dkB d.room sb nb pv (cntD d).fuse false) :: (nb, no) :: (sb, so) :: (hr ++ H)) ?_)
    exact ⟨by rw [hE], Mem.le_refl _, hdone _ rfl hE⟩
   ·have h : ¬ (64 : Int) ≤ (l.length : Int) := by assumption
    have h5 : ¬ d.room < (sumF d.now : Int) + (b.length : Int) := by assumption
    have hE : appE d n b = 0 := (if_neg hs).trans ((if_neg (by rw [hnm]; decide)).trans (if_neg (fun h6 => by
     rcases h6 with h6 | h6
     ·exact h5 (by omega)
     ·exact h (by have := h6.2; omega))))
    refine Fin.join () hE ?_ rfl rfl
    (exact a_subs)
   ·have h : (getS d.now n).isSome = true := by assumption
    have h5 : ¬ d.room < (sumF d.now : Int) + (b.length : Int) := by assumption
    have hE : appE d n b = 0 := (if_neg hs).trans ((if_neg (by rw [hnm]; decide)).trans (if_neg (fun h6 => by
     rcases h6 with h6 | h6
     ·exact h5 (by omega)
     ·rw [h6.1] at h; cases h)))
    refine Fin.join () hE ?_ rfl rfl
    (exact a_subs)
 ·intro _ hE
  obtain ⟨q0, q1, q2⟩ := app0 hE
  (repeat' (first | (refine a_go ?_; intros) | refine a_sp (fun h => ?_) fun h => ?_ | fail))
  (apply R.append (news := b.map bv); exact rfl; exact rfl; exact Own.empty; (exact a_tk); exact Pl.rd hpl; (rw [List.length_map, Nat.mul_one]); exact bv_one _; omega; exact rfl; decide; decide; exact rfl; rintro v4 hp4 hown4)
  rw [List.nil_append, Nat.zero_add] at hown4
  (apply R.ice (hp := hp4) (Arr.all _); intro M2 hM2 hin)
  have hb4 := hown4.plB hin
  obtain ⟨A4, c4, rfl, _, _⟩ := hown4.form
  (repeat' (first | (refine a_go ?_; intros) | refine a_sp (fun h => ?_) fun h => ?_ | fail))
  have hfit := app_fit (b := b) (n := n) hnn (by omega)
  (apply R.call; (exact a_evs); exact rfl; (apply K.arr (h := put_K (db := db) (sb := sb) (nb := nb) (room := d.room) (fuse := (cntD d).fuse) (down := false) (H := (sb, so) :: H) (x := .app n b) (h2.mono hM2) (h3.mono hM2) ⟨_, rfl, hb4⟩ hfit (by rw [cntD_ps]; exact hlen))); (exact a_arrs); rintro _ M3 _ ⟨rfl, hM3, pv', hp', no', f1, f2, rfl⟩)
  (repeat' (first | (refine a_go ?_; intros) | refine a_sp (fun h => ?_) fun h => ?_ | fail))
  (refine Fin.rA ((db, dkB d.room sb nb pv' (cntD d).fuse false) :: (nb, no') :: (sb, so) :: (hp' ++ H)) ?_)
  exact ⟨by rw [hE], hM2.trans_ hM3, _, by rw [hE]; exact DkO.op (sb := sb) (nb := nb) hok hs hfit ((h1.mono hM2).mono hM3) f1 f2, rfl⟩
theorem sumF_del {F : Fs} {n : Txt} (hn : (keyS F).Nodup) : sumF (delS F n) + (fileD F n).length = sumF F := by
 by_cases h : n ∈ keyS F
 ·obtain ⟨p, hp, rfl⟩ := List.mem_map.1 h
  obtain ⟨l1, l2, rfl⟩ := List.append_of_mem hp
  have hg : fileD (l1 ++ p :: l2) p.1 = p.2 := by
   unfold fileD
   rw [show l1 ++ p :: l2 = l1 ++ (p.1, p.2) :: l2 from rfl, getS_some (keyS_mid hn).1]
   rfl
  rw [hg, show l1 ++ p :: l2 = l1 ++ (p.1, p.2) :: l2 from rfl, delS_some hn]
  unfold sumF
  simp only [List.map_append, List.map_cons, List.sum_append, List.sum_cons]
  omega
 ·have hg : fileD F n = [] := by
   unfold fileD
   rw [getS_none h]
   rfl
  rw [hg, delS_none h]
  rfl
theorem rem_fit {F : Fs} {n : Txt} (hn : (keyS F).Nodup) (h : sumF F ≤ 1048576) : Fit F (.rem n) := by
 refine ⟨?_, trivial⟩
 have := sumF_del (n := n) hn
 show sumF (delS F n) ≤ _
 omega
theorem trc_fit {F : Fs} {n : Txt} {k : Nat} (hn : (keyS F).Nodup) (h : sumF F ≤ 1048576) (hk : k ≤ (fileD F n).length) : Fit F (.trc n k) := by
 refine ⟨?_, hk⟩
 have := sumF_put (b := (fileD F n).take k) (n := n) hn
 rw [List.length_take] at this
 show sumF (putS F n ((fileD F n).take k)) ≤ _
 omega
def remE (d : Dk) (n : Txt) : Int := if stopD d then 3 else if getS d.now n = none then 4 else 0
def trcE (d : Dk) (n : Txt) (k : Int) : Int := if stopD d then 3 else if getS d.now n = none then 4 else if k < 0 ∨ ((fileD d.now n).length : Int) < k then 1 else 0
theorem is_none {α : Type} {x : Option α} (h : x.isSome = false) : x = none := by
 cases x with
 | none => rfl
 | some _ => cases h
theorem is_some {α : Type} {x : Option α} (h : x.isSome = true) : x ≠ none := by
 cases x with
 | none => cases h
 | some _ => exact fun e => by cases e
theorem opD_no {d : Dk} {x : De} {e : Int} (h : e ≠ 0) : opD e d x = cntD d := if_neg h
theorem DkO.no {db sb nb : Nat} {d : Dk} {x : De} {e : Int} {so no : Obj} {pv : Value} {hr : Hp} (he : e ≠ 0) (hok : (cntD d).ok) (hs : ¬ stopD d) (h1 : FsO M so (cntD d).S) (h2 : FsO M no d.now) (h3 : RowD M pv (cntD d).ps hr) : DkO M db (opD e d x) ((db, dkB d.room sb nb pv (cntD d).fuse false) :: (nb, no) :: (sb, so) :: hr) := by
 rw [opD_no he]
 refine ⟨hok, sb, nb, so, no, pv, hr, h1, by rw [cntD_now]; exact h2, h3, ?_⟩
 rw [cntD_room, cntD_down hs]
theorem remove_K {db : Nat} {d : Dk} {hp : Hp} {n : Txt} (ho : DkO M db d hp) (hlen : d.ps.length ≤ 1000000) : K Tryz.prog 79 [.pointer (some ⟨db, 0, none⟩), str n] M (hp ++ H) fun v' M' H' => v' = .int .i64 (remE d n) ∧ M.le M' ∧ ∃ hp', DkO M' db (opD (remE d n) d (.rem n)) hp' ∧ H' = hp' ++ H := by
 refine K.enterK Tryz.func79 rfl rfl rfl ?_
 intro Q hNP hQ
 (repeat' (first | (refine a_go ?_; intros) | refine a_sp (fun h => ?_) fun h => ?_ | fail))
 (apply R.call; (exact a_evs); exact rfl); exact counts_KD ho; rintro _ M _ ⟨rfl, rfl, hp1, ho1, rfl, hdn⟩
 have hnn := ho.nodup
 have hok := ho.1
 clear ho
 by_cases hs : stopD d
 ·rw [decide_eq_true hs]
  have hE : remE d n = 3 := if_pos hs
  rw [hE] at hQ
  (repeat' (first | (refine a_go ?_; intros) | refine a_sp (fun h => ?_) fun h => ?_ | fail))
  (refine Fin.rA (hp1 ++ H) ?_)
  exact ⟨rfl, Mem.le_refl _, hp1, ho1, rfl⟩
 rw [decide_eq_false hs]
 obtain ⟨hok1, sb, nb, so, no, pv, hr, h1, h2, h3, rfl⟩ := ho1
 rw [cntD_now] at h2
 rw [hdn hs, cntD_room]
 unfold dkB
 obtain ⟨l, hm, hfr, hn⟩ := h2.use
 have hg := (hfr.get hn n).2
 (repeat' (first | refine a_mv ?_ | (apply R.step; (apply Ok.lookupS (ho := hm); exact rfl; exact rfl; exact a_mm); exact rfl) | (refine a_go ?_; intros) | refine a_sp (fun h => ?_) fun h => ?_ | fail))
 ·have h : (getS l n).isSome = false := by assumption
  have hE : remE d n = 4 := (if_neg hs).trans (if_pos (is_none (by rw [← hg]; exact h)))
  rw [hE] at hQ
  (refine Fin.rA ((db, dkB d.room sb nb pv (cntD d).fuse false) :: (nb, no) :: (sb, so) :: (hr ++ H)) ?_)
  exact ⟨rfl, Mem.le_refl _, _, DkO.no (sb := sb) (nb := nb) (by decide) hok1 hs h1 h2 h3, rfl⟩
 have h : (getS l n).isSome = true := by assumption
 have hE : remE d n = 0 := (if_neg hs).trans (if_neg (is_some (by rw [← hg]; exact h)))
 rw [hE] at hQ
 have hfit := rem_fit (n := n) hnn hok.sum
 (apply R.call; (exact a_evs); exact rfl; (apply K.arr (h := put_K (db := db) (sb := sb) (nb := nb) (room := d.room) (fuse := (cntD d).fuse) (down := false) (H := (sb, so) :: H) (x := .rem n) h2 h3 rfl hfit (by rw [cntD_ps]; exact hlen))); (exact a_arrs); rintro _ M3 _ ⟨rfl, hM3, pv', hp', no', f1, f2, rfl⟩)
 (repeat' (first | (refine a_go ?_; intros) | refine a_sp (fun h => ?_) fun h => ?_ | fail))
 (refine Fin.rA ((db, dkB d.room sb nb pv' (cntD d).fuse false) :: (nb, no') :: (sb, so) :: (hp' ++ H)) ?_)
 exact ⟨rfl, hM3, _, DkO.op (sb := sb) (nb := nb) hok hs hfit (h1.mono hM3) f1 f2, rfl⟩
def synE (d : Dk) : Int := if stopD d then 3 else 0
def synD (d : Dk) : Dk := if stopD d then cntD d else { cntD d with S := d.now, ps := [] }
theorem sync_K {db : Nat} {d : Dk} {hp : Hp} (ho : DkO M db d hp) : K Tryz.prog 26 [.pointer (some ⟨db, 0, none⟩)] M (hp ++ H) fun v' M' H' => v' = .int .i64 (synE d) ∧ M' = M ∧ ∃ hp', DkO M db (synD d) hp' ∧ H' = hp' ++ H := by
 refine K.enterK Tryz.func26 rfl rfl rfl ?_
 intro Q hNP hQ
 (repeat' (first | (refine a_go ?_; intros) | refine a_sp (fun h => ?_) fun h => ?_ | fail))
 (apply R.call; (exact a_evs); exact rfl); exact counts_KD ho; rintro _ M _ ⟨rfl, rfl, hp1, ho1, rfl, hdn⟩
 have hok := ho.1
 clear ho
 by_cases hs : stopD d
 ·rw [decide_eq_true hs]
  have hE : synE d = 3 := if_pos hs
  have hD : synD d = cntD d := if_pos hs
  rw [hE, hD] at hQ
  (repeat' (first | (refine a_go ?_; intros) | refine a_sp (fun h => ?_) fun h => ?_ | fail))
  (refine Fin.rA (hp1 ++ H) ?_)
  exact ⟨rfl, rfl, hp1, ho1, rfl⟩
 rw [decide_eq_false hs]
 obtain ⟨hok1, sb, nb, so, no, pv, hr, h1, h2, h3, rfl⟩ := ho1
 rw [cntD_now] at h2
 have hE : synE d = 0 := if_neg hs
 have hD : synD d = { cntD d with S := d.now, ps := [] } := if_neg hs
 rw [hE, hD] at hQ
 (repeat' (first | (refine a_go ?_; intros) | refine a_sp (fun h => ?_) fun h => ?_ | fail))
 (apply R.call; (exact a_evs); exact rfl; (apply K.arr (h := settle_K (db := db) (sb := sb) (nb := nb) (room := (cntD d).room) (fuse := (cntD d).fuse) (down := (cntD d).down) (pv := pv) (H := H) h2)); (exact a_arrs); rintro _ M _ ⟨rfl, rfl, sb', so', f1, rfl⟩)
 (repeat' (first | (refine a_go ?_; intros) | refine a_sp (fun h => ?_) fun h => ?_ | fail))
 (refine Fin.rA ((db, dkB (cntD d).room sb' nb (.slice none 0 0) (cntD d).fuse (cntD d).down) :: (nb, no) :: (sb', so') :: H) ?_)
 refine ⟨rfl, rfl, (db, dkB (cntD d).room sb' nb (.slice none 0 0) (cntD d).fuse (cntD d).down) :: (nb, no) :: (sb', so') :: [], ⟨⟨hok1.1, hok1.2.1, hok.sum, trivial⟩, sb', nb, so', no, .slice none 0 0, [], f1, h2, RowD.nil, rfl⟩, rfl⟩
def readD (d : Dk) (n : Txt) : Option Txt := if d.down then none else getS d.now n
theorem dread_K {db : Nat} {d : Dk} {hp : Hp} {n : Txt} (ho : DkO M db d hp) : K Tryz.prog 83 [.pointer (some ⟨db, 0, none⟩), str n] M (hp ++ H) fun v' M' H' => ∃ v hv, v' = .tuple #[v, .bool (readD d n).isSome] ∧ Own 5 1 v ((readD d n).getD []).length (((readD d n).getD []).map bv) hv ∧ M' = M ∧ H' = hv ++ (hp ++ H) := by
 have hsum := ho.1.sum
 obtain ⟨hok, sb, nb, so, no, pv, hr, h1, h2, h3, rfl⟩ := ho
 obtain ⟨l, hm, hfr, hn⟩ := h2.use
 obtain ⟨⟨A1, c1, e1, hl1, hl2, hpl⟩, hg⟩ := hfr.get hn n
 have hfl : (fileD d.now n).length ≤ 1048576 := Nat.le_trans fileD_len hsum
 refine K.enterK Tryz.func83 rfl rfl rfl ?_
 intro Q hNP hQ
 have hnone : readD d n = none → ∀ H', H' = (db, dkB d.room sb nb pv d.fuse d.down) :: (nb, no) :: (sb, so) :: (hr ++ H) → ∃ v hv, Value.tuple #[.slice none 0 0, .bool false] = .tuple #[v, .bool (readD d n).isSome] ∧ Own 5 1 v ((readD d n).getD []).length (((readD d n).getD []).map bv) hv ∧ M = M ∧ H' = hv ++ ((db, dkB d.room sb nb pv d.fuse d.down) :: (nb, no) :: (sb, so) :: hr ++ H) := fun h H' hH => by
  rw [h]
  exact ⟨_, [], rfl, Own.nil _ _, rfl, hH⟩
 unfold dkB
 (repeat' (first | refine a_mv ?_ | (apply R.step; (apply Ok.lookupS (ho := hm); exact rfl; exact rfl; exact a_mm); exact rfl) | (refine a_go ?_; intros) | refine a_sp (fun h => ?_) fun h => ?_ | fail))
 ·have h : (getS l n).isSome = false := by assumption
  have hE : readD d n = none := by
   unfold readD
   rw [is_none (hg.symm.trans h)]
   split <;> rfl
  (refine Fin.rA ((db, dkB d.room sb nb pv d.fuse d.down) :: (nb, no) :: (sb, so) :: (hr ++ H)) ?_)
  exact hnone hE _ rfl
 ·have h : d.down = true := by assumption
  have hE : readD d n = none := if_pos h
  (refine Fin.rA ((db, dkB d.room sb nb pv d.fuse d.down) :: (nb, no) :: (sb, so) :: (hr ++ H)) ?_)
  exact hnone hE _ rfl
 have h : (getS l n).isSome = true := by assumption
 have h5 : d.down = false := by assumption
 have hE : readD d n = some (fileD d.now n) := by
  unfold readD fileD
  rw [h5]
  obtain ⟨b, hb⟩ := Option.isSome_iff_exists.1 (hg.symm.trans h)
  rw [hb]
  rfl
 rw [e1]
 (repeat' (first | (refine a_go ?_; intros) | refine a_sp (fun h => ?_) fun h => ?_ | fail))
 (apply R.append (news := (fileD d.now n).map bv); exact rfl; exact rfl; exact Own.empty; (exact a_tk); exact Pl.rd hpl; (rw [List.length_map, Nat.mul_one]); exact bv_one _; omega; exact rfl; decide; decide; exact rfl; rintro v4 hp4 hown4)
 rw [List.nil_append, Nat.zero_add] at hown4
 (repeat' (first | (refine a_go ?_; intros) | refine a_sp (fun h => ?_) fun h => ?_ | fail))
 (refine Fin.rA (hp4 ++ ((db, dkB d.room sb nb pv d.fuse d.down) :: (nb, no) :: (sb, so) :: (hr ++ H))) ?_)
 exact ⟨v4, hp4, by rw [hE]; rfl, by rw [hE]; exact hown4, rfl, rfl⟩
def PlD (M : Mem) (A : Option Addr) (ps : List De) : Prop := ∃ cs : List (List Value), Pl M A cs.flatten ∧ cs.length = ps.length ∧ ∀ (i : Nat) (x : De) (c : List Value), ps[i]? = some x → cs[i]? = some c → DeC M x c
theorem RowD.form {v : Value} {ps : List De} {hp : Hp} (h : RowD M v ps hp) : ∃ A cap, v = .slice A ps.length cap ∧ ps.length ≤ cap ∧ cap ≤ maxLen := by
 unfold RowD at h
 obtain ⟨cs, h1, _⟩ := h
 exact h1.form
theorem RowD.pl {A : Option Addr} {cap : Nat} {ps : List De} {hp : Hp} (h : RowD M (.slice A ps.length cap) ps hp) (hM : M.le M') (hi : In M' hp) : PlD M' A ps := by
 unfold RowD at h
 obtain ⟨cs, h1, h2, h3⟩ := h
 exact ⟨cs, h1.plIn hi, h2, fun i x c hx hc => (h3 i x c hx hc).mono hM⟩
theorem PlD.mono {A : Option Addr} {ps : List De} (hM : M.le M') (h : PlD M A ps) : PlD M' A ps := by
 obtain ⟨cs, h1, h2, h3⟩ := h
 exact ⟨cs, h1.mono hM, h2, fun i x c hx hc => (h3 i x c hx hc).mono hM⟩
theorem PlD.at {A : Option Addr} {ps : List De} (h : PlD M A ps) {i : Nat} (hi : i < ps.length) : ∃ b o c e fr d, A = some ⟨b, o, none⟩ ∧ M.at_ b = some (.cells c e fr) ∧ DeC M ps[i] d ∧ ∀ (q : Nat) u, d[q]? = some u → c[o + i * 5 + q]? = some u := by
 obtain ⟨cs, h1, h2, h3⟩ := h
 have hic : i < cs.length := by omega
 have hd := h3 i _ _ (List.getElem?_eq_getElem hi) (List.getElem?_eq_getElem hic)
 have hall : ∀ c ∈ cs, c.length = 5 := fun c hc => by
  obtain ⟨j, hj, rfl⟩ := List.mem_iff_getElem.1 hc
  exact (h3 j _ _ (List.getElem?_eq_getElem (by omega)) (List.getElem?_eq_getElem hj)).cells.1
 have hfl : ∀ (q : Nat) (u : Value), (cs[i])[q]? = some u → cs.flatten[i * 5 + q]? = some u := fun q u hq => rows_get hall hic hq
 have h0 : (cs[i])[0]? = some ((cs[i])[0]'(by rw [hall _ (List.getElem_mem hic)]; decide)) := List.getElem?_eq_getElem _
 obtain ⟨b, o, c, e, fr, g1, g2, _⟩ := h1.get (hfl 0 _ h0)
 refine ⟨b, o, c, e, fr, cs[i], g1, g2, hd, fun q u hq => ?_⟩
 obtain ⟨b', o', c', e', fr', g1', g2', g3'⟩ := h1.get (hfl q u hq)
 rw [g1] at g1'
 cases g1'
 rw [g2] at g2'
 cases g2'
 rw [Nat.add_assoc]
 exact g3'
end Go.Sx
end
section
namespace Go.Sx
open Go Go.Proofs Go.RowKit
attribute [local irreducible] C R Fin K Own OwnT Rd Pl Ok KOf RetOk OpsOf RP KP Res NoPanic KV KE MapS ItS EntS FsO FsR RowD PlD
variable {M M' : Mem} {H H1 H2 : Hp}
theorem DkO.isok {db : Nat} {d : Dk} {hp : Hp} (h : DkO M db d hp) : d.ok := h.1
end Go.Sx
end
section
namespace Go.Sx
open Go Go.Proofs Go.RowKit
attribute [local irreducible] C R Fin K Own OwnT Rd Pl Ok KOf RetOk OpsOf RP KP Res NoPanic KV KE MapS ItS EntS FsO FsR RowD PlD DkO
variable {M M' : Mem} {H H1 H2 : Hp}
theorem frame_KF {A : Option Addr} {cap m : Nat} {bs : List UInt8} (hpl : Pl M A (bs.map bv)) (hm : bs.length = m) (hb : m ≤ 140737488351232) : K Tryz.prog 76 [.slice A m cap] M H fun v M' H' =>
  PlB M' v (frameS bs) ∧ M.le M' ∧ H' = H := by
 subst hm
 refine (frame_K hpl hb).freezeT ?_
 rintro v M' H' ⟨hp, h1, rfl, rfl⟩
 exact ⟨hp, _, Arr.all _, fun M2 hM2 hin => ⟨h1.plB hin, hM2, rfl⟩⟩
theorem opD_ps (d : Dk) (e : Int) (x : De) : (opD e d x).ps.length ≤ d.ps.length + 1 := by
 unfold opD
 split
 ·show (d.ps ++ [x]).length ≤ _
  rw [List.length_append]
  exact Nat.le_refl _
 ·rw [cntD_ps]
  omega
theorem readD_len {d : Dk} (h : d.ok) (n : Txt) : ((readD d n).getD []).length ≤ 1048576 := by
 unfold readD
 split
 ·exact Nat.zero_le _
 ·exact Nat.le_trans fileD_len h.sum
end Go.Sx
end
section
namespace Go.Sx
open Go Go.Proofs Go.RowKit
attribute [local irreducible] C R Fin K Own OwnT Rd Pl Ok KOf RetOk OpsOf RP KP Res NoPanic KV KE MapS ItS EntS FsO FsR RowD PlD DkO RT KT OneT RS KS OneS
variable {M M' : Mem} {H H1 H2 : Hp}
noncomputable def goF (prev : Option En) (first : Nat) : List Txt → List (En × Nat) → List (En × Nat) × Bool
 | [], it => (it, true)
 | r :: rs, it => match readE r with
  | none => (it, false)
  | some e => if fitS prev first (it.map Prod.fst) e then goF prev first rs (it ++ [(e, 8 + r.length)]) else (it, false)
theorem goF_none {prev : Option En} {first : Nat} {r : Txt} {rs : List Txt} {it : List (En × Nat)} (h : readE r = none) : goF prev first (r :: rs) it = (it, false) := by rw [goF, h]
theorem goF_no {prev : Option En} {first : Nat} {r : Txt} {rs : List Txt} {it : List (En × Nat)} {e : En} (h : readE r = some e) (hf : ¬ fitS prev first (it.map Prod.fst) e) : goF prev first (r :: rs) it = (it, false) := by rw [goF, h]; exact if_neg hf
theorem goF_some {prev : Option En} {first : Nat} {r : Txt} {rs : List Txt} {it : List (En × Nat)} {e : En} (h : readE r = some e) (hf : fitS prev first (it.map Prod.fst) e) : goF prev first (r :: rs) it = goF prev first rs (it ++ [(e, 8 + r.length)]) := by rw [goF, h]; exact if_pos hf
noncomputable def readF (prev : Option En) (first : Nat) (b : Txt) : List (En × Nat) × Bool :=
 ((goF prev first (framesF b.length b) []).1, (goF prev first (framesF b.length b) []).2 && decide (((goF prev first (framesF b.length b) []).1.map Prod.snd).sum = b.length ∧ 0 < (goF prev first (framesF b.length b) []).1.length))
theorem readE_ok {x : Txt} {e : En} (h : readE x = some e) : entS e := by
 unfold readE at h
 split at h
 ·cases h
 ·unfold readG at h
  split at h
  ·rename_i h1
   cases h
   exact h1.2
  ·cases h
structure RdS where
 it : List (En × Nat)
 lv : Value
 ev : Value
 lh : Hp
 eh : Hp
 brk : Bool
 M : Mem
def RdS.pt (f : Nat) (s : RdS) : PtV := ⟨⟨f, s.it⟩, s.lv, s.ev, s.lh, s.eh⟩
def goodR (f : Nat) (s : RdS) : Prop := PtO s.M (s.pt f) ∧ ∀ e ∈ (s.pt f).s.es, entS e
def RdSt (prev : Option En) (f : Nat) (s : RdS) (r : Txt) (b : Bool) (s1 : RdS) : Prop := s.M.le s1.M ∧ goodR f s1 ∧
 ((b = false ∧ s1.it = s.it ∧ s1.brk = true ∧ ∀ rs, goF prev f (r :: rs) s.it = (s.it, false)) ∨ (b = true ∧ s1.brk = false ∧ ∃ e, readE r = some e ∧ fitS prev f (s.it.map Prod.fst) e ∧ s1.it = s.it ++ [(e, 8 + r.length)]))
theorem told_rd {prev : Option En} {f : Nat} {s0 : RdS} (h0 : s0.brk = false ∧ s0.it = []) (g0 : goodR f s0) {pre : List Txt} {s : RdS} (h : Told (RdSt prev f) s0 pre s) : s0.M.le s.M ∧ s.brk = false ∧ goodR f s ∧ (s.it.map Prod.snd).sum = endS pre ∧ s.it.length = pre.length ∧ ∀ rest, goF prev f (pre ++ rest) [] = goF prev f rest s.it := by
 induction h with
 | nil => exact ⟨Mem.le_refl _, h0.1, g0, by rw [h0.2]; rfl, by rw [h0.2]; rfl, fun _ => by rw [h0.2]; rfl⟩
 | more _ hs ih =>
  obtain ⟨i1, i2, i3, i4, i5, i6⟩ := ih
  obtain ⟨h1, h2, ⟨h3, _⟩ | ⟨_, h3, e, h4, h5, h6⟩⟩ := hs
  ·cases h3
  ·refine ⟨i1.trans_ h1, h3, h2, ?_, ?_, fun rest => ?_⟩
   ·rw [h6, List.map_append, List.sum_append, i4, endS_append]
    simp [endS]
   ·rw [h6, List.length_append, List.length_append, i5]
    rfl
   ·rw [List.append_assoc, i6]
    show goF prev f (_ :: rest) _ = _
    rw [goF_some h4 h5, h6]
theorem ends_rd {prev : Option En} {f : Nat} {s0 : RdS} (h0 : s0.brk = false ∧ s0.it = []) (g0 : goodR f s0) {l : List Txt} {s : RdS} (h : Ends (RdSt prev f) s0 l s) : s0.M.le s.M ∧ goodR f s ∧ goF prev f l [] = (s.it, !s.brk) := by
 rcases h with h | ⟨pre, r, rest, s1, rfl, h, hs⟩
 ·obtain ⟨i1, i2, i3, _, _, i6⟩ := told_rd h0 g0 h
  have := i6 []
  rw [List.append_nil] at this
  refine ⟨i1, i3, ?_⟩
  rw [this, i2]
  rfl
 ·obtain ⟨i1, _, _, _, _, i6⟩ := told_rd h0 g0 h
  obtain ⟨h1, h2, ⟨_, h4, h5, h6⟩ | ⟨h3, _⟩⟩ := hs
  ·refine ⟨i1.trans_ h1, h2, ?_⟩
   rw [i6, h6, h4, h5]
   rfl
  ·cases h3
theorem fits_KL {lb db : Nat} {lim : Int} {ss : List Sg} {p : PtV} {e : En} {v : Value} {hL : Hp} (hg : SgO M lb db lim ss hL) (hok : sgsOk ss) (hp : PtO M p) (hes : ∀ a ∈ p.s.es, entS a) (he : entS e) (hv : PlB M v e.data) : K Tryz.prog 86 [.pointer (some ⟨lb, 0, none⟩), .agg (ptC p).toArray, eV e v] M (hL ++ ((p.lh ++ p.eh) ++ H)) fun v' M' H' => v' = .bool (decide (fitS (lastO ss) p.s.first p.s.es e)) ∧ M' = M ∧ H' = hL ++ ((p.lh ++ p.eh) ++ H) := by
 have h := K.lendsR (M := M) (H := hL ++ ((p.lh ++ p.eh) ++ H)) (H1 := H) (hrow := hL ++ (p.lh ++ p.eh)) (f := 86) (args := [.pointer (some ⟨lb, 0, none⟩), .agg (ptC p).toArray, eV e v]) (P := fun v' => v' = .bool (decide (fitS (lastO ss) p.s.first p.s.es e))) (by (exact a_arrs)) (fun M2 hM2 hin => by
  have h1 := hg.sgP hM2 hin.left
  obtain ⟨h2, B, ce, hev, _⟩ := hp.ptP hM2 hin.right
  obtain ⟨A, c, e1, _⟩ := hv
  subst e1
  exact fits_K h1 hok hes he h2 hev)
 refine h.mono ?_
 rintro v' M' H' ⟨h1, h2, h3⟩
 exact ⟨h1, h2, by rw [h3, List.append_assoc]⟩
theorem fits_KLT {lb db : Nat} {lim : Int} {ss : List Sg} {p : PtV} {e : En} {v : Value} {hL : Hp} (hg : SgO M lb db lim ss hL) (hok : sgsOk ss) (hp : PtO M p) (hes : ∀ a ∈ p.s.es, entS a) (he : entS e) (hv : PlB M v e.data) (hf : fitS (lastO ss) p.s.first p.s.es e) : K Tryz.prog 86 [.pointer (some ⟨lb, 0, none⟩), .agg (ptC p).toArray, eV e v] M (hL ++ ((p.lh ++ p.eh) ++ H)) fun v' M' H' => v' = .bool true ∧ M' = M ∧ H' = hL ++ ((p.lh ++ p.eh) ++ H) := by
 have h := fits_KL (H := H) hg hok hp hes he hv
 rw [decide_eq_true hf] at h
 exact h
theorem fits_KLF {lb db : Nat} {lim : Int} {ss : List Sg} {p : PtV} {e : En} {v : Value} {hL : Hp} (hg : SgO M lb db lim ss hL) (hok : sgsOk ss) (hp : PtO M p) (hes : ∀ a ∈ p.s.es, entS a) (he : entS e) (hv : PlB M v e.data) (hf : ¬ fitS (lastO ss) p.s.first p.s.es e) : K Tryz.prog 86 [.pointer (some ⟨lb, 0, none⟩), .agg (ptC p).toArray, eV e v] M (hL ++ ((p.lh ++ p.eh) ++ H)) fun v' M' H' => v' = .bool false ∧ M' = M ∧ H' = hL ++ ((p.lh ++ p.eh) ++ H) := by
 have h := fits_KL (H := H) hg hok hp hes he hv
 rw [decide_eq_false hf] at h
 exact h
theorem sread_K {lb db : Nat} {d : Dk} {lim : Int} {ss : List Sg} {f : Nat} {hL hp : Hp} (hg : SgO M lb db lim ss hL) (hok : sgsOk ss) (ho : DkO M db d hp) (hf : f ≤ 72057594037927935) : K Tryz.prog 37 [.pointer (some ⟨lb, 0, none⟩), .int .u64 (f : Int)] M (hL ++ (hp ++ H)) fun v' M' H' => ∃ p : PtV, v' = .tuple #[.agg (ptC p).toArray, .bool (readF (lastO ss) f ((readD d (nameS f)).getD [])).2] ∧ PtO M' p ∧ p.s.first = f ∧ p.s.it = (readF (lastO ss) f ((readD d (nameS f)).getD [])).1 ∧ (∀ e ∈ p.s.es, entS e) ∧ M.le M' ∧ H' = (p.lh ++ p.eh) ++ (hL ++ (hp ++ H)) := by
 refine K.enterM Tryz.func37 rfl rfl rfl ?_
 intro Q hNP hQ
 have hgO := hg
 obtain ⟨ps, pv, hrow, hss, hrw, hpt, rfl⟩ := hgO
 obtain ⟨Ap, cpp, rfl, pc1, pc2⟩ := hrw.form
 (repeat' (first | (refine a_gn ?_; intros) | refine a_sp (fun h => ?_) fun h => ?_ | fail))
 ((apply R.box; exact rfl; (simp only [Value.cells]; rfl); exact rfl); intro b2)
 (repeat' (first | (refine a_gn ?_; intros) | refine a_sp (fun h => ?_) fun h => ?_ | fail))
 ((apply R.alloc; (simp only [Value.cells]; rfl); exact rfl); intro b4)
 (repeat' (first | (refine a_gn ?_; intros) | refine a_sp (fun h => ?_) fun h => ?_ | fail))
 ((apply R.alloc; (simp only [Value.cells]; rfl); exact rfl); intro b5)
 (repeat' (first | (refine a_gn ?_; intros) | refine a_sp (fun h => ?_) fun h => ?_ | fail))
 ((apply R.alloc; (simp only [Value.cells]; rfl); exact rfl); intro b6)
 (repeat' (first | (refine a_bz ?_; intro bz) | (refine a_bx ?_; intro bx) | (refine a_ba ?_; intro ba) | (refine a_bl ?_; intro bl) | (refine a_go ?_; intros) | refine a_sp (fun h => ?_) fun h => ?_ | fail))
 (apply C.regionT (t := .free 0 (.free 1 (.free 2 (.free 3 (.free 4 (.free 5 (.one 6 (.free 7 (.free 8 (.free 9 (.free 10 (.free 11 .nil)))))))))))) (Hs := [(b2, .cells [.pointer (some ⟨lb, 0, none⟩)].toArray 43 (0, 0)), (lb, .cells [.pointer (some ⟨db, 0, none⟩), .int .i64 lim, .slice Ap ps.length cpp].toArray 78 (0, 0))]); exact Mix.h; (first | exact Arr.all _ | (exact a_arr) | (exact a_arrs)); (exact a_np); kernel_rfl)
 (repeat' (first | (apply RT.step; exact rfl; intro _ _ _; (apply Ok.move; exact rfl); exact rfl) | (apply RT.callQ; exact rfl; exact inferInstance; (exact a_evs); exact rfl; (intro M' Hx' hM'; exact segName_K (n := f) (by omega))) | refine a_ot ?_ | fail))
 (apply RT.one; apply OneT.eff; exact rfl; intro Kc hKc ops0)
 apply R.arr (H2 := hp ++ ((b2, .cells [.pointer (some ⟨lb, 0, none⟩)].toArray 43 (0, 0)) :: (b6, .cells [.int .u64 (f : Int), .slice none 0 0, .slice none 0 0].toArray 85 (0, 0)) :: (b4, .cells [.int .u64 0, .slice none 0 0, .slice none 0 0].toArray 85 (0, 0)) :: (b5, .cells [.bool false].toArray 4 (0, 0)) :: (((lb, lgO db lim (.slice Ap ps.length cpp)) :: (hrow ++ ptH ps)) ++ H))) (by unfold lgO; (exact a_art))
 (apply R.call; (exact a_evs); exact rfl; exact dread_K (n := nameS f) ho; rintro _ M1 _ ⟨v5, hv5, rfl, hown5, rfl, rfl⟩)
 have hbl := readD_len ho.isok (nameS f)
 generalize (readD d (nameS f)).getD [] = b at hown5 hbl hQ
 obtain ⟨A5, c5, rfl, k1, k2⟩ := hown5.form
 (apply R.ice (hp := hv5) (H1 := hp ++ ((b2, .cells [.pointer (some ⟨lb, 0, none⟩)].toArray 43 (0, 0)) :: (b6, .cells [.int .u64 (f : Int), .slice none 0 0, .slice none 0 0].toArray 85 (0, 0)) :: (b4, .cells [.int .u64 0, .slice none 0 0, .slice none 0 0].toArray 85 (0, 0)) :: (b5, .cells [.bool false].toArray 4 (0, 0)) :: (((lb, lgO db lim (.slice Ap ps.length cpp)) :: (hrow ++ ptH ps)) ++ H))) (by (exact a_arrs)); intro M2 hM2 hin5)
 have hpl5 := hown5.plIn hin5
 replace ho := ho.mono hM2
 replace hg := hg.mono hM2
 replace hpt := fun p hp => (hpt p hp).mono hM2
 (apply R.nil; apply Fin.ktB (E := []) (Hx := (b6, .cells [.int .u64 (f : Int), .slice none 0 0, .slice none 0 0].toArray 85 (0, 0)) :: (b4, .cells [.int .u64 0, .slice none 0 0, .slice none 0 0].toArray 85 (0, 0)) :: (b5, .cells [.bool false].toArray 4 (0, 0)) :: (hrow ++ (ptH ps ++ (hp ++ H)))) hKc; exact hM2; (unfold lgO; (exact a_arrs)))
 (repeat' (first | refine a_ot ?_ | fail))
 apply RT.nil
 (repeat' (first | (refine a_gn ?_; intros) | refine a_sp (fun h => ?_) fun h => ?_ | fail))
 ((apply R.alloc; (simp only [Value.cells]; rfl); exact rfl); intro b9)
 (repeat' (first | (refine a_bz ?_; intro bz) | (refine a_bx ?_; intro bx) | (refine a_ba ?_; intro ba) | (refine a_bl ?_; intro bl) | (refine a_go ?_; intros) | refine a_sp (fun h => ?_) fun h => ?_ | fail))
 (apply R.call; (exact a_evs); exact rfl; exact all_K; rintro _ M2 _ ⟨bx, rfl, rfl, rfl⟩)
 (repeat' (first | (refine a_bz ?_; intro bz) | (refine a_bx ?_; intro bx) | (refine a_ba ?_; intro ba) | (refine a_bl ?_; intro bl) | (refine a_go ?_; intros) | refine a_sp (fun h => ?_) fun h => ?_ | fail))
 apply C.rangeO (gf := 109) (pl := [27]) (cs := [.pointer (some ⟨bx, 0, none⟩)]); exact rfl
 intro fn tmps bD l o ho_ hfr
 have hJ : ∃ J : RdS → Hp, J = fun s => (l, o (if s.brk then .done else .ready) (if s.brk then some .ret else none)) :: (bD, .deferred (some [])) :: (b9, .cells #[.int .i64 ((s.it.map Prod.snd).sum : Int)] 3 (0, 0)) :: (b6, .cells #[.int .u64 (f : Int), s.lv, s.ev] 85 (0, 0)) :: (b4, .cells (if s.brk then #[.int .u64 (f : Int), s.lv, s.ev] else #[.int .u64 0, .slice none 0 0, .slice none 0 0]) 85 (0, 0)) :: (b5, .cells #[.bool false] 4 (0, 0)) :: (b2, .cells #[.pointer (some ⟨lb, 0, none⟩)] 43 (0, 0)) :: ((s.lh ++ s.eh) ++ ((lb, lgO db lim (.slice Ap ps.length cpp)) :: (hrow ++ ptH ps))) := ⟨_, rfl⟩
 obtain ⟨J, hJ⟩ := hJ
 have g0 : goodR f ⟨[], .slice none 0 0, .slice none 0 0, [], [], false, M2⟩ := ⟨⟨OwnP.nil, OwnT.nil _ _⟩, fun e h => absurd h List.not_mem_nil⟩
 refine (K.arr (H2 := J ⟨[], .slice none 0 0, .slice none 0 0, [], [], false, M2⟩ ++ ((bx, .cells #[.slice A5 b.length c5] 28 (0, 0)) :: (hp ++ H))) ?_ (all1_M (J := J) (Mf := RdS.M) (St := RdSt (lastO ss) f) ⟨[], .slice none 0 0, .slice none 0 0, [], [], false, M2⟩ hpl5 k1 (by unfold maxLen at k2; omega) ?_ ?_)).mono ?_
 ·rw [hJ]
  unfold lgO
  (exact a_art)
 ·intro pre s h
  exact (told_rd ⟨rfl, rfl⟩ g0 h).1
 ·intro pre r rest s v hpv H' hfr2 htold hown hr6
  obtain ⟨i1, i2, i3, i4, i5, i6⟩ := told_rd ⟨rfl, rfl⟩ g0 htold
  have hat : (s.it.map Prod.snd).sum + 8 + r.length ≤ b.length := by
   have h1 := framesF_end b.length b
   rw [hfr2, endS_append] at h1
   have h2 : endS (r :: rest) = 8 + r.length + endS rest := by simp [endS]
   omega
  have hilen : 8 * s.it.length ≤ b.length := by
   have h1 := endS_len pre
   omega
  obtain ⟨AV, capV, rfl, _, _⟩ := hown.form
  obtain ⟨it, lv, ev, lh, eh, brk, Ms⟩ := s
  dsimp only at i1 i2 i3 i4 i5 i6 hat hilen ⊢
  subst i2
  have hgood := i3
  obtain ⟨⟨hoP, hoT⟩, hent⟩ := i3
  obtain ⟨Al, cl, hlv, kl1, kl2⟩ := hoP.form
  obtain ⟨Ae, ce, hev, ke1, ke2⟩ := hoT.form
  have hel : (⟨f, it⟩ : Sg).es.length = it.length := Sg.es_len _
  change lv = .slice Al (⟨f, it⟩ : Sg).es.length cl at hlv
  change ev = .slice Ae it.length ce at hev
  rw [hel] at hlv
  subst hlv hev
  refine KV.perm (H' := (l, o .ready none) :: (bD, .deferred (some [])) :: (b9, .cells #[.int .i64 ((it.map Prod.snd).sum : Int)] 3 (0, 0)) :: (b6, .cells #[.int .u64 (f : Int), .slice Al it.length cl, .slice Ae it.length ce] 85 (0, 0)) :: (b4, .cells #[.int .u64 0, .slice none 0 0, .slice none 0 0] 85 (0, 0)) :: (b5, .cells #[.bool false] 4 (0, 0)) :: (b2, .cells #[.pointer (some ⟨lb, 0, none⟩)] 43 (0, 0)) :: ((lh ++ eh) ++ (((lb, lgO db lim (.slice Ap ps.length cpp)) :: (hrow ++ ptH ps)) ++ (hpv ++ H')))) ?_ ?_
  ·rw [hJ]
   dsimp only
   (exact a_art)
  subst ho_
  refine KV.roundL (pl := [27]) (vs := [.slice AV r.length capV]) (At.head _ _ _) rfl (by decide) hfr ?_
  intro Q2 hNP2 hAsg
  (repeat' (first | (refine a_bz ?_; intro bz) | (refine a_bx ?_; intro bx) | (refine a_ba ?_; intro ba) | (refine a_bl ?_; intro bl) | (refine a_go ?_; intros) | refine a_sp (fun h => ?_) fun h => ?_ | fail))
  refine hAsg _ _ _ _ _ (At.head _ _ _) ?_
  intro Q3 hR
  have hNP3 := hR.np
  apply C.ice (hp := hpv) (H1 := (l, _) :: (bD, .deferred (some [])) :: (b9, .cells #[.int .i64 ((it.map Prod.snd).sum : Int)] 3 (0, 0)) :: (b6, .cells #[.int .u64 (f : Int), .slice Al it.length cl, .slice Ae it.length ce] 85 (0, 0)) :: (b4, .cells #[.int .u64 0, .slice none 0 0, .slice none 0 0] 85 (0, 0)) :: (b5, .cells #[.bool false] 4 (0, 0)) :: (b2, .cells #[.pointer (some ⟨lb, 0, none⟩)] 43 (0, 0)) :: ((lh ++ eh) ++ (((lb, lgO db lim (.slice Ap ps.length cpp)) :: (hrow ++ ptH ps)) ++ H'))) (by (exact a_arrs))
  intro M3 hM3 hin3
  have hbr := hown.plB hin3
  (repeat' (first | (refine a_bz ?_; intro bz) | (refine a_bx ?_; intro bx) | (refine a_ba ?_; intro ba) | (refine a_bl ?_; intro bl) | (refine a_go ?_; intros) | refine a_sp (fun h => ?_) fun h => ?_ | fail))
  (apply R.call; (exact a_evs); exact rfl; exact readEntry_K hbr; rintro _ M4 _ ⟨hM4, e1_, hcase⟩; replace e1_ := e1_.symm; subst e1_)
  replace hg := (hg.mono i1).mono (hM3.trans_ hM4)
  rcases hcase with ⟨e, vd, hre, rfl, hvd⟩ | ⟨hre, bad, rfl, hbad⟩
  rotate_left
  ·unfold e0V
   (repeat' (first | (refine a_gn ?_; intros) | refine a_sp (fun h => ?_) fun h => ?_ | fail))
   ((apply R.alloc; (simp only [Value.cells]; rfl); exact rfl); intro b11)
   (repeat' (first | refine a_mv ?_ | (apply R.step; (apply Ok.neIT; exact rfl; exact rfl; exact hbad); exact rfl) | (refine a_bz ?_; intro bz) | (refine a_bx ?_; intro bx) | (refine a_ba ?_; intro ba) | (refine a_bl ?_; intro bl) | (refine a_go ?_; intros) | refine a_sp (fun h => ?_) fun h => ?_ | fail))
   (repeat' (first | (refine a_bz ?_; intro bz) | (refine a_bx ?_; intro bx) | (refine a_ba ?_; intro ba) | (refine a_bl ?_; intro bl) | (refine a_go ?_; intros) | refine a_sp (fun h => ?_) fun h => ?_ | fail))
   (apply Fin.arr (H2 := (l, _) :: (bD, .deferred (some [])) :: (b9, .cells #[.int .i64 ((it.map Prod.snd).sum : Int)] 3 (0, 0)) :: (b6, .cells #[.int .u64 (f : Int), .slice Al it.length cl, .slice Ae it.length ce] 85 (0, 0)) :: (b4, .cells #[.int .u64 (f : Int), .slice Al it.length cl, .slice Ae it.length ce] 85 (0, 0)) :: (b5, .cells #[.bool false] 4 (0, 0)) :: (b2, .cells #[.pointer (some ⟨lb, 0, none⟩)] 43 (0, 0)) :: ((lh ++ eh) ++ (((lb, lgO db lim (.slice Ap ps.length cpp)) :: (hrow ++ ptH ps)) ++ H'))); (exact a_arrs))
   refine hR.ret _ _ _ _ _ _ (At.head _ _ _) ?_
   refine ⟨false, ⟨it, .slice Al it.length cl, .slice Ae it.length ce, lh, eh, true, M4⟩, rfl, rfl, ?_, hM3.trans_ hM4, ⟨(hgood.1.mono hM3).mono hM4, hgood.2⟩, .inl ⟨rfl, rfl, rfl, fun rs => goF_none hre⟩⟩
   rw [hJ]
   simp only [if_true, List.append_assoc, List.cons_append, List.nil_append]
  ·have hE := readE_ok hre
   obtain ⟨Ad, cd, rfl, d1, d2, d3⟩ := id hvd
   unfold eV ecells
   (repeat' (first | (refine a_gn ?_; intros) | refine a_sp (fun h => ?_) fun h => ?_ | fail))
   ((apply R.alloc; (simp only [Value.cells]; rfl); exact rfl); intro b11)
   (repeat' (first | (refine a_bz ?_; intro bz) | (refine a_bx ?_; intro bx) | (refine a_ba ?_; intro ba) | (refine a_bl ?_; intro bl) | (refine a_go ?_; intros) | refine a_sp (fun h => ?_) fun h => ?_ | fail))
   have hoP' : OwnP Ms (.slice Al it.length cl) (it.map Prod.fst) lh := hoP
   have hoT' : OwnT 3 1 (.slice Ae it.length ce) it.length (endC (endsA 0 (it.map Prod.snd))) eh := hoT
   have hml : (it.map Prod.fst).length = it.length := List.length_map ..
   have hfl := frameS_len hr6
   have hPO : PtO M4 (⟨⟨f, it⟩, .slice Al it.length cl, .slice Ae it.length ce, lh, eh⟩ : PtV) := ⟨(hoP.mono hM3).mono hM4, hoT⟩
   by_cases hfit : fitS (lastO ss) f (it.map Prod.fst) e
   ·apply R.arr (H2 := ((lb, lgO db lim (.slice Ap ps.length cpp)) :: (hrow ++ ptH ps)) ++ ((lh ++ eh) ++ ((b11, .cells #[.int .i64 e.kind, .int .u64 e.term, .int .u64 e.idx, .slice Ad e.data.length cd, .int .i64 e.conf] 33 (0, 0)) :: (l, _) :: (bD, .deferred (some [])) :: (b9, .cells #[.int .i64 ((it.map Prod.snd).sum : Int)] 3 (0, 0)) :: (b6, .cells #[.int .u64 (f : Int), .slice Al it.length cl, .slice Ae it.length ce] 85 (0, 0)) :: (b4, .cells #[.int .u64 0, .slice none 0 0, .slice none 0 0] 85 (0, 0)) :: (b5, .cells #[.bool false] 4 (0, 0)) :: (b2, .cells #[.pointer (some ⟨lb, 0, none⟩)] 43 (0, 0)) :: H'))) (by (exact a_arrs))
    (apply R.call; (exact a_evs); exact rfl; exact fits_KLT (p := (⟨⟨f, it⟩, .slice Al it.length cl, .slice Ae it.length ce, lh, eh⟩ : PtV)) hg hok hPO hgood.2 hE hvd hfit; rintro _ M4 _ ⟨rfl, rfl, rfl⟩)
    (repeat' (first | (refine a_bz ?_; intro bz) | (refine a_bx ?_; intro bx) | (refine a_ba ?_; intro ba) | (refine a_bl ?_; intro bl) | (refine a_go ?_; intros) | refine a_sp (fun h => ?_) fun h => ?_ | fail))
    (apply C.regionE (isA := [0, 1, 2, 3, 4]) (ksA := [true, true, false, true, true]) (isB := [5]) (ksB := [0]) (Hs := [(b9, .cells #[.int .i64 ↑((it.map Prod.snd).sum)] 3 (0, 0))]); exact Mix.h; (first | exact Arr.all _ | (exact a_arr)); (exact a_np); (exact a_picked); (exact a_picked); kernel_rfl; intro _ e; subst e)
    (repeat' (first | fail | (apply RQ.step; intro _ _ _; (exact a_ok); exact rfl) | (apply RQ.stepT; exact rfl; exact rfl; exact rfl; intro _ _ _; (exact a_ok); exact rfl) | (apply RQ.stepF; exact rfl; exact rfl; exact rfl; exact rfl; exact rfl)))
    (apply RQ.eff; intro Kc hKc ops0)
    (apply R.call; (exact a_evs); exact rfl; exact frame_KF ((hown.plIn hin3).mono hM4) rfl (by omega); rintro v5 M5 _ ⟨hb5, hM5, rfl⟩)
    (apply R.nil; apply Fin.kq hKc; exact hM5; (exact a_arrs))
    obtain ⟨A6, c6, rfl, _, _, _⟩ := hb5
    (repeat' (first | fail | (apply RQ.step; intro _ _ _; (exact a_ok); exact rfl) | (apply RQ.stepT; exact rfl; exact rfl; exact rfl; intro _ _ _; (exact a_ok); exact rfl) | (apply RQ.stepF; exact rfl; exact rfl; exact rfl; exact rfl; exact rfl)))
    apply RQ.nil
    (repeat' (first | refine a_op ?_ | (apply RP.callQ; (exact a_evs); exact rfl)))
    (apply RP.eff; intro Kc hKc ops0)
    (first | (apply R.store; exact rfl; exact rfl; exact rfl; (exact a_at); (exact a_blit); exact rfl; (focus (simp [Value.oneCell']; done))) | (apply R.buildSlice0; exact rfl; intro bz) | (apply R.box; exact rfl; (simp only [Value.cells]; rfl); exact rfl; intro bx) | (apply R.alloc; (simp only [Value.cells]; rfl); exact rfl; intro ba) | (apply R.buildSlice; (exact a_prt); exact rfl; exact rfl; (exact a_fills); exact rfl; intro bl))
    (apply R.nil; apply Fin.kp hKc; exact hM5; (exact a_arrs))
    (first | apply RP.nil0 | apply RP.nil)
    have hsum : (((it.map Prod.snd).sum : Nat) : Int) + ((frameS r).length : Int) = ((((it ++ [(e, 8 + r.length)]).map Prod.snd).sum : Nat) : Int) := by
     rw [hfl, List.map_append, List.sum_append]
     simp
    rw [hsum]
    (repeat' (first | (refine a_bz ?_; intro bz) | (refine a_bx ?_; intro bx) | (refine a_ba ?_; intro ba) | (refine a_bl ?_; intro bl) | (refine a_go ?_; intros) | refine a_sp (fun h => ?_) fun h => ?_ | fail))
    obtain ⟨vs, hot, hpv⟩ := id hoP'
    (apply R.appendT (news := ecells e (.slice Ad e.data.length cd)); exact rfl; exact rfl; exact hot; (exact a_tk); exact Rd.at_ (l := ecells e (.slice Ad e.data.length cd)) (by (exact a_at)) (fun j u h => by rw [Nat.zero_add]; exact h); exact rfl; (intro u hu; simp only [ecells, List.mem_cons, List.not_mem_nil, or_false] at hu; rcases hu with rfl | rfl | rfl | rfl | rfl <;> rfl); (rw [hml]; omega); exact rfl; decide; decide; exact rfl; rintro lv2 lh2 how2)
    have hoP2 : OwnP M5 lv2 ((it ++ [(e, 8 + r.length)]).map Prod.fst) lh2 := by
     rw [List.map_append]
     exact OwnP.snocE how2 (((hpv.mono hM3).mono hM4).mono hM5) (hvd.mono hM5)
    obtain ⟨Al2, cl2, rfl, _, _⟩ := how2.form
    (repeat' (first | (refine a_bz ?_; intro bz) | (refine a_bx ?_; intro bx) | (refine a_ba ?_; intro ba) | (refine a_bl ?_; intro bl) | (refine a_go ?_; intros) | refine a_sp (fun h => ?_) fun h => ?_ | fail))
    (apply R.appendT (news := [.int .i64 (((it ++ [(e, 8 + r.length)]).map Prod.snd).sum : Int)]) (k := 1); exact rfl; exact rfl; exact hoT'; (exact a_tk); exact Rd.at_ (l := [.int .i64 (((it ++ [(e, 8 + r.length)]).map Prod.snd).sum : Int)]) (by (exact a_at)) (fun j u h => by rw [Nat.zero_add]; exact h); exact rfl; (intro u hu; rw [List.mem_singleton] at hu; subst hu; rfl); omega; exact rfl; decide; decide; exact rfl; rintro ev2 eh2 hot2)
    have hS2 : ((it ++ [(e, 8 + r.length)]).map Prod.snd).sum = 0 + (it.map Prod.snd).sum + (8 + r.length) := by
     rw [List.map_append, List.sum_append]
     simp
    have hoT2 : OwnT 3 1 ev2 (it ++ [(e, 8 + r.length)]).length (endC (endsA 0 ((it ++ [(e, 8 + r.length)]).map Prod.snd))) eh2 := by
     have e1 : endC (endsA 0 ((it ++ [(e, 8 + r.length)]).map Prod.snd)) = endC (endsA 0 (it.map Prod.snd)) ++ [.int .i64 (((it ++ [(e, 8 + r.length)]).map Prod.snd).sum : Int)] := by
      rw [hS2, List.map_append]
      show endC (endsA 0 (it.map Prod.snd ++ [8 + r.length])) = _
      rw [endsA_snoc]
      unfold endC
      rw [List.map_append]
      rfl
     rw [e1, List.length_append]
     exact hot2
    obtain ⟨Ae2, ce2, rfl, _, _⟩ := hot2.form
    have hgood2 : goodR f ⟨(it ++ [(e, 8 + r.length)]), .slice Al2 ((it.map Prod.fst).length + 1) cl2, .slice Ae2 (it.length + 1) ce2, lh2, eh2, false, M5⟩ := by
     refine ⟨⟨hoP2, hoT2⟩, fun x hx => ?_⟩
     change x ∈ (it ++ [(e, 8 + r.length)]).map Prod.fst at hx
     rw [List.map_append, List.mem_append] at hx
     rcases hx with hx | hx
     ·exact hgood.2 x hx
     ·rw [List.map_singleton, List.mem_singleton] at hx
      rw [hx]
      exact hE
    (repeat' (first | (refine a_bz ?_; intro bz) | (refine a_bx ?_; intro bx) | (refine a_ba ?_; intro ba) | (refine a_bl ?_; intro bl) | (refine a_go ?_; intros) | refine a_sp (fun h => ?_) fun h => ?_ | fail))
    (apply Fin.arr (H2 := (l, _) :: (bD, .deferred (some [])) :: (b9, .cells #[.int .i64 (((it ++ [(e, 8 + r.length)]).map Prod.snd).sum : Int)] 3 (0, 0)) :: (b6, .cells #[.int .u64 (f : Int), .slice Al2 ((it.map Prod.fst).length + 1) cl2, .slice Ae2 (it.length + 1) ce2] 85 (0, 0)) :: (b4, .cells #[.int .u64 0, .slice none 0 0, .slice none 0 0] 85 (0, 0)) :: (b5, .cells #[.bool false] 4 (0, 0)) :: (b2, .cells #[.pointer (some ⟨lb, 0, none⟩)] 43 (0, 0)) :: ((lh2 ++ eh2) ++ (((lb, lgO db lim (.slice Ap ps.length cpp)) :: (hrow ++ ptH ps)) ++ H'))); (exact a_arrs))
    refine hR.normal _ _ _ _ _ _ (At.head _ _ _) ?_
    refine ⟨true, ⟨(it ++ [(e, 8 + r.length)]), .slice Al2 ((it.map Prod.fst).length + 1) cl2, .slice Ae2 (it.length + 1) ce2, lh2, eh2, false, M5⟩, rfl, rfl, ?_, hM3.trans_ (hM4.trans_ hM5), hgood2, .inr ⟨rfl, rfl, e, hre, hfit, rfl⟩⟩
    rw [hJ]
    simp only [Bool.false_eq_true, if_false, List.append_assoc, List.cons_append, List.nil_append]
   ·apply R.arr (H2 := ((lb, lgO db lim (.slice Ap ps.length cpp)) :: (hrow ++ ptH ps)) ++ ((lh ++ eh) ++ ((b11, .cells #[.int .i64 e.kind, .int .u64 e.term, .int .u64 e.idx, .slice Ad e.data.length cd, .int .i64 e.conf] 33 (0, 0)) :: (l, _) :: (bD, .deferred (some [])) :: (b9, .cells #[.int .i64 ((it.map Prod.snd).sum : Int)] 3 (0, 0)) :: (b6, .cells #[.int .u64 (f : Int), .slice Al it.length cl, .slice Ae it.length ce] 85 (0, 0)) :: (b4, .cells #[.int .u64 0, .slice none 0 0, .slice none 0 0] 85 (0, 0)) :: (b5, .cells #[.bool false] 4 (0, 0)) :: (b2, .cells #[.pointer (some ⟨lb, 0, none⟩)] 43 (0, 0)) :: H'))) (by (exact a_arrs))
    (apply R.call; (exact a_evs); exact rfl; exact fits_KLF (p := (⟨⟨f, it⟩, .slice Al it.length cl, .slice Ae it.length ce, lh, eh⟩ : PtV)) hg hok hPO hgood.2 hE hvd hfit; rintro _ M4 _ ⟨rfl, rfl, rfl⟩)
    (repeat' (first | (refine a_bz ?_; intro bz) | (refine a_bx ?_; intro bx) | (refine a_ba ?_; intro ba) | (refine a_bl ?_; intro bl) | (refine a_go ?_; intros) | refine a_sp (fun h => ?_) fun h => ?_ | fail))
    (apply Fin.arr (H2 := (l, _) :: (bD, .deferred (some [])) :: (b9, .cells #[.int .i64 ((it.map Prod.snd).sum : Int)] 3 (0, 0)) :: (b6, .cells #[.int .u64 (f : Int), .slice Al it.length cl, .slice Ae it.length ce] 85 (0, 0)) :: (b4, .cells #[.int .u64 (f : Int), .slice Al it.length cl, .slice Ae it.length ce] 85 (0, 0)) :: (b5, .cells #[.bool false] 4 (0, 0)) :: (b2, .cells #[.pointer (some ⟨lb, 0, none⟩)] 43 (0, 0)) :: ((lh ++ eh) ++ (((lb, lgO db lim (.slice Ap ps.length cpp)) :: (hrow ++ ptH ps)) ++ H'))); (exact a_arrs))
    refine hR.ret _ _ _ _ _ _ (At.head _ _ _) ?_
    refine ⟨false, ⟨it, .slice Al it.length cl, .slice Ae it.length ce, lh, eh, true, M4⟩, rfl, rfl, ?_, hM3.trans_ hM4, ⟨(hgood.1.mono hM3).mono hM4, hgood.2⟩, .inl ⟨rfl, rfl, rfl, fun rs => goF_no hre hfit⟩⟩
    rw [hJ]
    simp only [if_true, List.append_assoc, List.cons_append, List.nil_append]
 ·rintro v M' H' ⟨s', rfl, rfl, hend⟩
  obtain ⟨i1, i2, i3⟩ := ends_rd ⟨rfl, rfl⟩ g0 hend
  rw [hJ]
  clear hend hJ ho_
  obtain ⟨it, lv, ev, lh, eh, brk, M3⟩ := s'
  dsimp only at i1 i2 i3 ⊢
  obtain ⟨⟨hoP, hoT⟩, hent⟩ := id i2
  obtain ⟨Al, cl, hlv, kl1, kl2⟩ := hoP.form
  obtain ⟨Ae, ce, hev, ke1, ke2⟩ := hoT.form
  have hel : (⟨f, it⟩ : Sg).es.length = it.length := Sg.es_len _
  change lv = .slice Al (⟨f, it⟩ : Sg).es.length cl at hlv
  change ev = .slice Ae it.length ce at hev
  rw [hel] at hlv
  subst hlv hev
  have hRe : readF (lastO ss) f b = (it, !brk && decide ((it.map Prod.snd).sum = b.length ∧ 0 < it.length)) := by
   unfold readF
   rw [i3]
  rw [hRe] at hQ
  refine ⟨if brk then .done else .ready, if brk then some .ret else none, _, by cases brk <;> simp, At.head _ _ _, ?_⟩
  cases brk with
  | true =>
   (show C _ _ _ .ret _ _ _ _ _; apply C.ret; generalize o _ _ = ob)
   (apply Fin.arr (H2 := (l, ob) :: (bD, .deferred (some [])) :: (b9, .cells #[.int .i64 ((it.map Prod.snd).sum : Int)] 3 (0, 0)) :: (b6, .cells #[.int .u64 (f : Int), .slice Al it.length cl, .slice Ae it.length ce] 85 (0, 0)) :: (b4, .cells #[.int .u64 (f : Int), .slice Al it.length cl, .slice Ae it.length ce] 85 (0, 0)) :: (b5, .cells #[.bool false] 4 (0, 0)) :: (b2, .cells #[.pointer (some ⟨lb, 0, none⟩)] 43 (0, 0)) :: ((lh ++ eh) ++ (((lb, lgO db lim (.slice Ap ps.length cpp)) :: (hrow ++ ptH ps)) ++ ((bx, .cells #[.slice A5 b.length c5] 28 (0, 0)) :: (hp ++ H))))) (by (exact a_art)) ?_)
   (repeat' (first | (refine a_bz ?_; intro bz) | (refine a_bx ?_; intro bx) | (refine a_ba ?_; intro ba) | (refine a_bl ?_; intro bl) | (refine a_go ?_; intros) | refine a_sp (fun h => ?_) fun h => ?_ | fail))
   (apply Fin.returnM (H2 := (lh ++ eh) ++ (((lb, lgO db lim (.slice Ap ps.length cpp)) :: (hrow ++ ptH ps)) ++ (hp ++ H))); assumption; exact .inl rfl; exact rfl; exact Marks.cons (by (exact a_at)) (Marks.nil _); (exact a_res); (simp only [retv]; rfl); (exact a_arrs))
   exact ⟨⟨⟨f, it⟩, .slice Al it.length cl, .slice Ae it.length ce, lh, eh⟩, rfl, ⟨hoP, hoT⟩, rfl, rfl, hent, hM2.trans_ i1, rfl⟩
  | false =>
   (show Fin _ .normal _ _ _ _ _; generalize o _ _ = ob)
   (apply Fin.arr (H2 := (l, ob) :: (bD, .deferred (some [])) :: (b9, .cells #[.int .i64 ((it.map Prod.snd).sum : Int)] 3 (0, 0)) :: (b6, .cells #[.int .u64 (f : Int), .slice Al it.length cl, .slice Ae it.length ce] 85 (0, 0)) :: (b4, .cells #[.int .u64 0, .slice none 0 0, .slice none 0 0] 85 (0, 0)) :: (b5, .cells #[.bool false] 4 (0, 0)) :: (b2, .cells #[.pointer (some ⟨lb, 0, none⟩)] 43 (0, 0)) :: ((lh ++ eh) ++ (((lb, lgO db lim (.slice Ap ps.length cpp)) :: (hrow ++ ptH ps)) ++ ((bx, .cells #[.slice A5 b.length c5] 28 (0, 0)) :: (hp ++ H))))) (by (exact a_art)) ?_)
   (repeat' (first | (refine a_bz ?_; intro bz) | (refine a_bx ?_; intro bx) | (refine a_ba ?_; intro ba) | (refine a_bl ?_; intro bl) | (refine a_go ?_; intros) | refine a_sp (fun h => ?_) fun h => ?_ | fail))
   by_cases h1 : (it.map Prod.snd).sum = b.length
   ·by_cases h2 : 0 < it.length
    ·(apply C.regionT (t := .free 0 (.free 1 (.free 2 (.free 3 (.free 4 (.free 5 (.free 6 (.free 7 (.free 8 (.free 9 (.free 10 (.one 11 (.one 12 .nil))))))))))))) (Hs := [(b6, .cells #[.int .u64 ↑f, .slice Al it.length cl, .slice Ae it.length ce] 85 (0, 0)), (b9, .cells #[.int .i64 ↑((it.map Prod.snd).sum)] 3 (0, 0))]); exact Mix.h; (first | exact Arr.all _ | (exact a_arr) | (exact a_arrs)); (exact a_np); kernel_rfl)
     (repeat' (first | (apply RT.step; exact rfl; intro _ _ _; (apply Ok.move; exact rfl); exact rfl) | (apply RT.step; exact rfl; intro _ _ _; (apply Ok.eqIR; exact rfl; exact rfl; omega); exact rfl) | (apply RT.stepT; exact rfl; exact rfl; exact rfl; exact rfl; intro _ _ _; (apply Ok.gtTr; exact rfl; exact rfl; omega); exact rfl) | refine a_ot ?_ | fail))
     (apply RT.one; apply OneT.eff; exact rfl; intro Kc hKc ops0)
     (repeat' (first | (refine a_bz ?_; intro bz) | (refine a_bx ?_; intro bx) | (refine a_ba ?_; intro ba) | (refine a_bl ?_; intro bl) | (refine a_go ?_; intros) | refine a_sp (fun h => ?_) fun h => ?_ | fail))
     (apply Fin.kt (Hx := (b4, .cells #[.int .u64 (f : Int), .slice Al it.length cl, .slice Ae it.length ce] 85 (0, 0)) :: (b5, .cells #[.bool false] 4 (0, 0)) :: (b2, .cells #[.pointer (some ⟨lb, 0, none⟩)] 43 (0, 0)) :: (l, ob) :: (bD, .deferred (some [])) :: ((lh ++ eh) ++ (((lb, lgO db lim (.slice Ap ps.length cpp)) :: (hrow ++ ptH ps)) ++ ((bx, .cells #[.slice A5 b.length c5] 28 (0, 0)) :: (hp ++ H))))) hKc; exact Mem.le_refl _; (exact a_arrs))
     (repeat' (first | refine a_ot ?_ | fail))
     (apply RT.one; apply OneT.eff; exact rfl; intro Kc hKc ops0)
     (repeat' (first | (refine a_bz ?_; intro bz) | (refine a_bx ?_; intro bx) | (refine a_ba ?_; intro ba) | (refine a_bl ?_; intro bl) | (refine a_go ?_; intros) | refine a_sp (fun h => ?_) fun h => ?_ | fail))
     (apply Fin.kt (Hx := (b4, .cells #[.int .u64 (f : Int), .slice Al it.length cl, .slice Ae it.length ce] 85 (0, 0)) :: (b5, .cells #[.bool true] 4 (0, 0)) :: (b2, .cells #[.pointer (some ⟨lb, 0, none⟩)] 43 (0, 0)) :: (l, ob) :: (bD, .deferred (some [])) :: ((lh ++ eh) ++ (((lb, lgO db lim (.slice Ap ps.length cpp)) :: (hrow ++ ptH ps)) ++ ((bx, .cells #[.slice A5 b.length c5] 28 (0, 0)) :: (hp ++ H))))) hKc; exact Mem.le_refl _; (exact a_arrs))
     apply RT.nil
     (repeat' (first | (refine a_bz ?_; intro bz) | (refine a_bx ?_; intro bx) | (refine a_ba ?_; intro ba) | (refine a_bl ?_; intro bl) | (refine a_go ?_; intros) | refine a_sp (fun h => ?_) fun h => ?_ | fail))
     (apply Fin.returnM (H2 := (lh ++ eh) ++ (((lb, lgO db lim (.slice Ap ps.length cpp)) :: (hrow ++ ptH ps)) ++ (hp ++ H))); assumption; exact .inl rfl; exact rfl; exact Marks.cons (by (exact a_at)) (Marks.nil _); (exact a_res); (simp only [retv]; rfl); (exact a_arrs))
     exact ⟨⟨⟨f, it⟩, .slice Al it.length cl, .slice Ae it.length ce, lh, eh⟩, by rw [show (!false && decide ((it.map Prod.snd).sum = b.length ∧ 0 < it.length)) = true from by rw [decide_eq_true ⟨h1, h2⟩]; rfl]; rfl, ⟨hoP, hoT⟩, rfl, rfl, hent, hM2.trans_ i1, rfl⟩
    ·(apply C.regionT (t := .free 0 (.free 1 (.free 2 (.free 3 (.free 4 (.free 5 (.free 6 (.free 7 (.free 8 (.free 9 (.free 10 (.one 11 (.one 12 .nil))))))))))))) (Hs := [(b6, .cells #[.int .u64 ↑f, .slice Al it.length cl, .slice Ae it.length ce] 85 (0, 0)), (b9, .cells #[.int .i64 ↑((it.map Prod.snd).sum)] 3 (0, 0))]); exact Mix.h; (first | exact Arr.all _ | (exact a_arr) | (exact a_arrs)); (exact a_np); kernel_rfl)
     (repeat' (first | (apply RT.step; exact rfl; intro _ _ _; (apply Ok.move; exact rfl); exact rfl) | (apply RT.step; exact rfl; intro _ _ _; (apply Ok.eqIR; exact rfl; exact rfl; omega); exact rfl) | (apply RT.stepT; exact rfl; exact rfl; exact rfl; exact rfl; intro _ _ _; (apply Ok.gtF; exact rfl; exact rfl; omega); exact rfl) | refine a_ot ?_ | fail))
     (apply RT.one; apply OneT.eff; exact rfl; intro Kc hKc ops0)
     (repeat' (first | (refine a_bz ?_; intro bz) | (refine a_bx ?_; intro bx) | (refine a_ba ?_; intro ba) | (refine a_bl ?_; intro bl) | (refine a_go ?_; intros) | refine a_sp (fun h => ?_) fun h => ?_ | fail))
     (apply Fin.kt (Hx := (b4, .cells #[.int .u64 (f : Int), .slice Al it.length cl, .slice Ae it.length ce] 85 (0, 0)) :: (b5, .cells #[.bool false] 4 (0, 0)) :: (b2, .cells #[.pointer (some ⟨lb, 0, none⟩)] 43 (0, 0)) :: (l, ob) :: (bD, .deferred (some [])) :: ((lh ++ eh) ++ (((lb, lgO db lim (.slice Ap ps.length cpp)) :: (hrow ++ ptH ps)) ++ ((bx, .cells #[.slice A5 b.length c5] 28 (0, 0)) :: (hp ++ H))))) hKc; exact Mem.le_refl _; (exact a_arrs))
     (repeat' (first | refine a_ot ?_ | fail))
     (apply RT.one; apply OneT.eff; exact rfl; intro Kc hKc ops0)
     (repeat' (first | (refine a_bz ?_; intro bz) | (refine a_bx ?_; intro bx) | (refine a_ba ?_; intro ba) | (refine a_bl ?_; intro bl) | (refine a_go ?_; intros) | refine a_sp (fun h => ?_) fun h => ?_ | fail))
     (apply Fin.kt (Hx := (b4, .cells #[.int .u64 (f : Int), .slice Al it.length cl, .slice Ae it.length ce] 85 (0, 0)) :: (b5, .cells #[.bool false] 4 (0, 0)) :: (b2, .cells #[.pointer (some ⟨lb, 0, none⟩)] 43 (0, 0)) :: (l, ob) :: (bD, .deferred (some [])) :: ((lh ++ eh) ++ (((lb, lgO db lim (.slice Ap ps.length cpp)) :: (hrow ++ ptH ps)) ++ ((bx, .cells #[.slice A5 b.length c5] 28 (0, 0)) :: (hp ++ H))))) hKc; exact Mem.le_refl _; (exact a_arrs))
     apply RT.nil
     (repeat' (first | (refine a_bz ?_; intro bz) | (refine a_bx ?_; intro bx) | (refine a_ba ?_; intro ba) | (refine a_bl ?_; intro bl) | (refine a_go ?_; intros) | refine a_sp (fun h => ?_) fun h => ?_ | fail))
     (apply Fin.returnM (H2 := (lh ++ eh) ++ (((lb, lgO db lim (.slice Ap ps.length cpp)) :: (hrow ++ ptH ps)) ++ (hp ++ H))); assumption; exact .inl rfl; exact rfl; exact Marks.cons (by (exact a_at)) (Marks.nil _); (exact a_res); (simp only [retv]; rfl); (exact a_arrs))
     exact ⟨⟨⟨f, it⟩, .slice Al it.length cl, .slice Ae it.length ce, lh, eh⟩, by rw [show (!false && decide ((it.map Prod.snd).sum = b.length ∧ 0 < it.length)) = false from by rw [decide_eq_false (fun h => h2 h.2)]; rfl]; rfl, ⟨hoP, hoT⟩, rfl, rfl, hent, hM2.trans_ i1, rfl⟩
   ·(apply C.regionT (t := .free 0 (.free 1 (.free 2 (.free 3 (.free 4 (.free 5 (.free 6 (.free 7 (.free 8 (.free 9 (.free 10 (.one 11 (.one 12 .nil))))))))))))) (Hs := [(b6, .cells #[.int .u64 ↑f, .slice Al it.length cl, .slice Ae it.length ce] 85 (0, 0)), (b9, .cells #[.int .i64 ↑((it.map Prod.snd).sum)] 3 (0, 0))]); exact Mix.h; (first | exact Arr.all _ | (exact a_arr) | (exact a_arrs)); (exact a_np); kernel_rfl)
    (repeat' (first | (apply RT.step; exact rfl; intro _ _ _; (apply Ok.move; exact rfl); exact rfl) | (apply RT.step; exact rfl; intro _ _ _; (apply Ok.eqIF; exact rfl; exact rfl; omega); exact rfl) | refine a_ot ?_ | fail))
    (apply RT.one; apply OneT.eff; exact rfl; intro Kc hKc ops0)
    (repeat' (first | (refine a_bz ?_; intro bz) | (refine a_bx ?_; intro bx) | (refine a_ba ?_; intro ba) | (refine a_bl ?_; intro bl) | (refine a_go ?_; intros) | refine a_sp (fun h => ?_) fun h => ?_ | fail))
    (apply Fin.kt (Hx := (b4, .cells #[.int .u64 (f : Int), .slice Al it.length cl, .slice Ae it.length ce] 85 (0, 0)) :: (b5, .cells #[.bool false] 4 (0, 0)) :: (b2, .cells #[.pointer (some ⟨lb, 0, none⟩)] 43 (0, 0)) :: (l, ob) :: (bD, .deferred (some [])) :: ((lh ++ eh) ++ (((lb, lgO db lim (.slice Ap ps.length cpp)) :: (hrow ++ ptH ps)) ++ ((bx, .cells #[.slice A5 b.length c5] 28 (0, 0)) :: (hp ++ H))))) hKc; exact Mem.le_refl _; (exact a_arrs))
    (repeat' (first | refine a_ot ?_ | fail))
    (apply RT.one; apply OneT.eff; exact rfl; intro Kc hKc ops0)
    (repeat' (first | (refine a_bz ?_; intro bz) | (refine a_bx ?_; intro bx) | (refine a_ba ?_; intro ba) | (refine a_bl ?_; intro bl) | (refine a_go ?_; intros) | refine a_sp (fun h => ?_) fun h => ?_ | fail))
    (apply Fin.kt (Hx := (b4, .cells #[.int .u64 (f : Int), .slice Al it.length cl, .slice Ae it.length ce] 85 (0, 0)) :: (b5, .cells #[.bool false] 4 (0, 0)) :: (b2, .cells #[.pointer (some ⟨lb, 0, none⟩)] 43 (0, 0)) :: (l, ob) :: (bD, .deferred (some [])) :: ((lh ++ eh) ++ (((lb, lgO db lim (.slice Ap ps.length cpp)) :: (hrow ++ ptH ps)) ++ ((bx, .cells #[.slice A5 b.length c5] 28 (0, 0)) :: (hp ++ H))))) hKc; exact Mem.le_refl _; (exact a_arrs))
    apply RT.nil
    (repeat' (first | (refine a_bz ?_; intro bz) | (refine a_bx ?_; intro bx) | (refine a_ba ?_; intro ba) | (refine a_bl ?_; intro bl) | (refine a_go ?_; intros) | refine a_sp (fun h => ?_) fun h => ?_ | fail))
    (apply Fin.returnM (H2 := (lh ++ eh) ++ (((lb, lgO db lim (.slice Ap ps.length cpp)) :: (hrow ++ ptH ps)) ++ (hp ++ H))); assumption; exact .inl rfl; exact rfl; exact Marks.cons (by (exact a_at)) (Marks.nil _); (exact a_res); (simp only [retv]; rfl); (exact a_arrs))
    exact ⟨⟨⟨f, it⟩, .slice Al it.length cl, .slice Ae it.length ce, lh, eh⟩, by rw [show (!false && decide ((it.map Prod.snd).sum = b.length ∧ 0 < it.length)) = false from by rw [decide_eq_false (fun h => h1 h.1)]; rfl]; rfl, ⟨hoP, hoT⟩, rfl, rfl, hent, hM2.trans_ i1, rfl⟩
end Go.Sx
end
section
namespace Go.Sx
open Go Go.Proofs Go.RowKit
attribute [local irreducible] C R Fin K Own OwnT Rd Pl Ok KOf RetOk OpsOf RP KP Res NoPanic KV KE MapS ItS EntS FsO FsR RowD
variable {M M' : Mem} {H H1 H2 : Hp}
theorem truncate_K {db : Nat} {d : Dk} {hp : Hp} {n : Txt} {k : Int} (ho : DkO M db d hp) (hlen : d.ps.length ≤ 1000000) : K Tryz.prog 81 [.pointer (some ⟨db, 0, none⟩), str n, .int .i64 k] M (hp ++ H) fun v' M' H' => v' = .int .i64 (trcE d n k) ∧ M.le M' ∧ ∃ hp', DkO M' db (opD (trcE d n k) d (.trc n k.toNat)) hp' ∧ H' = hp' ++ H := by
 refine K.enterK Tryz.func81 rfl rfl rfl ?_
 intro Q hNP hQ
 (repeat' (first | (refine a_go ?_; intros) | refine a_sp (fun h => ?_) fun h => ?_ | fail))
 (apply R.call; (exact a_evs); exact rfl); exact counts_KD ho; rintro _ M _ ⟨rfl, rfl, hp1, ho1, rfl, hdn⟩
 have hnn := ho.nodup
 have hok := ho.1
 clear ho
 by_cases hs : stopD d
 ·rw [decide_eq_true hs]
  have hE : trcE d n k = 3 := if_pos hs
  rw [hE] at hQ
  (repeat' (first | (refine a_go ?_; intros) | refine a_sp (fun h => ?_) fun h => ?_ | fail))
  (refine Fin.rA (hp1 ++ H) ?_)
  exact ⟨rfl, Mem.le_refl _, hp1, ho1, rfl⟩
 rw [decide_eq_false hs]
 obtain ⟨hok1, sb, nb, so, no, pv, hr, h1, h2, h3, rfl⟩ := ho1
 rw [cntD_now] at h2
 rw [hdn hs, cntD_room]
 unfold dkB
 obtain ⟨l, hm, hfr, hn⟩ := h2.use
 obtain ⟨⟨A1, c1, e1, _, _, _⟩, hg⟩ := hfr.get hn n
 have hbad : ∀ H', H' = (db, dkB d.room sb nb pv (cntD d).fuse false) :: (nb, no) :: (sb, so) :: (hr ++ H) → trcE d n k = 1 → ∃ hp', DkO M db (opD (trcE d n k) d (.trc n k.toNat)) hp' ∧ H' = hp' ++ H := fun H' hH hE => by
  rw [hE]
  exact ⟨_, DkO.no (sb := sb) (nb := nb) (by decide) hok1 hs h1 h2 h3, hH⟩
 (repeat' (first | refine a_mv ?_ | (apply R.step; (apply Ok.lookupS (ho := hm); exact rfl; exact rfl; exact a_mm); exact rfl) | (refine a_go ?_; intros) | refine a_sp (fun h => ?_) fun h => ?_ | fail))
 ·have h : (getS l n).isSome = false := by assumption
  have hE : trcE d n k = 4 := (if_neg hs).trans (if_pos (is_none (by rw [← hg]; exact h)))
  rw [hE] at hQ
  (refine Fin.rA ((db, dkB d.room sb nb pv (cntD d).fuse false) :: (nb, no) :: (sb, so) :: (hr ++ H)) ?_)
  exact ⟨rfl, Mem.le_refl _, _, DkO.no (sb := sb) (nb := nb) (by decide) hok1 hs h1 h2 h3, rfl⟩
 ·have h : (getS l n).isSome = true := by assumption
  have h5 : k < 0 := by assumption
  have hE : trcE d n k = 1 := (if_neg hs).trans ((if_neg (is_some (by rw [← hg]; exact h))).trans (if_pos (.inl h5)))
  (refine Fin.rA ((db, dkB d.room sb nb pv (cntD d).fuse false) :: (nb, no) :: (sb, so) :: (hr ++ H)) ?_)
  exact ⟨by rw [hE], Mem.le_refl _, hbad _ rfl hE⟩
 have hsm : (getS l n).isSome = true := by assumption
 have h5 : ¬ k < 0 := by assumption
 rw [e1]
 (repeat' (first | (refine a_go ?_; intros) | refine a_sp (fun h => ?_) fun h => ?_ | fail))
 ·have h6 : ((fileD d.now n).length : Int) < k := by assumption
  have hE : trcE d n k = 1 := (if_neg hs).trans ((if_neg (is_some (by rw [← hg]; exact hsm))).trans (if_pos (.inr h6)))
  (refine Fin.rA ((db, dkB d.room sb nb pv (cntD d).fuse false) :: (nb, no) :: (sb, so) :: (hr ++ H)) ?_)
  exact ⟨by rw [hE], Mem.le_refl _, hbad _ rfl hE⟩
 have h6 : ¬ ((fileD d.now n).length : Int) < k := by assumption
 have hE : trcE d n k = 0 := (if_neg hs).trans ((if_neg (is_some (by rw [← hg]; exact hsm))).trans (if_neg (fun h7 => by rcases h7 with h7 | h7; exact h5 h7; exact h6 h7)))
 rw [hE] at hQ
 have hfit := trc_fit (n := n) (k := k.toNat) hnn hok.sum (by omega)
 (apply R.call; (exact a_evs); exact rfl; (apply K.arr (h := put_K (db := db) (sb := sb) (nb := nb) (room := d.room) (fuse := (cntD d).fuse) (down := false) (H := (sb, so) :: H) (x := .trc n k.toNat) (c := [.int .i64 1, str n, str [], .slice none 0 0, .int .i64 k]) h2 h3 (by show _ = _; rw [Int.toNat_of_nonneg (by omega)]) hfit (by rw [cntD_ps]; exact hlen))); (exact a_arrs); rintro _ M3 _ ⟨rfl, hM3, pv', hp', no', f1, f2, rfl⟩)
 (repeat' (first | (refine a_go ?_; intros) | refine a_sp (fun h => ?_) fun h => ?_ | fail))
 (refine Fin.rA ((db, dkB d.room sb nb pv' (cntD d).fuse false) :: (nb, no') :: (sb, so) :: (hp' ++ H)) ?_)
 exact ⟨rfl, hM3, _, DkO.op (sb := sb) (nb := nb) hok hs hfit (h1.mono hM3) f1 f2, rfl⟩
end Go.Sx
end
section
namespace Go.Sx
open Go Go.Proofs Go.RowKit
attribute [local irreducible] C R Fin K Own OwnT Rd Pl Ok KOf RetOk OpsOf RP KP Res NoPanic KV KE MapS ItS EntS FsO FsR RowD PlD DkO RT KT OneT RS KS OneS
variable {M M' : Mem} {H H1 H2 : Hp}
def mendR : Dk → List Nat → Int × Dk
 | d, [] => (0, d)
 | d, n :: ns => if remE d (nameS n) ≠ 0 then (remE d (nameS n), opD (remE d (nameS n)) d (.rem (nameS n))) else mendR (opD 0 d (.rem (nameS n))) ns
def mendE (d : Dk) (f : Nat) (it : List (En × Nat)) : Int × Dk :=
 if it.length = 0 then (remE d (nameS f), opD (remE d (nameS f)) d (.rem (nameS f))) else (trcE d (nameS f) ((it.map Prod.snd).sum : Int), opD (trcE d (nameS f) ((it.map Prod.snd).sum : Int)) d (.trc (nameS f) (it.map Prod.snd).sum))
def mendD (d : Dk) (ns : List Nat) (f : Nat) (it : List (En × Nat)) : Int × Dk :=
 if (mendR d ns.tail.reverse).1 ≠ 0 then mendR d ns.tail.reverse else mendE (mendR d ns.tail.reverse).2 f it
theorem mendR_no {d : Dk} {n : Nat} {ns : List Nat} (h : remE d (nameS n) ≠ 0) : mendR d (n :: ns) = (remE d (nameS n), opD (remE d (nameS n)) d (.rem (nameS n))) := by rw [mendR, if_pos h]
theorem mendR_go {d : Dk} {n : Nat} {ns : List Nat} (h : remE d (nameS n) = 0) : mendR d (n :: ns) = mendR (opD 0 d (.rem (nameS n))) ns := by rw [mendR, if_neg (fun g => g h)]
theorem psize_KL {f : Nat} {v : Value} {A B : Option Addr} {q ca m cb : Nat} {zs : List Nat} {eh : Hp} (hv : v = .slice A q ca) (ho : OwnT 3 1 (.slice B m cb) m (endC (endsA 0 zs)) eh) (hl : zs.length = m) (h0 : 0 < m) : K Tryz.prog 77 [.agg #[.int .u64 (f : Int), v, .slice B m cb]] M (eh ++ H) fun v' M' H' => v' = .int .i64 (zs.sum : Int) ∧ M' = M ∧ H' = eh ++ H :=
 K.lendsR (Arr.all _) fun M2 hM2 hin => by
  obtain ⟨A1, c1, e1, k1, k2⟩ := ho.form
  have hn := endsA_last (zs := zs) 0 (by omega)
  rw [Nat.zero_add, hl] at hn
  exact psize_K hv (ho.plIn hin) (by rw [endsA_len, hl]) h0 hn (by cases e1; unfold maxLen at k2; omega)
def nmC (ns : List Nat) : List Value := ns.map fun n : Nat => .int .u64 (n : Int)
theorem sgsOk.snoc {ss : List Sg} {s : Sg} (h : sgsOk ss) (h0 : 0 < s.it.length) (h1 : ∀ e ∈ s.es, entS e) : sgsOk (ss ++ [s]) := by
 intro x hx
 rcases List.mem_append.1 hx with hx | hx
 ·exact h x hx
 ·rw [List.mem_singleton] at hx
  subst hx
  exact ⟨h0, h1⟩
structure MnX where
 k : Nat
 kk : Int
 d : Dk
 hp : Hp
 M : Mem
theorem mend_K {lb db : Nat} {d : Dk} {lim : Int} {f : Nat} {it : List (En × Nat)} {hp eh : Hp} {ns : List Nat} {A Al Ae Apv : Option Addr} {cap cl ce npv cpv : Nat} (hA : Pl M A (nmC ns)) (hns : ∀ n ∈ ns, n ≤ 72057594037927935) (hnl : 0 < ns.length ∧ ns.length ≤ 100000) (ho : DkO M db d hp) (hlen : d.ps.length ≤ 500000) (hf : f ≤ 72057594037927935) (ht : OwnT 3 1 (.slice Ae it.length ce) it.length (endC (endsA 0 (it.map Prod.snd))) eh) : K Tryz.prog 38 [.pointer (some ⟨lb, 0, none⟩), .slice A ns.length cap, .agg #[.int .u64 (f : Int), .slice Al it.length cl, .slice Ae it.length ce]] M ((lb, lgO db lim (.slice Apv npv cpv)) :: (eh ++ (hp ++ H))) fun v' M' H' => v' = .int .i64 (mendD d ns f it).1 ∧ M.le M' ∧ ∃ hp', DkO M' db (mendD d ns f it).2 hp' ∧ H' = (lb, lgO db lim (.slice Apv npv cpv)) :: (eh ++ (hp' ++ H)) := by
 refine K.enterK Tryz.func38 rfl rfl rfl ?_
 intro Q hNP hQ
 have hml : (it.map Prod.snd).length = it.length := List.length_map ..
 unfold lgO at hQ ⊢
 have hll : (ns.length : Int) - 1 = ((ns.length - 1 : Nat) : Int) := by omega
 (repeat' (first | (refine a_gn ?_; intros) | refine a_sp (fun h => ?_) fun h => ?_ | fail))
 ((apply R.box; exact rfl; (simp only [Value.cells]; rfl); exact rfl); intro b5)
 (repeat' (first | refine a_mv ?_ | (apply R.step; (apply Ok.subQ ((ns.length - 1 : Nat) : Int); exact rfl; exact rfl; exact hll; apply w64; omega; omega); exact rfl) | (refine a_go ?_; intros) | refine a_sp (fun h => ?_) fun h => ?_ | fail))
 have htl : ns.tail.length = ns.length - 1 := List.length_tail ..
 apply C.loop (fun y : MnX => (y.k : Int) = y.kk ∧ y.k ≤ ns.length - 1 ∧ M.le y.M ∧ DkO y.M db y.d y.hp ∧ y.d.ps.length ≤ d.ps.length + (ns.length - 1 - y.k) ∧ mendR d ns.tail.reverse = mendR y.d (ns.tail.take y.k).reverse)
  (fun y => [(0, .pointer (some ⟨lb, 0, none⟩)), (1, .slice A ns.length cap), (5, .pointer (some ⟨b5, 0, none⟩)), (7, .int .i64 y.kk)]) (fun y => y.M) (fun y => (b5, .cells #[.int .u64 (f : Int), .slice Al it.length cl, .slice Ae it.length ce] 85 (0, 0)) :: (lb, .cells [.pointer (some ⟨db, 0, none⟩), .int .i64 lim, .slice Apv npv cpv].toArray 78 (0, 0)) :: (eh ++ (y.hp ++ H))) (fun y => y.k) ⟨ns.length - 1, ((ns.length - 1 : Nat) : Int), d, hp, M⟩
 ·refine ⟨rfl, Nat.le_refl _, Mem.le_refl _, ho, Nat.le_add_right _ _, ?_⟩
  dsimp only
  rw [List.take_of_length_le (by omega)]
 ·(exact a_subs)
 ·exact rfl
 ·exact rfl
 rintro ⟨k, kk, d1, hp1, M1⟩ ⟨hkk, hk, hM1, ho1, hps1, hmr⟩
 dsimp only at hkk hk hM1 ho1 hps1 hmr ⊢
 by_cases hk0 : 0 < k
 ·have hkl : k < ns.length := by omega
  have hkt : k - 1 < ns.tail.length := by omega
  have hnk : ns.tail[k - 1] = ns[k] := by
   rw [List.getElem_tail]
   congr 1
   omega
  have hrev : (ns.tail.take k).reverse = ns[k] :: (ns.tail.take (k - 1)).reverse := by
   have : ns.tail.take k = ns.tail.take (k - 1) ++ [ns.tail[k - 1]] := by
    have e : k = k - 1 + 1 := by omega
    rw [show ns.tail.take k = ns.tail.take (k - 1 + 1) from by rw [← e]]
    exact List.take_succ_eq_append_getElem hkt
   rw [this, List.reverse_append, hnk]
   rfl
  rw [hrev] at hmr
  have hnb := hns _ (List.getElem_mem hkl)
  have hce : (nmC ns)[k]? = some (.int .u64 (ns[k] : Int)) := by
   unfold nmC
   rw [List.getElem?_map, List.getElem?_eq_getElem hkl]
   rfl
  obtain ⟨b, o, cc, e, fr, hAe, hMb, hcell⟩ := (hA.mono hM1).get hce
  subst hAe
  rw [show o + k = o + kk.toNat * 1 by omega] at hcell
  generalize ns[k] = n at hnb hcell hmr
  (repeat' (first | refine a_mv ?_ | (apply R.step; (apply Ok.gtTr; exact rfl; exact rfl; omega); exact rfl) | (refine a_go ?_; intros) | refine a_sp (fun h => ?_) fun h => ?_ | fail))
  (apply C.regionT (t := .free 0 (.free 1 (.free 2 (.free 3 (.free 4 (.free 5 (.free 6 (.free 7 (.free 8 (.one 9 (.free 10 .nil))))))))))) (Hs := [(lb, .cells [.pointer (some ⟨db, 0, none⟩), .int .i64 lim, .slice Apv npv cpv].toArray 78 (0, 0))]); exact Mix.h; (first | exact Arr.all _ | (exact a_arr) | (exact a_arrs)); (exact a_np); kernel_rfl)
  (repeat' (first | (apply RT.step; exact rfl; intro _ _ _; (apply Ok.move; exact rfl); exact rfl) | (apply RT.callQ; exact rfl; exact inferInstance; (exact a_evs); exact rfl; (intro M' Hx' hM'; exact segName_K (n := n) (by omega))) | (apply RT.step; exact rfl; intro _ _ hMx; (first | (apply Ok.indexAddr; exact rfl; exact rfl; omega; omega) | (apply Ok.loadP; exact rfl; exact rfl; exact hMx.2.2 _ _ hMb; exact hcell)); exact rfl) | refine a_ot ?_ | fail))
  (apply RT.one; apply OneT.eff; exact rfl; intro Kc hKc ops0)
  apply R.arr (H2 := hp1 ++ ((b5, .cells #[.int .u64 (f : Int), .slice Al it.length cl, .slice Ae it.length ce] 85 (0, 0)) :: (lb, .cells [.pointer (some ⟨db, 0, none⟩), .int .i64 lim, .slice Apv npv cpv].toArray 78 (0, 0)) :: (eh ++ H))) (by (exact a_arrs))
  (apply R.call; (exact a_evs); exact rfl; exact remove_K (n := nameS n) ho1 (by omega); rintro _ M2 _ ⟨rfl, hM2, hp2, ho2, rfl⟩)
  (apply R.nil; apply Fin.kt (Hx := (b5, .cells #[.int .u64 (f : Int), .slice Al it.length cl, .slice Ae it.length ce] 85 (0, 0)) :: (eh ++ (hp2 ++ H))) hKc; exact hM2; (exact a_arrs))
  (repeat' (first | refine a_ot ?_ | fail))
  apply RT.nil
  by_cases he : remE d1 (nameS n) = 0
  ·rw [mendR_go he] at hmr
   rw [he] at ho2 ⊢
   have hps2 := opD_ps d1 0 (.rem (nameS n))
   (repeat' (first | refine a_mv ?_ | (apply R.step; (apply Ok.subQ ((k - 1 : Nat) : Int); exact rfl; exact rfl; omega; apply w64; omega; omega); exact rfl) | (refine a_go ?_; intros) | refine a_sp (fun h => ?_) fun h => ?_ | fail))
   (apply Fin.arr (H2 := (b5, .cells #[.int .u64 (f : Int), .slice Al it.length cl, .slice Ae it.length ce] 85 (0, 0)) :: (lb, .cells [.pointer (some ⟨db, 0, none⟩), .int .i64 lim, .slice Apv npv cpv].toArray 78 (0, 0)) :: (eh ++ (hp2 ++ H))); (exact a_arrs))
   refine Fin.again (⟨k - 1, ((k - 1 : Nat) : Int), opD 0 d1 (.rem (nameS n)), hp2, M2⟩ : MnX) ⟨rfl, by dsimp only; omega, hM1.trans_ hM2, ho2, by show (opD 0 d1 (.rem (nameS n))).ps.length ≤ d.ps.length + (ns.length - 1 - (k - 1)); omega, hmr⟩ (by dsimp only; omega) ?_ rfl rfl
   (exact a_subs)
  ·have hE : mendD d ns f it = (remE d1 (nameS n), opD (remE d1 (nameS n)) d1 (.rem (nameS n))) := by
    unfold mendD
    rw [hmr, mendR_no he]
    exact if_pos he
   rw [hE] at hQ
   (repeat' (first | refine a_mv ?_ | (apply R.step; (apply Ok.neIT; exact rfl; exact rfl; exact he); exact rfl) | (refine a_go ?_; intros) | refine a_sp (fun h => ?_) fun h => ?_ | fail))
   (refine Fin.rA ((lb, .cells [.pointer (some ⟨db, 0, none⟩), .int .i64 lim, .slice Apv npv cpv].toArray 78 (0, 0)) :: (eh ++ (hp2 ++ H))) ?_)
   exact ⟨rfl, hM1.trans_ hM2, hp2, ho2, rfl⟩
 ·have hk00 : k = 0 := by omega
  subst hk00
  rw [List.take_zero] at hmr
  have hmr2 : mendR d ns.tail.reverse = (0, d1) := hmr
  have hE : mendD d ns f it = mendE d1 f it := by
   unfold mendD
   rw [hmr2]
   exact if_neg (fun h => h rfl)
  rw [hE] at hQ
  by_cases hit : it.length = 0
  ·have hE2 : mendE d1 f it = (remE d1 (nameS f), opD (remE d1 (nameS f)) d1 (.rem (nameS f))) := if_pos hit
   rw [hE2] at hQ
   (repeat' (first | refine a_mv ?_ | (apply R.step; (first | (apply Ok.gtF; exact rfl; exact rfl; omega) | (apply Ok.eqIR; exact rfl; exact rfl; omega)); exact rfl) | (refine a_go ?_; intros) | refine a_sp (fun h => ?_) fun h => ?_ | fail))
   (apply C.regionT (t := .free 0 (.free 1 (.free 2 (.free 3 (.free 4 (.free 5 (.free 6 (.one 7 (.free 8 .nil))))))))) (Hs := [(b5, .cells #[.int .u64 ↑f, .slice Al it.length cl, .slice Ae it.length ce] 85 (0, 0)), (lb, .cells [.pointer (some ⟨db, 0, none⟩), .int .i64 lim, .slice Apv npv cpv].toArray 78 (0, 0))]); exact Mix.h; (first | exact Arr.all _ | (exact a_arr) | (exact a_arrs)); (exact a_np); kernel_rfl)
   (repeat' (first | (apply RT.step; exact rfl; intro _ _ _; (apply Ok.move; exact rfl); exact rfl) | (apply RT.callQ; exact rfl; exact inferInstance; (exact a_evs); exact rfl; (intro M' Hx' hM'; exact segName_K (n := f) (by omega))) | refine a_ot ?_ | fail))
   (apply RT.one; apply OneT.eff; exact rfl; intro Kc hKc ops0)
   apply R.arr (H2 := hp1 ++ ((b5, .cells #[.int .u64 (f : Int), .slice Al it.length cl, .slice Ae it.length ce] 85 (0, 0)) :: (lb, .cells [.pointer (some ⟨db, 0, none⟩), .int .i64 lim, .slice Apv npv cpv].toArray 78 (0, 0)) :: (eh ++ H))) (by (exact a_arrs))
   (apply R.call; (exact a_evs); exact rfl; exact remove_K (n := nameS f) ho1 (by omega); rintro _ M2 _ ⟨rfl, hM2, hp2, ho2, rfl⟩)
   (apply R.nil; apply Fin.kt (Hx := eh ++ (hp2 ++ H)) hKc; exact hM2; (exact a_arrs))
   (repeat' (first | refine a_ot ?_ | fail))
   apply RT.nil
   (repeat' (first | (refine a_go ?_; intros) | refine a_sp (fun h => ?_) fun h => ?_ | fail))
   (refine Fin.rA ((lb, .cells [.pointer (some ⟨db, 0, none⟩), .int .i64 lim, .slice Apv npv cpv].toArray 78 (0, 0)) :: (eh ++ (hp2 ++ H))) ?_)
   exact ⟨rfl, hM1.trans_ hM2, hp2, ho2, rfl⟩
  ·have hE2 : mendE d1 f it = (trcE d1 (nameS f) ((it.map Prod.snd).sum : Int), opD (trcE d1 (nameS f) ((it.map Prod.snd).sum : Int)) d1 (.trc (nameS f) (it.map Prod.snd).sum)) := if_neg hit
   rw [hE2] at hQ
   (repeat' (first | refine a_mv ?_ | (apply R.step; (first | (apply Ok.gtF; exact rfl; exact rfl; omega) | (apply Ok.eqIF; exact rfl; exact rfl; omega)); exact rfl) | (refine a_go ?_; intros) | refine a_sp (fun h => ?_) fun h => ?_ | fail))
   (apply C.regionT (t := .free 0 (.free 1 (.free 2 (.free 3 (.free 4 (.free 5 (.free 6 (.free 7 (.one 8 (.one 9 (.free 10 .nil))))))))))) (Hs := [(b5, .cells #[.int .u64 ↑f, .slice Al it.length cl, .slice Ae it.length ce] 85 (0, 0)), (lb, .cells [.pointer (some ⟨db, 0, none⟩), .int .i64 lim, .slice Apv npv cpv].toArray 78 (0, 0))]); exact Mix.h; (first | exact Arr.all _ | (exact a_arr) | (exact a_arrs)); (exact a_np); kernel_rfl)
   (repeat' (first | (apply RT.step; exact rfl; intro _ _ _; (apply Ok.move; exact rfl); exact rfl) | (apply RT.callQ; exact rfl; exact inferInstance; (exact a_evs); exact rfl; (intro M' Hx' hM'; exact segName_K (n := f) (by omega))) | refine a_ot ?_ | fail))
   (apply RT.one; apply OneT.eff; exact rfl; intro Kc hKc ops0)
   apply R.arr (H2 := eh ++ ((b5, .cells #[.int .u64 (f : Int), .slice Al it.length cl, .slice Ae it.length ce] 85 (0, 0)) :: (lb, .cells [.pointer (some ⟨db, 0, none⟩), .int .i64 lim, .slice Apv npv cpv].toArray 78 (0, 0)) :: (hp1 ++ H))) (by (exact a_art))
   (apply R.call; (exact a_evs); exact rfl; exact psize_KL rfl ht hml (by omega); rintro _ M1 _ ⟨rfl, rfl, rfl⟩)
   (apply R.nil; apply Fin.kt (Hx := eh ++ (hp1 ++ H)) hKc; exact Mem.le_refl _; (exact a_arrs))
   (repeat' (first | refine a_ot ?_ | fail))
   (apply RT.one; apply OneT.eff; exact rfl; intro Kc hKc ops0)
   apply R.arr (H2 := hp1 ++ ((b5, .cells #[.int .u64 (f : Int), .slice Al it.length cl, .slice Ae it.length ce] 85 (0, 0)) :: (lb, .cells [.pointer (some ⟨db, 0, none⟩), .int .i64 lim, .slice Apv npv cpv].toArray 78 (0, 0)) :: (eh ++ H))) (by (exact a_arrs))
   (apply R.call; (exact a_evs); exact rfl; exact truncate_K (n := nameS f) (k := ((it.map Prod.snd).sum : Int)) ho1 (by omega); rintro _ M2 _ ⟨rfl, hM2, hp2, ho2, rfl⟩)
   rw [Int.toNat_natCast] at ho2
   (apply R.nil; apply Fin.kt (Hx := eh ++ (hp2 ++ H)) hKc; exact hM2; (exact a_arrs))
   (repeat' (first | refine a_ot ?_ | fail))
   apply RT.nil
   (repeat' (first | (refine a_go ?_; intros) | refine a_sp (fun h => ?_) fun h => ?_ | fail))
   (refine Fin.rA ((lb, .cells [.pointer (some ⟨db, 0, none⟩), .int .i64 lim, .slice Apv npv cpv].toArray 78 (0, 0)) :: (eh ++ (hp2 ++ H))) ?_)
   exact ⟨rfl, hM1.trans_ hM2, hp2, ho2, rfl⟩
end Go.Sx
end
section
namespace Go.Sx
open Go Go.Proofs Go.RowKit
attribute [local irreducible] C R Fin K Own OwnT Rd Pl Ok KOf RetOk OpsOf RP KP Res NoPanic KV KE MapS ItS EntS FsO FsR RowD PlD
variable {M M' : Mem} {H H1 H2 : Hp}
def tornF (F : Fs) (x : De) (torn : Int) : Fs := match x with
 | .app n b => if 0 < b.length ∧ 0 < (torn % (b.length : Int)).toNat then doF F (.app n (b.take (torn % (b.length : Int)).toNat)) else F
 | _ => F
def keepD (d : Dk) (keep : Int) : Nat := (keep % (d.ps.length + 1 : Nat)).toNat
def crashF (d : Dk) (keep torn : Int) : Fs := match d.ps[keepD d keep]? with
 | some x => tornF ((d.ps.take (keepD d keep)).foldl doF d.S) x torn
 | none => (d.ps.take (keepD d keep)).foldl doF d.S
def crashD (d : Dk) (keep torn : Int) : Dk := ⟨d.room, crashF d keep torn, [], -1, false⟩
theorem Runs.at : ∀ {ps : List De} {F : Fs}, Runs F ps → ∀ {i : Nat} (hi : i < ps.length), Fit ((ps.take i).foldl doF F) ps[i]
 | _ :: _, _, h, 0, _ => h.1
 | x :: _, F, h, i + 1, hi => Runs.at (F := doF F x) h.2 (Nat.lt_of_succ_lt_succ hi)
theorem Runs.sumAt : ∀ {ps : List De} {F : Fs}, sumF F ≤ 1048576 → Runs F ps → ∀ i, sumF ((ps.take i).foldl doF F) ≤ 1048576
 | [], _, h, _, i => by rw [List.take_nil]; exact h
 | _ :: _, _, h, _, 0 => h
 | x :: _, F, _, h, i + 1 => Runs.sumAt (F := doF F x) h.1.1 h.2 i
theorem foldl_nodup : ∀ {ps : List De} {F : Fs}, (keyS F).Nodup → (keyS (ps.foldl doF F)).Nodup
 | [], _, h => h
 | x :: ps, F, h => foldl_nodup (ps := ps) (F := doF F x) (doF_keys h)
theorem torn_fit {F : Fs} {n b : Txt} (hn : (keyS F).Nodup) (h : Fit F (.app n b)) (k : Nat) : Fit F (.app n (b.take k)) := by
 refine ⟨?_, trivial⟩
 have h0 := h.1
 have h1 := sumF_put (b := fileD F n ++ b) (n := n) hn
 have h2 := sumF_put (b := fileD F n ++ b.take k) (n := n) hn
 show sumF (putS F n (fileD F n ++ b.take k)) ≤ _
 change sumF (putS F n (fileD F n ++ b)) ≤ _ at h0
 rw [List.length_append] at h1 h2
 rw [List.length_take] at h2
 omega
theorem torn_sum {F : Fs} {x : De} {torn : Int} (hn : (keyS F).Nodup) (hs : sumF F ≤ 1048576) (h : Fit F x) : sumF (tornF F x torn) ≤ 1048576 := by
 cases x with
 | app n b =>
  unfold tornF
  dsimp only
  split
  ·exact (torn_fit hn h _).1
  ·exact hs
 | trc n k => exact hs
 | ren n t => exact hs
 | rem n => exact hs
structure CrX where
 i : Nat
 ii : Int
 so : Obj
 M : Mem
structure CrY where
 so : Obj
 M : Mem
theorem crash_K {db : Nat} {d : Dk} {hp : Hp} {keep torn : Int} (ho : DkO M db d hp) (hlen : d.ps.length ≤ 1000000) : K Tryz.prog 17 [.pointer (some ⟨db, 0, none⟩), .int .i64 keep, .int .i64 torn] M (hp ++ H) fun v' M' H' => v' = .int .i64 (keepD d keep : Int) ∧ M.le M' ∧ ∃ hp', DkO M' db (crashD d keep torn) hp' ∧ H' = hp' ++ H := by
 obtain ⟨hok, sb, nb, so, no, pv, hr, h1, h2, h3, rfl⟩ := ho
 have hnS := h1.nodup
 refine K.enterK Tryz.func17 rfl rfl rfl ?_
 intro Q hNP hQ
 apply C.ice (hp := hr) (H1 := (db, dkB d.room sb nb pv d.fuse d.down) :: (sb, so) :: H) (by (exact a_arrs))
 intro M1 hM1 hin
 obtain ⟨A1, c1, rfl, hc1, hc2⟩ := h3.form
 unfold maxLen at hc2
 have h4 := h3.pl hM1 hin
 have h5 := h1.mono hM1
 clear h1 h2 h3 hin
 have hk0 : 0 ≤ keep % ((d.ps.length + 1 : Nat) : Int) := Int.emod_nonneg _ (by omega)
 have hk1 : keep % ((d.ps.length + 1 : Nat) : Int) < ((d.ps.length + 1 : Nat) : Int) := Int.emod_lt_of_pos _ (by omega)
 obtain ⟨k, hk⟩ : ∃ k, k = keepD d keep := ⟨_, rfl⟩
 have hkk : keep % ((d.ps.length + 1 : Nat) : Int) = (k : Int) := by rw [hk]; unfold keepD; omega
 have hkl : k ≤ d.ps.length := by omega
 unfold dkB
 (repeat' (first | (refine a_ba ?_; intro ba) | (refine a_go ?_; intros) | refine a_sp (fun h => ?_) fun h => ?_ | fail))
 (apply R.call; (exact a_evs); exact rfl); exact within_K keep ((d.ps.length : Int) + 1) (by omega) (by omega); rintro _ M1 _ ⟨rfl, rfl, rfl⟩
 rw [show (d.ps.length : Int) + 1 = ((d.ps.length + 1 : Nat) : Int) by omega, hkk]
 (repeat' (first | refine a_mv ?_ | (apply R.step; (apply Ok.sliceHi; exact rfl; exact rfl; omega; omega); exact rfl) | (refine a_ba ?_; intro ba) | (refine a_go ?_; intros) | refine a_sp (fun h => ?_) fun h => ?_ | fail))
 apply C.loop (fun y : CrX => (y.i : Int) = y.ii ∧ y.i ≤ k ∧ M1.le y.M ∧ FsO y.M y.so ((d.ps.take y.i).foldl doF d.S))
  (fun y => [(0, .pointer (some ⟨db, 0, none⟩)), (2, .int .i64 torn), (7, .int .i64 (k : Int)), (31, .slice A1 ((k : Int)).toNat c1), (32, .int .i64 (k : Int)), (33, .int .i64 y.ii)]) (fun y => y.M) (fun y => (db, .cells [.int .i64 d.room, .map (some sb), .map (some sb), .slice A1 d.ps.length c1, .int .i64 d.fuse, .bool d.down].toArray 107 (0, 0)) :: (sb, y.so) :: H) (fun y => k - y.i) ⟨0, 0, so, M1⟩
 ·exact ⟨rfl, Nat.zero_le _, Mem.le_refl _, h5⟩
 ·(exact a_subs)
 ·exact rfl
 ·exact rfl
 rintro ⟨i, ii, so1, M2⟩ ⟨hii, hik, hM2, hf⟩
 dsimp only at hii hik hM2 hf ⊢
 by_cases hlt : i < k
 ·have hip : i < d.ps.length := by omega
  obtain ⟨b0, o0, cc, e0, f0, dc, rfl, hMb, hdc, hcell⟩ := (h4.mono hM2).at hip
  have hfit := hok.2.2.2.at hip
  have hc5 := hdc.cells
  obtain ⟨c0, d1, d2, d3, d4, rfl⟩ : ∃ c0 c1 c2 c3 c4, dc = [c0, c1, c2, c3, c4] := by
   match dc, hc5.1 with
   | [a, b, c, d, e], _ => exact ⟨a, b, c, d, e, rfl⟩
  have hcell2 : ∀ (q : Nat) u, [c0, d1, d2, d3, d4][q]? = some u → cc[o0 + ii.toNat * 5 + q]? = some u := fun q u hq => by
   rw [show ii.toNat = i by omega]
   exact hcell q u hq
  clear hcell
  (repeat' (first | (refine a_ba ?_; intro ba) | (refine a_go ?_; intros) | refine a_sp (fun h => ?_) fun h => ?_ | fail))
  ·(apply R.store (vs := [c0, d1, d2, d3, d4]); exact rfl; exact rfl; exact rfl; (exact a_at); (exact a_blit); exact rfl; exact hc5.2)
   (repeat' (first | (refine a_ba ?_; intro ba) | (refine a_go ?_; intros) | refine a_sp (fun h => ?_) fun h => ?_ | fail))
   apply C.arr (H2 := (ba, .cells [c0, d1, d2, d3, d4].toArray 109 (0, 0)) :: (db, .cells [.int .i64 d.room, .map (some sb), .map (some sb), .slice (some ⟨b0, o0, none⟩) d.ps.length c1, .int .i64 d.fuse, .bool d.down].toArray 107 (0, 0)) :: (sb, so1) :: H) (by (exact a_arrs))
   (apply C.regionO (ks := [1, 1, 1, 1, 1, 0]) (is := [0, 1, 2, 3, 4, 5]) (Hs := [(ba, .cells [c0, d1, d2, d3, d4].toArray 109 (0, 0)), (db, .cells [.int .i64 d.room, .map (some sb), .map (some sb), .slice (some ⟨b0, o0, none⟩) d.ps.length c1, .int .i64 d.fuse, .bool d.down].toArray 107 (0, 0))]); exact Mix.h; (first | exact Arr.all _ | (exact a_arr)); (exact a_np); (exact a_picked); kernel_rfl; intro _ e; subst e)
   (repeat' (first | refine a_op ?_ | (apply RP.callQ; (exact a_evs); exact rfl)))
   (apply RP.eff; intro Kc hKc ops0)
   (apply R.call; (exact a_evs); exact rfl; (apply K.arr (h := does_K (nb := sb) hf hdc hfit)); (exact a_art); rintro _ M3 _ ⟨rfl, hM3, so2, hf3, rfl⟩)
   (apply R.nil; apply Fin.kpB (E := []) hKc; exact hM3; (exact a_art))
   (first | apply RP.nil0 | apply RP.nil)
   (repeat' (first | (refine a_ba ?_; intro ba) | (refine a_go ?_; intros) | refine a_sp (fun h => ?_) fun h => ?_ | fail))
   apply Fin.arr (H2 := (db, .cells [.int .i64 d.room, .map (some sb), .map (some sb), .slice (some ⟨b0, o0, none⟩) d.ps.length c1, .int .i64 d.fuse, .bool d.down].toArray 107 (0, 0)) :: (sb, so2) :: H) (by (exact a_arrs))
   refine Fin.again (⟨i + 1, ii + 1, so2, M3⟩ : CrX) ⟨by dsimp only; omega, by dsimp only; omega, hM2.trans_ hM3, ?_⟩ (by dsimp only; omega) ?_ rfl rfl
   ·dsimp only
    rw [List.take_succ_eq_append_getElem hip, List.foldl_append]
    exact hf3
   (exact a_subs)
  all_goals (exfalso; omega)
 ·have hie : i = k := by omega
  subst hie
  have hpre := Runs.sumAt hok.2.2.1 hok.2.2.2 i
  have hnp : (keyS ((d.ps.take i).foldl doF d.S)).Nodup := foldl_nodup hnS
  (repeat' (first | (refine a_ba ?_; intro ba) | (refine a_g0 ?_; intros) | refine a_s3 (fun h => ?_) fun h => ?_ | fail))
  (apply C.seqK; intro _ _)
  (apply C.condDec; exact rfl; (intro h; exfalso; omega); intro _)
  (repeat' (first | (refine a_ba ?_; intro ba) | (refine a_g0 ?_; intros) | refine a_s3 (fun h => ?_) fun h => ?_ | fail))
  have hno : d.ps.length ≤ i → crashF d keep torn = (d.ps.take i).foldl doF d.S := fun h => by
   unfold crashF
   rw [← hk, List.getElem?_eq_none h]
  have hyes : ∀ (h : i < d.ps.length), crashF d keep torn = tornF ((d.ps.take i).foldl doF d.S) d.ps[i] torn := fun h => by
   unfold crashF
   rw [← hk, List.getElem?_eq_getElem h]
  have hcs : sumF (crashF d keep torn) ≤ 1048576 := by
   by_cases hip : i < d.ps.length
   ·rw [hyes hip]
    exact torn_sum hnp hpre (hok.2.2.2.at hip)
   ·rw [hno (by omega)]
    exact hpre
  apply C.seqCut (X := CrY) (fun y => M1.le y.M ∧ FsO y.M y.so (crashF d keep torn)) (fun _ => [(0, .pointer (some ⟨db, 0, none⟩)), (7, .int .i64 (i : Int))]) (fun y => y.M) (fun y => (db, .cells [.int .i64 d.room, .map (some sb), .map (some sb), .slice A1 d.ps.length c1, .int .i64 d.fuse, .bool d.down].toArray 107 (0, 0)) :: (sb, y.so) :: H)
  ·by_cases hip : i < d.ps.length
   ·rw [hyes hip]
    have hfit := hok.2.2.2.at hip
    obtain ⟨b0, o0, cc, e0, f0, dc, rfl, hMb, hdc, hcell⟩ := (h4.mono hM2).at hip
    have hcell2 : ∀ (q : Nat) u, dc[q]? = some u → cc[o0 + ((i : Nat) : Int).toNat * 5 + q]? = some u := fun q u hq => hcell q u hq
    clear hcell hyes hno hcs
    generalize d.ps[i] = x at hdc hfit ⊢
    cases x with
    | trc n kk =>
     have hc5 := hdc.cells.2
     subst hdc
     (repeat' (first | (refine a_ba ?_; intro ba) | (refine a_go ?_; intros) | refine a_sp (fun h => ?_) fun h => ?_ | fail))
     ·(apply R.store (vs := [.int .i64 1, str n, str [], .slice none 0 0, .int .i64 ↑kk]); exact rfl; exact rfl; exact rfl; (exact a_at); (exact a_blit); exact rfl; exact hc5)
      (repeat' (first | (refine a_ba ?_; intro ba) | (refine a_go ?_; intros) | refine a_sp (fun h => ?_) fun h => ?_ | fail))
      apply Fin.arr (H2 := (db, .cells [.int .i64 d.room, .map (some sb), .map (some sb), .slice (some ⟨b0, o0, none⟩) d.ps.length c1, .int .i64 d.fuse, .bool d.down].toArray 107 (0, 0)) :: (sb, so1) :: H) (by (exact a_arrs))
      refine Fin.join (⟨so1, M2⟩ : CrY) ⟨hM2, hf⟩ ?_ rfl rfl
      (exact a_subs)
     all_goals (exfalso; omega)
    | ren n t =>
     have hc5 := hdc.cells.2
     subst hdc
     (repeat' (first | (refine a_ba ?_; intro ba) | (refine a_go ?_; intros) | refine a_sp (fun h => ?_) fun h => ?_ | fail))
     ·(apply R.store (vs := [.int .i64 2, str n, str t, .slice none 0 0, .int .i64 0]); exact rfl; exact rfl; exact rfl; (exact a_at); (exact a_blit); exact rfl; exact hc5)
      (repeat' (first | (refine a_ba ?_; intro ba) | (refine a_go ?_; intros) | refine a_sp (fun h => ?_) fun h => ?_ | fail))
      apply Fin.arr (H2 := (db, .cells [.int .i64 d.room, .map (some sb), .map (some sb), .slice (some ⟨b0, o0, none⟩) d.ps.length c1, .int .i64 d.fuse, .bool d.down].toArray 107 (0, 0)) :: (sb, so1) :: H) (by (exact a_arrs))
      refine Fin.join (⟨so1, M2⟩ : CrY) ⟨hM2, hf⟩ ?_ rfl rfl
      (exact a_subs)
     all_goals (exfalso; omega)
    | rem n =>
     have hc5 := hdc.cells.2
     subst hdc
     (repeat' (first | (refine a_ba ?_; intro ba) | (refine a_go ?_; intros) | refine a_sp (fun h => ?_) fun h => ?_ | fail))
     ·(apply R.store (vs := [.int .i64 3, str n, str [], .slice none 0 0, .int .i64 0]); exact rfl; exact rfl; exact rfl; (exact a_at); (exact a_blit); exact rfl; exact hc5)
      (repeat' (first | (refine a_ba ?_; intro ba) | (refine a_go ?_; intros) | refine a_sp (fun h => ?_) fun h => ?_ | fail))
      apply Fin.arr (H2 := (db, .cells [.int .i64 d.room, .map (some sb), .map (some sb), .slice (some ⟨b0, o0, none⟩) d.ps.length c1, .int .i64 d.fuse, .bool d.down].toArray 107 (0, 0)) :: (sb, so1) :: H) (by (exact a_arrs))
      refine Fin.join (⟨so1, M2⟩ : CrY) ⟨hM2, hf⟩ ?_ rfl rfl
      (exact a_subs)
     all_goals (exfalso; omega)
    | app n b =>
     have hc5 := hdc.cells.2
     obtain ⟨bb, rfl, hbv⟩ := hdc
     obtain ⟨A2, c2, rfl, hb1, hb2, hb3⟩ := id hbv
     have hbl : b.length ≤ 1048576 := by
      have h1 : fileD (doF ((d.ps.take i).foldl doF d.S) (.app n b)) n = fileD ((d.ps.take i).foldl doF d.S) n ++ b := fileD_put hnp
      have h2 : (fileD (doF ((d.ps.take i).foldl doF d.S) (.app n b)) n).length ≤ 1048576 := Nat.le_trans fileD_len hfit.1
      rw [h1, List.length_append] at h2
      omega
     (repeat' (first | (refine a_ba ?_; intro ba) | (refine a_go ?_; intros) | refine a_sp (fun h => ?_) fun h => ?_ | fail))
     ·(apply R.store (vs := [.int .i64 0, str n, str [], .slice A2 b.length c2, .int .i64 0]); exact rfl; exact rfl; exact rfl; (exact a_at); (exact a_blit); exact rfl; exact hc5)
      (repeat' (first | (refine a_ba ?_; intro ba) | (refine a_go ?_; intros) | refine a_sp (fun h => ?_) fun h => ?_ | fail))
      ·have hb0 : 0 < b.length := by
        have h : (0 : Int) < (b.length : Int) := by assumption
        omega
       have ht0 : 0 ≤ torn % (b.length : Int) := Int.emod_nonneg _ (by omega)
       have ht1 : torn % (b.length : Int) < (b.length : Int) := Int.emod_lt_of_pos _ (by omega)
       obtain ⟨tn, htn⟩ : ∃ tn : Nat, torn % (b.length : Int) = (tn : Int) := ⟨_, (Int.toNat_of_nonneg ht0).symm⟩
       (apply C.regionE (isA := [0, 1, 2, 3, 4, 5, 6, 7]) (ksA := [true, true, true, true, true, true, false, true]) (isB := [8, 9]) (ksB := [1, 0]) (Hs := [(ba, .cells [.int .i64 0, str n, str [], .slice A2 b.length c2, .int .i64 0].toArray 109 (0, 0))]); exact Mix.h; (first | exact Arr.all _ | (exact a_arr)); (exact a_np); (exact a_picked); (exact a_picked); kernel_rfl; intro _ e; subst e)
       (repeat' (first | fail | (apply RQ.step; intro _ _ _; (exact a_ok); exact rfl) | (apply RQ.stepT; exact rfl; exact rfl; exact rfl; intro _ _ _; (exact a_ok); exact rfl) | (apply RQ.stepF; exact rfl; exact rfl; exact rfl; exact rfl; exact rfl)))
       (apply RQ.eff; intro Kc hKc ops0)
       (apply R.call; (exact a_evs); exact rfl); exact within_K torn (b.length : Int) (by omega) (by omega); rintro _ M2 _ ⟨rfl, rfl, rfl⟩
       (apply R.nil; apply Fin.kq hKc; exact Mem.le_refl _; (exact a_arr))
       rw [htn]
       (repeat' (first | (apply RQ.step; intro _ _ _; (apply Ok.sliceHi; exact rfl; exact rfl; omega; omega); exact rfl) | (apply RQ.step; intro _ _ _; (exact a_ok); exact rfl) | (apply RQ.stepT; exact rfl; exact rfl; exact rfl; intro _ _ _; (exact a_ok); exact rfl) | (apply RQ.stepF; exact rfl; exact rfl; exact rfl; exact rfl; exact rfl)))
       apply RQ.nil
       (repeat' (first | refine a_op ?_ | (apply RP.callQ; (exact a_evs); exact rfl)))
       (apply RP.eff; intro Kc hKc ops0)
       (apply R.store (vs := [.slice A2 ((tn : Int)).toNat c2]); exact rfl; exact rfl; exact rfl; (exact a_at); (exact a_blit); exact rfl; (intro u hu; rw [List.mem_singleton] at hu; rw [hu]; rfl))
       (apply R.nil; apply Fin.kp hKc; exact Mem.le_refl _; (exact a_arr))
       (first | apply RP.nil0 | apply RP.nil)
       have htl : (b.take tn).length = ((tn : Int)).toNat := by rw [List.length_take]; omega
       have hb4 : PlB M2 (.slice A2 ((tn : Int)).toNat c2) (b.take tn) := ⟨A2, c2, by rw [htl], by omega, hb2, by rw [List.map_take]; exact hb3.take tn⟩
       (repeat' (first | (refine a_ba ?_; intro ba) | (refine a_go ?_; intros) | refine a_sp (fun h => ?_) fun h => ?_ | fail))
       ·have hpos : 0 < tn := by
         have h : (0 : Int) < (((tn : Int)).toNat : Int) := by assumption
         omega
        have hE : tornF ((d.ps.take i).foldl doF d.S) (.app n b) torn = doF ((d.ps.take i).foldl doF d.S) (.app n (b.take tn)) := by
         unfold tornF
         dsimp only
         rw [htn]
         exact if_pos ⟨hb0, hpos⟩
        rw [hE]
        apply C.arr (H2 := (ba, .cells [.int .i64 0, str n, str [], .slice A2 ((tn : Int)).toNat c2, .int .i64 0].toArray 109 (0, 0)) :: (db, .cells [.int .i64 d.room, .map (some sb), .map (some sb), .slice (some ⟨b0, o0, none⟩) d.ps.length c1, .int .i64 d.fuse, .bool d.down].toArray 107 (0, 0)) :: (sb, so1) :: H) (by (exact a_arrs))
        (apply C.regionO (ks := [1, 1, 1, 1, 1, 0]) (is := [0, 1, 2, 3, 4, 5]) (Hs := [(ba, .cells [.int .i64 0, str n, str [], .slice A2 (Int.toNat ↑tn) c2, .int .i64 0].toArray 109 (0, 0)), (db, .cells [.int .i64 d.room, .map (some sb), .map (some sb), .slice (some ⟨b0, o0, none⟩) d.ps.length c1, .int .i64 d.fuse, .bool d.down].toArray 107 (0, 0))]); exact Mix.h; (first | exact Arr.all _ | (exact a_arr)); (exact a_np); (exact a_picked); kernel_rfl; intro _ e; subst e)
        (repeat' (first | refine a_op ?_ | (apply RP.callQ; (exact a_evs); exact rfl)))
        (apply RP.eff; intro Kc hKc ops0)
        (apply R.call; (exact a_evs); exact rfl; (apply K.arr (h := does_K (nb := sb) (x := .app n (b.take tn)) hf ⟨_, rfl, hb4⟩ (torn_fit hnp hfit tn))); (exact a_art); rintro _ M3 _ ⟨rfl, hM3, so2, hf3, rfl⟩)
        (apply R.nil; apply Fin.kpB (E := []) hKc; exact hM3; (exact a_art))
        (first | apply RP.nil0 | apply RP.nil)
        (repeat' (first | (refine a_ba ?_; intro ba) | (refine a_go ?_; intros) | refine a_sp (fun h => ?_) fun h => ?_ | fail))
        apply Fin.arr (H2 := (db, .cells [.int .i64 d.room, .map (some sb), .map (some sb), .slice (some ⟨b0, o0, none⟩) d.ps.length c1, .int .i64 d.fuse, .bool d.down].toArray 107 (0, 0)) :: (sb, so2) :: H) (by (exact a_arrs))
        refine Fin.join (⟨so2, M3⟩ : CrY) ⟨hM2.trans_ hM3, hf3⟩ ?_ rfl rfl
        (exact a_subs)
       ·have hz : tn = 0 := by
         have h : ¬ (0 : Int) < (((tn : Int)).toNat : Int) := by assumption
         omega
        have hE : tornF ((d.ps.take i).foldl doF d.S) (.app n b) torn = (d.ps.take i).foldl doF d.S := by
         unfold tornF
         dsimp only
         rw [htn]
         exact if_neg (fun h => by have := h.2; omega)
        rw [hE]
        apply Fin.arr (H2 := (db, .cells [.int .i64 d.room, .map (some sb), .map (some sb), .slice (some ⟨b0, o0, none⟩) d.ps.length c1, .int .i64 d.fuse, .bool d.down].toArray 107 (0, 0)) :: (sb, so1) :: H) (by (exact a_arrs))
        refine Fin.join (⟨so1, M2⟩ : CrY) ⟨hM2, hf⟩ ?_ rfl rfl
        (exact a_subs)
      ·have hz : ¬ 0 < b.length := by
        have h : ¬ (0 : Int) < (b.length : Int) := by assumption
        omega
       have hE : tornF ((d.ps.take i).foldl doF d.S) (.app n b) torn = (d.ps.take i).foldl doF d.S := if_neg (fun h => hz h.1)
       rw [hE]
       apply Fin.arr (H2 := (db, .cells [.int .i64 d.room, .map (some sb), .map (some sb), .slice (some ⟨b0, o0, none⟩) d.ps.length c1, .int .i64 d.fuse, .bool d.down].toArray 107 (0, 0)) :: (sb, so1) :: H) (by (exact a_arrs))
       refine Fin.join (⟨so1, M2⟩ : CrY) ⟨hM2, hf⟩ ?_ rfl rfl
       (exact a_subs)
     all_goals (exfalso; omega)
   ·rw [hno (by omega)]
    (repeat' (first | (refine a_ba ?_; intro ba) | (refine a_go ?_; intros) | refine a_sp (fun h => ?_) fun h => ?_ | fail))
    ·exfalso; omega
    ·refine Fin.join (⟨so1, M2⟩ : CrY) ⟨hM2, hf⟩ ?_ rfl rfl
     (exact a_subs)
  ·rintro ⟨so2, M3⟩ ⟨hM3, hf3⟩
   dsimp only at hM3 hf3 ⊢
   (repeat' (first | (refine a_ba ?_; intro ba) | (refine a_go ?_; intros) | refine a_sp (fun h => ?_) fun h => ?_ | fail))
   (apply R.call; (exact a_evs); exact rfl; (apply K.arr (h := settle_K (db := db) (sb := sb) (nb := sb) (room := d.room) (fuse := d.fuse) (down := d.down) (pv := .slice A1 d.ps.length c1) (H := H) hf3)); (exact a_arrs); rintro _ M3 _ ⟨rfl, rfl, sb', so', f1, rfl⟩)
   (repeat' (first | (refine a_ba ?_; intro ba) | (refine a_go ?_; intros) | refine a_sp (fun h => ?_) fun h => ?_ | fail))
   (refine Fin.rA ((db, dkB d.room sb' sb (.slice none 0 0) (-1) false) :: (sb, so2) :: (sb', so') :: H) ?_)
   exact ⟨by rw [hk], hM1.trans_ hM3, (db, dkB d.room sb' sb (.slice none 0 0) (-1) false) :: (sb, so2) :: (sb', so') :: [], ⟨⟨hok.1, ⟨Int.le_refl _, show (-1 : Int) ≤ 4611686018427387904 by decide⟩, hcs, trivial⟩, sb', sb, so', so2, .slice none 0 0, [], f1, hf3, RowD.nil, rfl⟩, rfl⟩
end Go.Sx
end
section
namespace Go.Sx
open Go.RowKit Go.Sort Go.Proofs
def sortT (ss : List Txt) : List Txt := ss.mergeSort (fun x y => decide (x ≤ y))
theorem sortT_nil : sortT [] = [] := by
 unfold sortT
 simp
theorem sortT_perm (ss : List Txt) : (sortT ss).Perm ss := List.mergeSort_perm ..
theorem sortT_of_perm {l l' : List Txt} (h : l.Perm l') : sortT l = sortT l' := mergeSort_of_perm h
theorem sortT_len (ss : List Txt) : (sortT ss).length = ss.length := (sortT_perm ss).length_eq
def SortC (P : Program) (f : Nat) : Prop := (∀ (blk off cap : Nat) (ss : List (List UInt8)) (w : World), Holds encStr w blk off ss.toArray → blk < w.heap.size → ss.length < 4611686018427387904 →
  Calls P f #[.slice (some ⟨blk, off, none⟩) ss.length cap] w fun e w' => e = .returned (.tuple #[]) ∧ ∃ n os, w' = grow (putRow encStr (Sort.ahead w n) blk off (ss.mergeSort fun x y => decide (x ≤ y)).toArray) os) ∧
 ∀ (p : Option Addr) (cap : Nat) (w : World), Calls P f #[.slice p 0 cap] w fun e w' => e = .returned (.tuple #[]) ∧ w' = w
section
variable {P : Program} {f : Nat} {M : Mem} {H hp : Hp} {w : World}
theorem putCells_take (c : Array Value) (ss : List Txt) (h : ss.length ≤ c.size) : (putCells encStr 0 ss.toArray c).size = c.size ∧ (putCells encStr 0 ss.toArray c).toList.take ss.length = ss.map str := by
 refine ⟨by simp [putCells], ?_⟩
 apply List.ext_getElem?
 intro j
 rw [List.getElem?_take, List.getElem?_map, Array.getElem?_toList]
 by_cases hj : j < ss.length
 ·rw [if_pos hj]
  unfold putCells
  rw [Array.getElem?_mapIdx, Array.getElem?_eq_getElem (by omega)]
  simp [hj, str, encStr]
 ·rw [if_neg hj, List.getElem?_eq_none (by omega)]
  rfl
theorem Heap.grown_ {os : Array Obj} (h : Heap w M H) : Heap (grow w os) M H := by
 have hp : ∀ (b : Nat) (o : Obj), w.heap[b]? = some o → (grow w os).heap[b]? = some o := fun b o hb => by
  unfold grow
  show (w.heap ++ os)[b]? = _
  rw [Array.getElem?_append_left (heap_lt hb)]
  exact hb
 exact ⟨h.os, h.out, fun b o hb => hp b o (h.pool b o hb), fun p hm => hp _ _ (h.own p hm), h.apart, h.nodup⟩
theorem K.sortT {e : Nat} {v : Value} {ss : List Txt} (hc : SortC P f) (ho : Own e 1 v ss.length (ss.map str) hp) (hl : ss.length < 4611686018427387904) :
  K P f [v] M (hp ++ H) fun v' M' H' => v' = .tuple #[] ∧ M' = M ∧ ∃ hp', Own e 1 v ss.length ((sortT ss).map str) hp' ∧ H' = hp' ++ H := by
 intro w hh
 obtain ⟨_, ⟨rfl, hz, rfl⟩ | ⟨b, cap, c, rfl, rfl, c1, c2, c3, c4⟩⟩ := id ho
 ·have he : ss = [] := List.eq_nil_of_length_eq_zero hz
  refine (hc.2 none 0 w).mono ?_
  rintro _ _ ⟨rfl, rfl⟩
  refine ⟨_, M, H, rfl, ⟨rfl, rfl, [], ?_, rfl⟩, hh⟩
  subst he
  rw [sortT_nil]
  exact Own.nil _ _
 ·have hb : w.heap[b]? = some (.cells c e (0, 0)) := hh.own _ (List.mem_cons_self ..)
  rw [Nat.mul_one] at c3 c4
  refine (hc.1 b 0 cap ss w ?_ (heap_lt hb) hl).mono ?_
  ·intro j hj
   have hj' : j < ss.length := by simpa using hj
   have h1 : c[j]? = some (str ss[j]) := by
    have := congrArg (·[j]?) c4
    simp only [List.getElem?_take, hj', if_true, List.getElem?_map, List.getElem?_eq_getElem hj', Option.map_some, Array.getElem?_toList] at this
    exact this
   constructor
   ·simp [World.cell?, hb, h1, str, encStr, hj']
   ·simp [World.frozen?, hb]
  ·rintro _ _ ⟨rfl, n, os, rfl⟩
   have hl2 : (Go.Sx.sortT ss).length = ss.length := sortT_len ss
   obtain ⟨p1, p2⟩ := putCells_take c (Go.Sx.sortT ss) (by omega)
   refine ⟨_, M, [(b, .cells (putCells encStr 0 (Go.Sx.sortT ss).toArray c) e (0, 0))] ++ H, rfl, ⟨rfl, rfl, _, ⟨by rw [List.length_map, hl2, Nat.mul_one], .inr ⟨b, cap, _, rfl, rfl, c1, c2, by rw [p1, c3, Nat.mul_one], by rw [Nat.mul_one, ← hl2]; exact p2⟩⟩, rfl⟩, ?_⟩
   refine Heap.grown_ ?_
   have ha : At ((b, Obj.cells c e (0, 0)) :: H) b (.cells c e (0, 0)) (fun o' => (b, o') :: H) := At.head _ _ _
   refine hh.put ha ?_ ?_ rfl rfl
   ·show ((Sort.ahead w n).heap.modify b _)[b]? = _
    rw [Array.getElem?_modify, if_pos rfl]
    show (w.heap[b]?).map _ = _
    rw [hb]
    rfl
   ·intro k hk
    show ((Sort.ahead w n).heap.modify b _)[k]? = _
    rw [Array.getElem?_modify, if_neg (Ne.symm hk)]
    rfl
end
end Go.Sx
end
section
namespace Go.Proofs
open Go.Shelf
def Tryz.lays190_ren : Go.Shelf.Ren := ⟨fun | 190 => 82 | 125 => 108 | 258 => 107 | 128 => 131 | 129 => 132 | 302 => 122 | 303 => 123 | 304 => 124 | 305 => 125 | 306 => 126 | 307 => 127 | 308 => 128 | 309 => 129 | 310 => 130 | 333 => 137 | 329 => 138 | 330 => 139 | 334 => 140 | 335 => 141 | 336 => 142 | 344 => 143 | n => n, fun | 31 => 80 | 9 => 9 | 3 => 3 | 46 => 63 | 0 => 0 | 51 => 61 | 53 => 27 | 4 => 4 | 183 => 168 | 182 => 167 | 131 => 173 | 5 => 5 | 218 => 183 | 222 => 186 | 228 => 188 | 229 => 189 | n => n, fun | n => n⟩
theorem Tryz.lays190 : Go.Proofs.Lays.n190 Tryz.prog Tryz.lays190_ren := {
 mixed := by kernel_rfl
 f125 := Tryz.func108.trans (congrArg some (by kernel_rfl))
 f128 := Tryz.func131.trans (congrArg some (by kernel_rfl))
 f129 := Tryz.func132.trans (congrArg some (by kernel_rfl))
 f190 := Tryz.func82.trans (congrArg some (by kernel_rfl))
 f258 := Tryz.func107.trans (congrArg some (by kernel_rfl))
 f302 := Tryz.func122.trans (congrArg some (by kernel_rfl))
 f303 := Tryz.func123.trans (congrArg some (by kernel_rfl))
 f304 := Tryz.func124.trans (congrArg some (by kernel_rfl))
 f305 := Tryz.func125.trans (congrArg some (by kernel_rfl))
 f306 := Tryz.func126.trans (congrArg some (by kernel_rfl))
 f307 := Tryz.func127.trans (congrArg some (by kernel_rfl))
 f308 := Tryz.func128.trans (congrArg some (by kernel_rfl))
 f309 := Tryz.func129.trans (congrArg some (by kernel_rfl))
 f310 := Tryz.func130.trans (congrArg some (by kernel_rfl))
 f329 := Tryz.func138.trans (congrArg some (by kernel_rfl))
 f330 := Tryz.func139.trans (congrArg some (by kernel_rfl))
 f333 := Tryz.func137.trans (congrArg some (by kernel_rfl))
 f334 := Tryz.func140.trans (congrArg some (by kernel_rfl))
 f335 := Tryz.func141.trans (congrArg some (by kernel_rfl))
 f336 := Tryz.func142.trans (congrArg some (by kernel_rfl))
 f344 := Tryz.func143.trans (congrArg some (by kernel_rfl))
 t0 := Tryz.underlying0
 a0 := Tryz.isAgg0
 z0 := Tryz.sizeOf0
 v0 := Tryz.zeroValue0
 t3 := Tryz.underlying3
 a3 := Tryz.isAgg3
 z3 := Tryz.sizeOf3
 v3 := Tryz.zeroValue3
 t4 := Tryz.underlying4
 a4 := Tryz.isAgg4
 z4 := Tryz.sizeOf4
 v4 := Tryz.zeroValue4
 t5 := Tryz.underlying5
 a5 := Tryz.isAgg5
 z5 := Tryz.sizeOf5
 v5 := Tryz.zeroValue5
 t9 := Tryz.underlying9
 a9 := Tryz.isAgg9
 z9 := Tryz.sizeOf9
 v9 := Tryz.zeroValue9
 t31 := Tryz.underlying80
 a31 := Tryz.isAgg80
 z31 := Tryz.sizeOf80
 v31 := Tryz.zeroValue80
 t46 := Tryz.underlying63
 a46 := Tryz.isAgg63
 z46 := Tryz.sizeOf63
 v46 := Tryz.zeroValue63
 t51 := Tryz.underlying61
 a51 := Tryz.isAgg61
 z51 := Tryz.sizeOf61
 v51 := Tryz.zeroValue61
 t53 := Tryz.underlying27
 a53 := Tryz.isAgg27
 z53 := Tryz.sizeOf27
 v53 := Tryz.zeroValue27
 t131 := Tryz.underlying173
 a131 := Tryz.isAgg173
 z131 := Tryz.sizeOf173
 v131 := Tryz.zeroValue173
 t182 := Tryz.underlying167
 a182 := Tryz.isAgg167
 z182 := Tryz.sizeOf167
 v182 := Tryz.zeroValue167
 t183 := Tryz.underlying168
 a183 := Tryz.isAgg168
 z183 := Tryz.sizeOf168
 v183 := Tryz.zeroValue168
 t218 := Tryz.underlying183
 a218 := Tryz.isAgg183
 z218 := Tryz.sizeOf183
 v218 := Tryz.zeroValue183
 t222 := Tryz.underlying186
 a222 := Tryz.isAgg186
 z222 := Tryz.sizeOf186
 v222 := Tryz.zeroValue186
 t228 := Tryz.underlying188
 a228 := Tryz.isAgg188
 z228 := Tryz.sizeOf188
 v228 := Tryz.zeroValue188
 t229 := Tryz.underlying189
 a229 := Tryz.isAgg189
 z229 := Tryz.sizeOf189
 v229 := Tryz.zeroValue189 }
open Go.Sort Go.RowKit in
theorem Tryz.slices_Sort_string (blk off cap : Nat) (ss : List (List UInt8)) (w : World) (hH : Holds encStr w blk off ss.toArray) (hblk : blk < w.heap.size) (hsz : ss.length < 4611686018427387904) :
  Calls Tryz.prog 82 #[.slice (some ⟨blk, off, none⟩) ss.length cap] w fun e w' =>
   e = .returned (.tuple #[]) ∧ ∃ n os, w' = grow (putRow encStr (Sort.ahead w n) blk off (ss.mergeSort fun x y => decide (x ≤ y)).toArray) os := Any.slices_Sort_string Tryz.lays190 blk off cap ss w hH hblk hsz
open Go.RowKit Go.Sort in
theorem Tryz.slices_Sort_string_none (p : Option Addr) (cap : Nat) (w : World) :
  Calls Tryz.prog 82 #[.slice p 0 cap] w fun e w' => e = .returned (.tuple #[]) ∧ w' = w := Any.slices_Sort_string_none Tryz.lays190 p cap w
end Go.Proofs
end
section
namespace Go.Sx
open Go Go.Proofs Go.RowKit
attribute [local irreducible] C R Fin K Own OwnT Rd Pl Ok KOf RetOk OpsOf RP KP Res NoPanic KV KE MapS ItS EntS FsO FsR RowD PlD
variable {M M' : Mem} {H H1 H2 : Hp}
def namesD (down : Bool) (F : Fs) : List Txt := if down then [] else sortT (keyS F)
theorem sort_K {v : Value} {ss : List Txt} {hp : Hp} (ho : Own 9 1 v ss.length (ss.map str) hp) (hl : ss.length ≤ 1000000) : K Tryz.prog 82 [v] M (hp ++ H) fun v' M' H' => v' = .tuple #[] ∧ M' = M ∧ ∃ hp', Own 9 1 v ss.length ((sortT ss).map str) hp' ∧ H' = hp' ++ H :=
 K.sortT (P := Tryz.prog) ⟨Tryz.slices_Sort_string, Tryz.slices_Sort_string_none⟩ ho (by omega)
structure NmX where
 ns : List Txt
 v : Value
 hv : Hp
 oi : Obj
 rest : ML
 G : Fs
theorem names_K {db sb nb : Nat} {room fuse : Int} {pv : Value} {down : Bool} {no : Obj} {F : Fs} (hf : FsO M no F) (hl : F.length ≤ 1000000) : K Tryz.prog 35 [.pointer (some ⟨db, 0, none⟩)] M ((db, dkB room sb nb pv fuse down) :: (nb, no) :: H) fun v' M' H' => M' = M ∧ ∃ hn, Own 9 1 v' (namesD down F).length ((namesD down F).map str) hn ∧ H' = hn ++ ((db, dkB room sb nb pv fuse down) :: (nb, no) :: H) := by
 obtain ⟨l, hm, hr, hn⟩ := hf.use
 clear hf
 refine K.enterK Tryz.func35 rfl rfl rfl ?_
 intro Q hNP hQ
 unfold dkB at hQ ⊢
 (repeat' (first | (refine a_go ?_; intros) | refine a_sp (fun h => ?_) fun h => ?_ | fail))
 (apply R.rangeS (b := nb) (o := no); exact rfl; exact a_mm; exact hm; exact rfl; intro it oi hit)
 (repeat' (first | (refine a_go ?_; intros) | refine a_sp (fun h => ?_) fun h => ?_ | fail))
 apply C.loop (fun y : NmX => ItS y.oi no nb y.rest ∧ FsR M y.rest y.G ∧ Own 9 1 y.v y.ns.length (y.ns.map str) y.hv ∧ (down = true → y.ns = []) ∧ (down = false → (y.ns ++ keyS y.G).Perm (keyS F)))
  (fun y => [(0, .pointer (some ⟨db, 0, none⟩)), (3, y.v), (9, .pointer (some ⟨it, 0, none⟩))]) (fun _ => M) (fun y => (it, y.oi) :: (y.hv ++ ((db, .cells [.int .i64 room, .map (some sb), .map (some nb), pv, .int .i64 fuse, .bool down].toArray 107 (0, 0)) :: (nb, no) :: H))) (fun y => y.rest.length) ⟨[], .slice none 0 0, [], oi, l, F⟩
 ·exact ⟨hit, hr, Own.nil _ _, fun _ => rfl, fun _ => List.Perm.refl _⟩
 ·(exact a_subs)
 ·exact rfl
 ·exact rfl
 rintro ⟨ns, v, hv, oi, rest, G⟩ ⟨h1, h2, h3, h4, h5⟩
 dsimp only at h1 h2 h3 h4 h5 ⊢
 obtain ⟨A, c, rfl, k1, k2⟩ := h3.form
 (repeat' (first | (refine a_go ?_; intros) | refine a_sp (fun h => ?_) fun h => ?_ | fail))
 apply R.nextS (it := it) (oi := oi) (b := nb) (o := no)
 ·exact rfl
 ·(exact a_at)
 ·exact a_mm
 ·exact h1
 ·exact rfl
 ·intro hz
  subst hz
  have hG : G = [] := List.eq_nil_of_length_eq_zero h2.len.symm
  subst hG
  have hN : namesD down F = sortT ns := by
   unfold namesD
   cases down with
   | true =>
    rw [h4 rfl, sortT_nil]
    rfl
   | false =>
    have h6 := h5 rfl
    rw [show keyS ([] : Fs) = [] from rfl, List.append_nil] at h6
    exact (sortT_of_perm h6).symm
  have hns : ns.length ≤ 1000000 := by
   cases down with
   | true => rw [h4 rfl]; exact Nat.zero_le _
   | false =>
    have h6 := (h5 rfl).length_eq
    rw [List.length_append] at h6
    unfold keyS at h6
    rw [List.length_map, List.length_map] at h6
    omega
  (repeat' (first | (refine a_go ?_; intros) | refine a_sp (fun h => ?_) fun h => ?_ | fail))
  (apply R.call; (exact a_evs); exact rfl; (apply K.arr (h := sort_K (H := (it, oi) :: (db, .cells [.int .i64 room, .map (some sb), .map (some nb), pv, .int .i64 fuse, .bool down].toArray 107 (0, 0)) :: (nb, no) :: H) h3 hns)); (exact a_arrs); rintro _ M2 _ ⟨rfl, rfl, hp2, ho2, rfl⟩)
  (repeat' (first | (refine a_go ?_; intros) | refine a_sp (fun h => ?_) fun h => ?_ | fail))
  (refine Fin.rA (hp2 ++ ((db, .cells [.int .i64 room, .map (some sb), .map (some nb), pv, .int .i64 fuse, .bool down].toArray 107 (0, 0)) :: (nb, no) :: H)) ?_)
  refine ⟨rfl, hp2, ?_, rfl⟩
  rw [hN, sortT_len]
  exact ho2
 ·intro r1 k v r2 oi2 hrest h6 h7
  subst hrest
  obtain ⟨b, G2, q1, q2, q3⟩ := h2.mid
  obtain ⟨A1, c1, rfl, _, _, _⟩ := q1
  have hl : (r1 ++ r2).length < (r1 ++ (k, Value.slice A1 b.length c1) :: r2).length := by
   rw [List.length_append, List.length_append, List.length_cons]
   omega
  cases down with
  | true =>
   (repeat' (first | refine a_mv ?_ | (apply R.step; (apply Ok.entryS (h := h7); exact rfl; exact a_mm; exact a_mm); exact rfl) | (refine a_go ?_; intros) | refine a_sp (fun h => ?_) fun h => ?_ | fail))
   refine Fin.again (⟨ns, .slice A ns.length c, hv, oi2, r1 ++ r2, G2⟩ : NmX) ⟨h6, q3, h3, h4, fun e => by cases e⟩ hl ?_ rfl rfl
   (exact a_subs)
  | false =>
   have hp := h5 rfl
   have hp2 : (ns ++ [k] ++ keyS G2).Perm (keyS F) := by
    refine List.Perm.trans ?_ hp
    rw [List.append_assoc]
    exact List.Perm.append_left ns (q2.map Prod.fst).symm
   have hns : ns.length ≤ 1000000 := by
    have h8 := hp.length_eq
    rw [List.length_append] at h8
    unfold keyS at h8
    rw [List.length_map, List.length_map] at h8
    omega
   (repeat' (first | refine a_mv ?_ | (apply R.step; (apply Ok.entryS (h := h7); exact rfl; exact a_mm; exact a_mm); exact rfl) | (refine a_go ?_; intros) | refine a_sp (fun h => ?_) fun h => ?_ | fail))
   (apply R.append (news := [str k]) (k := 1); exact rfl; exact rfl; exact h3; (exact a_tk); exact Rd.at_ (l := [str k]) (by (exact a_at)) (fun j u h => by rw [Nat.zero_add]; exact h); exact rfl; (intro u hu; rw [List.mem_singleton] at hu; rw [hu]; rfl); omega; exact rfl; decide; decide; exact rfl; rintro v4 hp4 hown4)
   obtain ⟨A4, c4, rfl, _, _⟩ := hown4.form
   (repeat' (first | (refine a_go ?_; intros) | refine a_sp (fun h => ?_) fun h => ?_ | fail))
   apply Fin.arr (H2 := (it, oi2) :: (hp4 ++ ((db, .cells [.int .i64 room, .map (some sb), .map (some nb), pv, .int .i64 fuse, .bool false].toArray 107 (0, 0)) :: (nb, no) :: H))) (by (exact a_arrs))
   refine Fin.again (⟨ns ++ [k], .slice A4 (ns.length + 1) c4, hp4, oi2, r1 ++ r2, G2⟩ : NmX) ⟨h6, q3, ?_, fun e => (by cases e), fun _ => hp2⟩ hl ?_ rfl rfl
   ·dsimp only
    rw [List.length_append, List.map_append]
    exact hown4
   ·(exact a_subs)
theorem names_KD {db : Nat} {d : Dk} {hp : Hp} (ho : DkO M db d hp) (hl : d.now.length ≤ 1000000) : K Tryz.prog 35 [.pointer (some ⟨db, 0, none⟩)] M (hp ++ H) fun v' M' H' => M' = M ∧ ∃ hn, Own 9 1 v' (namesD d.down d.now).length ((namesD d.down d.now).map str) hn ∧ H' = hn ++ (hp ++ H) := by
 obtain ⟨h0, sb, nb, so, no, pv, hr, h1, h2, h3, rfl⟩ := ho
 exact names_K h2 hl
end Go.Sx
end
section
namespace Go.Sx
open Go.RowKit
section
variable {P : Program} {F : Fence} {b : Frame} {a : Act} {k : List Item} {cs : List Frame} {w : World} {n : Nat} {Q : Exit → Act → World → Prop}
theorem stepR_scope {c : Code} : step P (lone (b.atR a (.code (.scope c) :: k)) cs w) = .next (lone (b.atR a (.code c :: .inScope c :: k)) cs w) :=
 step_lone_go (by simp [stepG, stepG.exec, Frame.atR])
theorem stepR_inScope {c : Code} : step P (lone (b.atR a (.inScope c :: k)) cs w) = .next (lone (b.atR a k) cs w) :=
 step_lone_go (by simp [stepG, stepG.exec, Frame.atR])
theorem wpIn_scope {c : Code} (h : c.wpIn F n P (Exit.noGoto Q) a w) : (Code.scope c).wpIn F n P Q a w := by
 intro b k cs hro hb hr
 have h0 : (lone (b.atR a (.code (.scope c) :: k)) cs w).fenced P F := fenced_calm hb hr rfl
 obtain ⟨e, a₁, w₁, hq, harr⟩ := h b (.inScope c :: k) cs hro hb hr
 cases e with
 | normal => exact ⟨.normal, a₁, w₁, hq, .head h0 stepR_scope (StepsIn.trans harr (.one (fenced_calm hb hr rfl) stepR_inScope))⟩
 | exit id' =>
  have hx : exitTo id' (.inScope c :: k) = exitTo id' k := by simp [exitTo]
  exact ⟨.exit id', a₁, w₁, hq, fun k' hk => .head h0 stepR_scope (harr.1 k' (by rw [hx]; exact hk)),
   fun hr' hk => let ⟨k₁, h1, h2⟩ := harr.2 hr' (by rw [hx]; exact hk); ⟨k₁, h1, .head h0 stepR_scope h2⟩⟩
 | goto l => exact hq.elim
 | ret => exact ⟨_, a₁, w₁, hq, .of_steps (.one h0 stepR_scope) harr⟩
 | panic ch => exact ⟨_, a₁, w₁, hq, .of_steps (.one h0 stepR_scope) harr⟩
 | outgrown => exact ⟨_, a₁, w₁, hq, .of_steps (.one h0 stepR_scope) harr⟩
end
section
variable {P : Program} {r : Option Nat} {n : Nat} {D : List Deferred} {L : Sl} {M : Mem} {H : Hp} {Q : Post}
theorem C.scope {c : Code} (h : C P r n c (Exit.noGoto Q) D L M H) : C P r n (.scope c) Q D L M H := fun a w hf hh => wpIn_scope (h a w hf hh)
theorem NoPanic.noGoto (h : NoPanic Q) : NoPanic (Exit.noGoto Q) := fun c a w hq => h c a w hq
theorem RetOk.noGoto {fn : Func} {T : Value → Mem → Hp → Prop} (h : RetOk P fn T Q) : RetOk P fn T (Exit.noGoto Q) := by
 intro n L M H H2 rs vs e he h1 h2 h3 h4
 rcases he with rfl | rfl
 ·exact fun a w hf hh => h n L M H H2 rs vs _ (.inl rfl) h1 h2 h3 h4 a w hf hh
 ·exact fun a w hf hh => h n L M H H2 rs vs _ (.inr rfl) h1 h2 h3 h4 a w hf hh
theorem RetOkM.noGoto {fn : Func} {T : Value → Mem → Hp → Prop} (h : RetOkM P fn T Q) : RetOkM P fn T (Exit.noGoto Q) := by
 intro n D L M H H1 H2 rs vs e he h1 hm h2 h3 h4
 rcases he with rfl | rfl
 ·exact fun a w hf hh => h n D L M H H1 H2 rs vs _ (.inl rfl) h1 hm h2 h3 h4 a w hf hh
 ·exact fun a w hf hh => h n D L M H H1 H2 rs vs _ (.inr rfl) h1 hm h2 h3 h4 a w hf hh
end
end Go.Sx
end
section
namespace Go.Sx
open Go Go.Proofs Go.RowKit
attribute [local irreducible] C R Fin K Own OwnT Rd Pl Ok KOf RetOk OpsOf RP KP Res NoPanic KV KE MapS ItS EntS FsO FsR RowD PlD DkO RT KT OneT RS KS OneS
variable {M M' : Mem} {H H1 H2 : Hp}
def numsF (l : List Txt) : List Nat := l.filterMap numO
noncomputable def openG : Dk → List Nat → List Sg → Int × Dk × List Sg
 | d, [], ss => (0, d, ss)
 | d, n :: ns, ss =>
  if (readF (lastO ss) n ((readD d (nameS n)).getD [])).2 then
   openG d ns (if 0 < (readF (lastO ss) n ((readD d (nameS n)).getD [])).1.length then ss ++ [⟨n, (readF (lastO ss) n ((readD d (nameS n)).getD [])).1⟩] else ss)
  else if (mendD d (n :: ns) n (readF (lastO ss) n ((readD d (nameS n)).getD [])).1).1 ≠ 0 then ((mendD d (n :: ns) n (readF (lastO ss) n ((readD d (nameS n)).getD [])).1).1, (mendD d (n :: ns) n (readF (lastO ss) n ((readD d (nameS n)).getD [])).1).2, [])
  else (0, (mendD d (n :: ns) n (readF (lastO ss) n ((readD d (nameS n)).getD [])).1).2, if 0 < (readF (lastO ss) n ((readD d (nameS n)).getD [])).1.length then ss ++ [⟨n, (readF (lastO ss) n ((readD d (nameS n)).getD [])).1⟩] else ss)
noncomputable def openS (d : Dk) : Int × Dk × List Sg := openG d (numsF (namesD d.down d.now)) []
theorem numsF_snoc (l : List Txt) (t : Txt) : numsF (l ++ [t]) = numsF l ++ (match numO t with | some n => [n] | none => []) := by
 unfold numsF
 rw [List.filterMap_append]
 congr 1
 rw [List.filterMap_cons]
 cases numO t <;> rfl
theorem numsF_len (l : List Txt) : (numsF l).length ≤ l.length := List.length_filterMap_le ..
theorem nmC_len (l : List Nat) : (nmC l).length = l.length := List.length_map ..
theorem numsF_ok {l : List Txt} : ∀ n ∈ numsF l, n ≤ 72057594037927935 := by
 intro n hn
 obtain ⟨t, _, h⟩ := List.mem_filterMap.1 hn
 exact (numO_some h).2
theorem namesD_len {d : Dk} : (namesD d.down d.now).length ≤ d.now.length := by
 unfold namesD
 split
 ·exact Nat.zero_le _
 ·rw [sortT_len]
  unfold keyS
  rw [List.length_map]
  exact Nat.le_refl _
theorem SgO.nil {lb db : Nat} {lim : Int} : SgO M lb db lim [] [(lb, .cells [.pointer (some ⟨db, 0, none⟩), .int .i64 lim, .slice none 0 0].toArray 78 (0, 0))] :=
 ⟨[], .slice none 0 0, [], rfl, OwnT.nil _ _, fun p h => absurd h List.not_mem_nil, rfl⟩
structure OqX where
 k : Nat
 kk : Int
 ss : List Sg
 hL : Hp
 M : Mem
structure OpX where
 k : Nat
 kk : Int
 v : Value
 ns : List Nat
 hv : Hp
theorem sopen_K {db : Nat} {d : Dk} {lim : Int} {hp : Hp} (hl : 64 ≤ lim ∧ lim ≤ 16384) (ho : DkO M db d hp) (hlen : d.ps.length ≤ 300000) (hnow : d.now.length ≤ 90000) : K Tryz.prog 12 [.pointer (some ⟨db, 0, none⟩), .int .i64 lim] M (hp ++ H) fun v' M' H' => M.le M' ∧ ∃ hp', DkO M' db (openS d).2.1 hp' ∧ (((openS d).1 ≠ 0 ∧ v' = .tuple #[.pointer none, .int .i64 (openS d).1] ∧ H' = hp' ++ H) ∨ ((openS d).1 = 0 ∧ ∃ lb hL, v' = .tuple #[.pointer (some ⟨lb, 0, none⟩), .int .i64 0] ∧ SgO M' lb db lim (openS d).2.2 hL ∧ H' = hL ++ (hp' ++ H))) := by
 refine K.enterK Tryz.func12 rfl rfl rfl ?_
 intro Q hNP hQ
 (repeat' (first | (refine a_bx ?_; intro bx) | (refine a_go ?_; intros) | refine a_sp (fun h => ?_) fun h => ?_ | fail))
 apply C.scope
 replace hNP := hNP.noGoto
 replace hQ := hQ.noGoto
 generalize Exit.noGoto Q = Q at hNP hQ ⊢
 (repeat' (first | refine a_mv ?_ | (apply R.step; (exact a_cmp); exact rfl) | (apply R.step; (apply Ok.eqPN; exact rfl; exact rfl); exact rfl) | (refine a_bx ?_; intro bx) | (refine a_go ?_; intros) | refine a_sp (fun h => ?_) fun h => ?_ | fail))
 apply R.arr (H2 := hp ++ ((bx, .cells [.pointer (some ⟨db, 0, none⟩), .int .i64 lim, .slice none 0 0].toArray 78 (0, 0)) :: H)) (by (exact a_arrs))
 (apply R.call; (exact a_evs); exact rfl; exact names_KD ho (by omega); rintro vn M _ ⟨rfl, hn, hown, rfl⟩)
 have hNl := namesD_len (d := d)
 have hOS : openS d = openG d (numsF (namesD d.down d.now)) [] := rfl
 rw [hOS] at hQ
 clear hOS
 generalize namesD d.down d.now = N at hown hNl hQ
 obtain ⟨An, cn, rfl, n1, n2⟩ := hown.form
 apply R.ice (hp := hn) (H1 := hp ++ ((bx, .cells [.pointer (some ⟨db, 0, none⟩), .int .i64 lim, .slice none 0 0].toArray 78 (0, 0)) :: H)) (by (exact a_arrs))
 intro M1 hM1 hin1
 have hpn := hown.plIn hin1
 replace ho := ho.mono hM1
 (repeat' (first | (refine a_bx ?_; intro bx) | (refine a_go ?_; intros) | refine a_sp (fun h => ?_) fun h => ?_ | fail))
 apply C.loop (fun y : OpX => (y.k : Int) = y.kk ∧ y.k ≤ N.length ∧ Own 27 1 y.v y.ns.length (nmC y.ns) y.hv ∧ y.ns = numsF (N.take y.k))
  (fun y => [(0, .pointer (some ⟨db, 0, none⟩)), (6, .pointer (some ⟨bx, 0, none⟩)), (7, y.v), (32, .slice An N.length cn), (33, .int .i64 (N.length : Int)), (34, .int .i64 y.kk)]) (fun _ => M1) (fun y => y.hv ++ (hp ++ ((bx, .cells [.pointer (some ⟨db, 0, none⟩), .int .i64 lim, .slice none 0 0].toArray 78 (0, 0)) :: H))) (fun y => N.length - y.k) ⟨0, 0, .slice none 0 0, [], []⟩
 ·exact ⟨rfl, Nat.zero_le _, Own.nil _ _, rfl⟩
 ·(exact a_subs)
 ·exact rfl
 ·exact rfl
 rintro ⟨k, kk, v, ns, hv⟩ ⟨hkk, hk, hon, hns⟩
 dsimp only at hkk hk hon hns ⊢
 obtain ⟨Av, cv, rfl, v1, v2⟩ := hon.form
 have hnsl : ns.length ≤ k := by
  rw [hns]
  exact Nat.le_trans (numsF_len _) (by rw [List.length_take]; omega)
 by_cases hkN : k < N.length
 ·have htk : N.take (k + 1) = N.take k ++ [N[k]] := List.take_succ_eq_append_getElem hkN
  have hce : (N.map str)[k]? = some (str N[k]) := by rw [List.getElem?_map, List.getElem?_eq_getElem hkN]; rfl
  obtain ⟨b, o, cc, e, fr, hAe, hMb, hcell⟩ := hpn.get hce
  subst hAe
  rw [show o + k = o + kk.toNat * 1 by omega] at hcell
  generalize N[k] = t at htk hcell
  (repeat' (first | refine a_mv ?_ | (apply R.step; (exact a_cmp); exact rfl) | (apply R.step; (first | (apply Ok.indexAddr; exact rfl; exact rfl; omega; omega) | (apply Ok.loadP; exact rfl; exact rfl; exact hMb; exact hcell)); exact rfl) | (refine a_bx ?_; intro bx) | (refine a_go ?_; intros) | refine a_sp (fun h => ?_) fun h => ?_ | fail))
  (apply R.call; (exact a_evs); exact rfl; exact segNum_K (t := t); rintro _ M1 _ ⟨n, rfl, hnum, rfl, rfl⟩)
  cases ht : numO t with
  | none =>
   (repeat' (first | (refine a_bx ?_; intro bx) | (refine a_go ?_; intros) | refine a_sp (fun h => ?_) fun h => ?_ | fail))
   refine Fin.again (⟨k + 1, kk + 1, .slice Av ns.length cv, ns, hv⟩ : OpX) ⟨by dsimp only; omega, by dsimp only; omega, hon, ?_⟩ (by dsimp only; omega) ?_ rfl rfl
   ·dsimp only
    rw [htk, numsF_snoc, ht, List.append_nil, hns]
   ·(exact a_subs)
  | some m =>
   have hnm : n = m := hnum m ht
   subst hnm
   (repeat' (first | (refine a_bx ?_; intro bx) | (refine a_go ?_; intros) | refine a_sp (fun h => ?_) fun h => ?_ | fail))
   (apply R.append (news := [.int .u64 (n : Int)]) (k := 1); exact rfl; exact rfl; exact hon; (exact a_tk); exact Rd.at_ (l := [.int .u64 (n : Int)]) (by (exact a_at)) (fun j u h => by rw [Nat.zero_add]; exact h); exact rfl; (intro u hu; rw [List.mem_singleton] at hu; subst hu; rfl); omega; exact rfl; decide; decide; exact rfl; rintro v2 hv2 hon2)
   (repeat' (first | (refine a_bx ?_; intro bx) | (refine a_go ?_; intros) | refine a_sp (fun h => ?_) fun h => ?_ | fail))
   (apply Fin.arr (H2 := hv2 ++ (hp ++ ((bx, .cells [.pointer (some ⟨db, 0, none⟩), .int .i64 lim, .slice none 0 0].toArray 78 (0, 0)) :: H))); (exact a_arrs))
   refine Fin.again (⟨k + 1, kk + 1, v2, ns ++ [n], hv2⟩ : OpX) ⟨by dsimp only; omega, by dsimp only; omega, ?_, ?_⟩ (by dsimp only; omega) ?_ rfl rfl
   ·dsimp only
    rw [List.length_append]
    unfold nmC
    rw [List.map_append]
    exact hon2
   ·dsimp only
    rw [htk, numsF_snoc, ht, hns]
   ·(exact a_subs)
 ·have hke : k = N.length := by omega
  rw [hke, List.take_of_length_le (Nat.le_refl _)] at hns
  rw [← hns] at hQ
  have hnok : ∀ n ∈ ns, n ≤ 72057594037927935 := by rw [hns]; exact numsF_ok
  clear hns
  (repeat' (first | refine a_mv ?_ | (apply R.step; (exact a_cmp); exact rfl) | (refine a_bx ?_; intro bx) | (refine a_go ?_; intros) | refine a_sp (fun h => ?_) fun h => ?_ | fail))
  apply C.label
  (repeat' (first | (refine a_bx ?_; intro bx) | (refine a_go ?_; intros) | refine a_sp (fun h => ?_) fun h => ?_ | fail))
  apply C.ice (hp := hv) (H1 := (bx, .cells [.pointer (some ⟨db, 0, none⟩), .int .i64 lim, .slice none 0 0].toArray 78 (0, 0)) :: (hp ++ H)) (by (exact a_arrs))
  intro M2 hM2 hin2
  have hpA := hon.plIn hin2
  replace ho := ho.mono hM2
  apply C.loop (fun y : OqX => (y.k : Int) = y.kk ∧ y.k ≤ ns.length ∧ M2.le y.M ∧ SgO y.M bx db lim y.ss y.hL ∧ sgsOk y.ss ∧ y.ss.length ≤ y.k ∧ openG d ns [] = openG d (ns.drop y.k) y.ss)
   (fun y => [(0, .pointer (some ⟨db, 0, none⟩)), (6, .pointer (some ⟨bx, 0, none⟩)), (7, .slice Av ns.length cv), (49, .slice Av ns.length cv), (50, .int .i64 (ns.length : Int)), (51, .int .i64 y.kk)]) (fun y => y.M) (fun y => y.hL ++ (hp ++ H)) (fun y => ns.length - y.k) ⟨0, 0, [], [(bx, .cells [.pointer (some ⟨db, 0, none⟩), .int .i64 lim, .slice none 0 0].toArray 78 (0, 0))], M2⟩
  ·exact ⟨rfl, Nat.zero_le _, Mem.le_refl _, SgO.nil, fun s h => absurd h List.not_mem_nil, Nat.le_refl _, rfl⟩
  ·(exact a_subs)
  ·exact rfl
  ·exact rfl
  rintro ⟨j, jj, ss, hL, M3⟩ ⟨hjj, hj, hM3, hg, hok, hssl, hop⟩
  dsimp only at hjj hj hM3 hg hok hssl hop ⊢
  by_cases hjl : j < ns.length
  ·have hdrop : ns.drop j = ns[j] :: ns.drop (j + 1) := List.drop_eq_getElem_cons hjl
   have hnb := hnok _ (List.getElem_mem hjl)
   have hce : (nmC ns)[j]? = some (.int .u64 (ns[j] : Int)) := by
    unfold nmC
    rw [List.getElem?_map, List.getElem?_eq_getElem hjl]
    rfl
   obtain ⟨b, o, cc, e, fr, hAe, hMb, hcell⟩ := (hpA.mono hM3).get hce
   subst hAe
   rw [show o + j = o + jj.toNat * 1 by omega] at hcell
   generalize ns[j] = n at hdrop hnb hcell
   rw [hdrop] at hop
   (repeat' (first | refine a_mv ?_ | (apply R.step; (exact a_cmp); exact rfl) | (apply R.step; (first | (apply Ok.indexAddr; exact rfl; exact rfl; omega; omega) | (apply Ok.loadP; exact rfl; exact rfl; exact hMb; exact hcell)); exact rfl) | (refine a_bx ?_; intro bx) | (refine a_go ?_; intros) | refine a_sp (fun h => ?_) fun h => ?_ | fail))
   (apply R.call; (exact a_evs); exact rfl; exact sread_K (f := n) hg hok (ho.mono hM3) hnb; rintro _ M4 _ ⟨p, rfl, hpo, hpf, hpi, hpe, hM4, rfl⟩)
   have hop2 : openG d (n :: ns.drop (j + 1)) ss = if (readF (lastO ss) n ((readD d (nameS n)).getD [])).2 then
     openG d (ns.drop (j + 1)) (if 0 < (readF (lastO ss) n ((readD d (nameS n)).getD [])).1.length then ss ++ [⟨n, (readF (lastO ss) n ((readD d (nameS n)).getD [])).1⟩] else ss)
    else if (mendD d (n :: ns.drop (j + 1)) n (readF (lastO ss) n ((readD d (nameS n)).getD [])).1).1 ≠ 0 then ((mendD d (n :: ns.drop (j + 1)) n (readF (lastO ss) n ((readD d (nameS n)).getD [])).1).1, (mendD d (n :: ns.drop (j + 1)) n (readF (lastO ss) n ((readD d (nameS n)).getD [])).1).2, [])
    else (0, (mendD d (n :: ns.drop (j + 1)) n (readF (lastO ss) n ((readD d (nameS n)).getD [])).1).2, if 0 < (readF (lastO ss) n ((readD d (nameS n)).getD [])).1.length then ss ++ [⟨n, (readF (lastO ss) n ((readD d (nameS n)).getD [])).1⟩] else ss) := by rw [openG]
   obtain ⟨⟨f_, it⟩, lv, ev, lh, eh⟩ := p
   dsimp only at hpf hpi hpe ⊢
   subst hpf
   rw [← hpi] at hop2
   generalize (readF (lastO ss) f_ ((readD d (nameS f_)).getD [])).2 = fine at hop2
   obtain ⟨hoP, hoT⟩ := id hpo
   obtain ⟨Al, cl, hlv, kl1, kl2⟩ := hoP.form
   obtain ⟨Ae, ce, hev, ke1, ke2⟩ := hoT.form
   have hel : (⟨f_, it⟩ : Sg).es.length = it.length := Sg.es_len _
   change lv = .slice Al (⟨f_, it⟩ : Sg).es.length cl at hlv
   change ev = .slice Ae it.length ce at hev
   rw [hel] at hlv
   subst hlv hev
   change OwnT 3 1 (.slice Ae it.length ce) it.length (endC (endsA 0 (it.map Prod.snd))) eh at hoT
   unfold ptC
   dsimp only
   (repeat' (first | (refine a_gn ?_; intros) | refine a_sp (fun h => ?_) fun h => ?_ | fail))
   ((apply R.alloc; (simp only [Value.cells]; rfl); exact rfl); intro b14)
   obtain ⟨ps, pv, hrow, hss, hrw, hpt, rfl⟩ := hg.mono hM4
   obtain ⟨Ap, cpp, rfl, pc1, pc2⟩ := hrw.form
   have hpl : ps.length = ss.length := by rw [← hss, List.length_map]
   (repeat' (first | (refine a_bx ?_; intro bx) | (refine a_go ?_; intros) | refine a_sp (fun h => ?_) fun h => ?_ | fail))
   ·have h0 : 0 < it.length := by omega
    unfold lgO
    (apply C.regionS (A := [0, 1, 2, 3, 4, 5, 6, 7]) (t := .free 0 (.free 1 (.free 2 (.free 3 (.free 4 (.free 5 (.one 6 (.one 7 .nil)))))))) (u := .free 8 (.free 9 (.one 10 .nil))) (Hs := [(b14, .cells [.int .u64 ↑f_, .slice Al it.length cl, .slice Ae it.length ce].toArray 85 (0, 0)), (bx, .cells [.pointer (some ⟨db, 0, none⟩), .int .i64 lim, .slice Ap ps.length cpp].toArray 78 (0, 0))]); exact Mix.h; (first | exact Arr.all _ | (exact a_arr) | (exact a_arrs)); (exact a_np); kernel_rfl)
    (repeat' (first | refine a_os ?_ | fail))
    (apply RS.one; apply OneS.eff; exact rfl; intro Kc hKc ops0)
    (apply R.buildSlice; (exact a_prt); exact rfl; exact rfl; (exact a_fills); exact rfl; intro bq)
    (apply R.nil; apply Fin.ks hKc; exact Mem.le_refl _; (exact a_arrs))
    (apply RS.one; apply OneS.eff; exact rfl; intro Kc hKc ops0)
    (apply R.arr (H2 := hrow ++ ((b14, .cells [.int .u64 (f_ : Int), .slice Al it.length cl, .slice Ae it.length ce].toArray 85 (0, 0)) :: (bq, .cells [.int .u64 (f_ : Int), .slice Al it.length cl, .slice Ae it.length ce].toArray 85 (0, 0)) :: (bx, .cells [.pointer (some ⟨db, 0, none⟩), .int .i64 lim, .slice Ap ps.length cpp].toArray 78 (0, 0)) :: (ptH ps ++ (lh ++ (eh ++ (hp ++ H)))))) (by (exact a_art)))
    (apply R.appendT (news := [.int .u64 (f_ : Int), .slice Al it.length cl, .slice Ae it.length ce]) (k := 1); exact rfl; exact rfl; exact hrw; (exact a_tk); exact Rd.at_ (l := [.int .u64 (f_ : Int), .slice Al it.length cl, .slice Ae it.length ce]) (by (exact a_at)) (fun j u h => by rw [Nat.zero_add]; exact h); exact rfl; (intro u hu; simp only [List.mem_cons, List.not_mem_nil, or_false] at hu; rcases hu with rfl | rfl | rfl <;> rfl); omega; exact rfl; decide; decide; exact rfl; rintro pv2 hrow2 hrw2)
    obtain ⟨Ap2, cp2, rfl, qc1, qc2⟩ := hrw2.form
    have hg2 : SgO M4 bx db lim (ss ++ [⟨f_, it⟩]) ((bx, lgO db lim (.slice Ap2 (ps.length + 1) cp2)) :: (hrow2 ++ ptH (ps ++ [⟨⟨f_, it⟩, .slice Al it.length cl, .slice Ae it.length ce, lh, eh⟩]))) := by
     refine ⟨ps ++ [⟨⟨f_, it⟩, .slice Al it.length cl, .slice Ae it.length ce, lh, eh⟩], _, hrow2, by rw [List.map_append, hss]; rfl, ?_, ?_, rfl⟩
     ·rw [List.length_append, List.map_append, List.flatten_append]
      exact hrw2
     ·intro p hp
      rcases List.mem_append.1 hp with hp | hp
      ·exact hpt p hp
      ·rw [List.mem_singleton] at hp
       subst hp
       exact hpo
    have hok2 : sgsOk (ss ++ [⟨f_, it⟩]) := hok.snoc h0 hpe
    rw [if_pos h0] at hop2
    (apply R.nil; apply Fin.ks (Hx := hrow2 ++ (ptH ps ++ (lh ++ (eh ++ (hp ++ H))))) hKc; exact Mem.le_refl _; (exact a_art))
    refine RS.later (Hs2 := []) (Hx2 := (b14, .cells [.int .u64 (f_ : Int), .slice Al it.length cl, .slice Ae it.length ce].toArray 85 (0, 0)) :: (bx, .cells [.pointer (some ⟨db, 0, none⟩), .int .i64 lim, .slice Ap ps.length cpp].toArray 78 (0, 0)) :: (hrow2 ++ (ptH ps ++ (lh ++ (eh ++ (hp ++ H)))))) (by (exact a_art)) ?_
    (repeat' (first | refine a_ot ?_ | fail))
    (apply RT.one; apply OneT.eff; exact rfl; intro Kc hKc ops0)
    (repeat' (first | (refine a_bx ?_; intro bx) | (refine a_go ?_; intros) | refine a_sp (fun h => ?_) fun h => ?_ | fail))
    ((first | apply R.nil | skip); apply Fin.kt hKc; exact Mem.le_refl _; (exact a_arrs))
    apply RT.nil
    (repeat' (first | (refine a_bx ?_; intro bx) | (refine a_go ?_; intros) | refine a_sp (fun h => ?_) fun h => ?_ | fail))
    ·have hf : fine = true := by assumption
     subst hf
     rw [if_pos rfl] at hop2
     rw [hop2] at hop
     apply Fin.arr (H2 := ((bx, lgO db lim (.slice Ap2 (ps.length + 1) cp2)) :: (hrow2 ++ ptH (ps ++ [⟨⟨f_, it⟩, .slice Al it.length cl, .slice Ae it.length ce, lh, eh⟩]))) ++ (hp ++ H)) (by rw [ptH_snoc]; dsimp only; unfold lgO; (exact a_art))
     refine Fin.again (⟨j + 1, jj + 1, ss ++ [⟨f_, it⟩], (bx, lgO db lim (.slice Ap2 (ps.length + 1) cp2)) :: (hrow2 ++ ptH (ps ++ [⟨⟨f_, it⟩, .slice Al it.length cl, .slice Ae it.length ce, lh, eh⟩])), M4⟩ : OqX) ⟨by dsimp only; omega, by dsimp only; omega, hM3.trans_ hM4, hg2, hok2, ?_, ?_⟩ (by dsimp only; omega) ?_ rfl rfl
     ·dsimp only
      (try rw [List.length_append, List.length_singleton])
      omega
     ·dsimp only
      exact hop
     ·(exact a_subs)
    ·have hf : fine = false := by assumption
     subst hf
     rw [if_neg (by decide)] at hop2
     rw [hop2] at hop
     clear hop2
     have hlenD : (f_ :: ns.drop (j + 1)).length = ns.length - jj.toNat := by rw [← hdrop, List.length_drop]; omega
     have hcut : Pl M4 (adv (some ⟨b, o, none⟩) jj.toNat 1 cv) (nmC (f_ :: ns.drop (j + 1))) := by
      have h1 := ((hpA.mono hM3).mono hM4).cut (l := jj.toNat) (size := 1) (cap := cv) (by rw [nmC_len]; omega)
      rw [Nat.mul_one, show jj.toNat = j by omega] at h1
      rw [← hdrop, show jj.toNat = j by omega]
      unfold nmC at h1 ⊢
      rw [List.map_drop]
      exact h1
     have hnsD : ∀ n ∈ f_ :: ns.drop (j + 1), n ≤ 72057594037927935 := by rw [← hdrop]; exact fun n hn => hnok n (List.mem_of_mem_drop hn)
     have hK := mend_K (lb := bx) (lim := lim) (Al := Al) (cl := cl) (cap := cv - jj.toNat) (Apv := Ap2) (npv := ps.length + 1) (cpv := cp2) (H := (b14, .cells [.int .u64 ↑f_, .slice Al it.length cl, .slice Ae it.length ce].toArray 85 (0, 0)) :: (hrow2 ++ (ptH ps ++ (lh ++ H)))) hcut hnsD (by rw [hlenD]; omega) ((ho.mono hM3).mono hM4) (by omega) hnb hoT
     rw [hlenD] at hK
     (apply C.regionT (t := .free 0 (.free 1 (.free 2 (.free 3 (.free 4 (.one 5 (.free 6 .nil))))))) (Hs := [(b14, .cells [.int .u64 ↑f_, .slice Al it.length cl, .slice Ae it.length ce].toArray 85 (0, 0))]); exact Mix.h; (first | exact Arr.all _ | (exact a_arr) | (exact a_arrs)); (exact a_np); kernel_rfl)
     (repeat' (first | (apply RT.step; exact rfl; intro _ _ _; (apply Ok.move; exact rfl); exact rfl) | (apply RT.step; exact rfl; intro _ _ _; (apply Ok.sliceLo; exact rfl; exact rfl; omega; omega); exact rfl) | refine a_ot ?_ | fail))
     (apply RT.one; apply OneT.eff; exact rfl; intro Kc hKc ops0)
     apply R.arr (H2 := (bx, lgO db lim (.slice Ap2 (ps.length + 1) cp2)) :: (eh ++ (hp ++ ((b14, .cells [.int .u64 ↑f_, .slice Al it.length cl, .slice Ae it.length ce].toArray 85 (0, 0)) :: (hrow2 ++ (ptH ps ++ (lh ++ H))))))) (by unfold lgO; (exact a_art))
     (apply R.call; (exact a_evs); exact rfl; exact hK; rintro _ M5 _ ⟨rfl, hM5, hp5, ho5, rfl⟩)
     (apply R.nil; apply Fin.kt hKc; exact hM5; (exact a_art))
     (repeat' (first | refine a_ot ?_ | fail))
     apply RT.nil
     (repeat' (first | (refine a_bx ?_; intro bx) | (refine a_go ?_; intros) | refine a_sp (fun h => ?_) fun h => ?_ | fail))
     ·have he : (mendD d (f_ :: ns.drop (j + 1)) f_ it).1 ≠ 0 := by assumption
      rw [if_pos he] at hop
      rw [hop] at hQ
      (refine Fin.rA (hp5 ++ H) ?_)
      exact ⟨hM1.trans_ (hM2.trans_ (hM3.trans_ (hM4.trans_ hM5))), hp5, ho5, .inl ⟨he, rfl, rfl⟩⟩
     ·have he : (mendD d (f_ :: ns.drop (j + 1)) f_ it).1 = 0 := by assumption
      rw [if_neg (fun h => h he)] at hop
      rw [hop] at hQ
      apply Fin.blockOther rfl
      (repeat' (first | (refine a_bx ?_; intro bx) | (refine a_go ?_; intros) | refine a_sp (fun h => ?_) fun h => ?_ | fail))
      apply Fin.arr (H2 := ((bx, lgO db lim (.slice Ap2 (ps.length + 1) cp2)) :: (hrow2 ++ ptH (ps ++ [⟨⟨f_, it⟩, .slice Al it.length cl, .slice Ae it.length ce, lh, eh⟩]))) ++ (hp5 ++ H)) (by rw [ptH_snoc]; dsimp only; (exact a_art))
      obtain ⟨hL2, hHL⟩ : ∃ x : Hp, x = ((bx, lgO db lim (.slice Ap2 (ps.length + 1) cp2)) :: (hrow2 ++ ptH (ps ++ [⟨⟨f_, it⟩, .slice Al it.length cl, .slice Ae it.length ce, lh, eh⟩]))) := ⟨_, rfl⟩
      rw [← hHL] at hg2 ⊢
      (refine Fin.rA (hL2 ++ (hp5 ++ H)) ?_)
      exact ⟨hM1.trans_ (hM2.trans_ (hM3.trans_ (hM4.trans_ hM5))), hp5, ho5, .inr ⟨rfl, bx, hL2, rfl, hg2.mono hM5, rfl⟩⟩
   ·have hf : fine = true := by assumption
    have h0 : ¬ 0 < it.length := by omega
    subst hf
    rw [if_neg h0, if_pos rfl] at hop2
    rw [hop2] at hop
    have hg2 := hg.mono hM4
    have hok2 := hok
    ·skip
     apply Fin.arr (H2 := ((bx, lgO db lim (.slice Ap ps.length cpp)) :: (hrow ++ ptH ps)) ++ (hp ++ H)) (by (exact a_art))
     refine Fin.again (⟨j + 1, jj + 1, ss, (bx, lgO db lim (.slice Ap ps.length cpp)) :: (hrow ++ ptH ps), M4⟩ : OqX) ⟨by dsimp only; omega, by dsimp only; omega, hM3.trans_ hM4, hg2, hok2, ?_, ?_⟩ (by dsimp only; omega) ?_ rfl rfl
     ·dsimp only
      (try rw [List.length_append, List.length_singleton])
      omega
     ·dsimp only
      exact hop
     ·(exact a_subs)
   ·have hf : fine = false := by assumption
    have h0 : ¬ 0 < it.length := by omega
    subst hf
    rw [if_neg (by decide), if_neg h0] at hop2
    rw [hop2] at hop
    clear hop2
    have hg2 := hg.mono hM4
    ·skip
     have hlenD : (f_ :: ns.drop (j + 1)).length = ns.length - jj.toNat := by rw [← hdrop, List.length_drop]; omega
     have hcut : Pl M4 (adv (some ⟨b, o, none⟩) jj.toNat 1 cv) (nmC (f_ :: ns.drop (j + 1))) := by
      have h1 := ((hpA.mono hM3).mono hM4).cut (l := jj.toNat) (size := 1) (cap := cv) (by rw [nmC_len]; omega)
      rw [Nat.mul_one, show jj.toNat = j by omega] at h1
      rw [← hdrop, show jj.toNat = j by omega]
      unfold nmC at h1 ⊢
      rw [List.map_drop]
      exact h1
     have hnsD : ∀ n ∈ f_ :: ns.drop (j + 1), n ≤ 72057594037927935 := by rw [← hdrop]; exact fun n hn => hnok n (List.mem_of_mem_drop hn)
     have hK := mend_K (lb := bx) (lim := lim) (Al := Al) (cl := cl) (cap := cv - jj.toNat) (Apv := Ap) (npv := ps.length) (cpv := cpp) (H := (b14, .cells [.int .u64 ↑f_, .slice Al it.length cl, .slice Ae it.length ce].toArray 85 (0, 0)) :: (hrow ++ (ptH ps ++ (lh ++ H)))) hcut hnsD (by rw [hlenD]; omega) ((ho.mono hM3).mono hM4) (by omega) hnb hoT
     rw [hlenD] at hK
     (apply C.regionT (t := .free 0 (.free 1 (.free 2 (.free 3 (.free 4 (.one 5 (.free 6 .nil))))))) (Hs := [(b14, .cells [.int .u64 ↑f_, .slice Al it.length cl, .slice Ae it.length ce].toArray 85 (0, 0))]); exact Mix.h; (first | exact Arr.all _ | (exact a_arr) | (exact a_arrs)); (exact a_np); kernel_rfl)
     (repeat' (first | (apply RT.step; exact rfl; intro _ _ _; (apply Ok.move; exact rfl); exact rfl) | (apply RT.step; exact rfl; intro _ _ _; (apply Ok.sliceLo; exact rfl; exact rfl; omega; omega); exact rfl) | refine a_ot ?_ | fail))
     (apply RT.one; apply OneT.eff; exact rfl; intro Kc hKc ops0)
     apply R.arr (H2 := (bx, lgO db lim (.slice Ap ps.length cpp)) :: (eh ++ (hp ++ ((b14, .cells [.int .u64 ↑f_, .slice Al it.length cl, .slice Ae it.length ce].toArray 85 (0, 0)) :: (hrow ++ (ptH ps ++ (lh ++ H))))))) (by (exact a_art))
     (apply R.call; (exact a_evs); exact rfl; exact hK; rintro _ M5 _ ⟨rfl, hM5, hp5, ho5, rfl⟩)
     (apply R.nil; apply Fin.kt hKc; exact hM5; (exact a_art))
     (repeat' (first | refine a_ot ?_ | fail))
     apply RT.nil
     (repeat' (first | (refine a_bx ?_; intro bx) | (refine a_go ?_; intros) | refine a_sp (fun h => ?_) fun h => ?_ | fail))
     ·have he : (mendD d (f_ :: ns.drop (j + 1)) f_ it).1 ≠ 0 := by assumption
      rw [if_pos he] at hop
      rw [hop] at hQ
      (refine Fin.rA (hp5 ++ H) ?_)
      exact ⟨hM1.trans_ (hM2.trans_ (hM3.trans_ (hM4.trans_ hM5))), hp5, ho5, .inl ⟨he, rfl, rfl⟩⟩
     ·have he : (mendD d (f_ :: ns.drop (j + 1)) f_ it).1 = 0 := by assumption
      rw [if_neg (fun h => h he)] at hop
      rw [hop] at hQ
      apply Fin.blockOther rfl
      (repeat' (first | (refine a_bx ?_; intro bx) | (refine a_go ?_; intros) | refine a_sp (fun h => ?_) fun h => ?_ | fail))
      apply Fin.arr (H2 := ((bx, lgO db lim (.slice Ap ps.length cpp)) :: (hrow ++ ptH ps)) ++ (hp5 ++ H)) (by (exact a_art))
      obtain ⟨hL2, hHL⟩ : ∃ x : Hp, x = ((bx, lgO db lim (.slice Ap ps.length cpp)) :: (hrow ++ ptH ps)) := ⟨_, rfl⟩
      rw [← hHL] at hg2 ⊢
      (refine Fin.rA (hL2 ++ (hp5 ++ H)) ?_)
      exact ⟨hM1.trans_ (hM2.trans_ (hM3.trans_ (hM4.trans_ hM5))), hp5, ho5, .inr ⟨rfl, bx, hL2, rfl, hg2.mono hM5, rfl⟩⟩
  ·have hdr : ns.drop j = [] := List.drop_eq_nil_of_le (by omega)
   rw [hdr] at hop
   have hopS : openG d ns [] = (0, d, ss) := hop
   rw [hopS] at hQ
   (repeat' (first | refine a_mv ?_ | (apply R.step; (exact a_cmp); exact rfl) | (refine a_bx ?_; intro bx) | (refine a_go ?_; intros) | refine a_sp (fun h => ?_) fun h => ?_ | fail))
   (refine Fin.rA (hL ++ (hp ++ H)) ?_)
   exact ⟨hM1.trans_ (hM2.trans_ hM3), hp, ho.mono hM3, .inr ⟨rfl, bx, hL, rfl, hg, rfl⟩⟩
end Go.Sx
end
section
namespace Go.Sx
open Go Go.Proofs Go.RowKit
attribute [local irreducible] C R Fin K Own OwnT Rd Pl Ok KOf RetOk OpsOf RP KP Res NoPanic KV KE RT KT OneT RS KS OneS
variable {M M' : Mem} {H H1 H2 : Hp}
theorem stwin_KO {e : En} {A : Option Addr} {cap : Nat} (hp : Pl M A (e.data.map bv)) (hl : e.data.length ≤ 140737488351232) : K Tryz.prog 78 [eV e (.slice A e.data.length cap)] M H fun v M' H' => ∃ v' hp', v = eV e v' ∧ Own 5 1 v' e.data.length (e.data.map bv) hp' ∧ M' = M ∧ H' = hp' ++ H := by
 refine K.enterK Tryz.func78 rfl rfl rfl ?_
 intro Q hNP hQ
 (repeat' (first | (refine a_go ?_; intros) | refine a_sp (fun h => ?_) fun h => ?_ | fail))
 (apply R.append; exact rfl; exact rfl; exact Own.empty; (exact a_tk); exact hp.rd; (focus (simp; done)); (intro u hu; obtain ⟨_, _, rfl⟩ := List.mem_map.1 hu; rfl); omega; exact rfl; decide; decide; exact rfl; rintro v4 hp4 hown4)
 have hown : Own 5 1 v4 e.data.length (e.data.map bv) hp4 := by simpa using hown4
 clear hown4
 obtain ⟨A4, c4, rfl, _, _⟩ := hown.form
 (repeat' (first | (refine a_go ?_; intros) | refine a_sp (fun h => ?_) fun h => ?_ | fail))
 (refine Fin.rA (hp4 ++ H) ?_)
 exact ⟨_, hp4, rfl, hown, rfl, rfl⟩
theorem stwin_K {e : En} {A : Option Addr} {cap : Nat} (hp : Pl M A (e.data.map bv)) (hl : e.data.length ≤ 140737488351232) : K Tryz.prog 78 [eV e (.slice A e.data.length cap)] M H fun v M' H' => ∃ A' c', v = eV e (.slice A' e.data.length c') ∧ PlB M' (.slice A' e.data.length c') e.data ∧ M.le M' ∧ H' = H := by
 refine (stwin_KO hp hl).freezeT ?_
 rintro v M' H' ⟨v', hp', rfl, hown, rfl, rfl⟩
 obtain ⟨A', c', rfl, _, _⟩ := hown.form
 exact ⟨hp', H, by (exact a_arr), fun M2 hM2 hin => ⟨A', c', rfl, hown.plB hin, hM2, rfl⟩⟩
def listG (ss : List Sg) : List En := ss.flatMap Sg.es
theorem listG_snoc (ss : List Sg) (s : Sg) : listG (ss ++ [s]) = listG ss ++ s.es := by simp [listG]
theorem listG_take_le (ss : List Sg) (k : Nat) : (listG (ss.take k)).length ≤ (listG ss).length := by
 have h : listG ss = listG (ss.take k) ++ listG (ss.drop k) := by
  unfold listG
  rw [← List.flatMap_append, List.take_append_drop]
 rw [h, List.length_append]
 omega
structure LsX where
 k : Nat
 kk : Int
 xs : List Ow
 v : Value
 hrow : Hp
theorem slist_KO {lb db : Nat} {lim : Int} {ss : List Sg} (hg : SgP M lb db lim ss) (hok : sgsOk ss) (hn : (listG ss).length ≤ 2513169434842) : K Tryz.prog 34 [.pointer (some ⟨lb, 0, none⟩)] M H fun v' M' H' => ∃ xs hrow, OwnEs v' xs hrow ∧ owE xs = listG ss ∧ M' = M ∧ H' = hrow ++ (owH xs ++ H) := by
 obtain ⟨ps, Ap, cp, hss, hMl, p1, p2, p3, p4⟩ := hg
 have hpl : ps.length = ss.length := by rw [← hss, List.length_map]
 refine K.enterK Tryz.func34 rfl rfl rfl ?_
 intro Q hNP hQ
 unfold lgO at hMl
 have hpv : (#[.pointer (some ⟨db, 0, none⟩), .int .i64 lim, .slice Ap ps.length cp] : Array Value)[0 + 2]? = some (.slice Ap ps.length cp) := rfl
 (repeat' (first | refine a_mv ?_ | (apply R.step; (apply Ok.loadP; exact rfl; exact rfl; exact hMl; exact hpv); exact rfl) | (refine a_go ?_; intros) | refine a_sp (fun h => ?_) fun h => ?_ | fail))
 apply C.loop (fun x : LsX => (x.k : Int) = x.kk ∧ x.k ≤ ss.length ∧ OwnEs x.v x.xs x.hrow ∧ owE x.xs = listG (ss.take x.k))
  (fun x => [(3, x.v), (11, .slice Ap ps.length cp), (12, .int .i64 (ps.length : Int)), (13, .int .i64 x.kk)]) (fun _ => M) (fun x => x.hrow ++ (owH x.xs ++ H)) (fun x => ss.length - x.k) ⟨0, 0, [], .slice none 0 0, []⟩
 ·exact ⟨rfl, Nat.zero_le _, OwnEs.nil, by simp [owE, listG]⟩
 ·(exact a_subs)
 ·exact rfl
 ·exact rfl
 rintro ⟨k, kk, xs, v, hrow⟩ ⟨hkk, hk, how, hxs⟩
 dsimp only at hkk hk how hxs ⊢
 by_cases hks : k < ss.length
 ·have htk : ss.take (k + 1) = ss.take k ++ [ss[k]] := List.take_succ_eq_append_getElem hks
  have hkp : k < ps.length := by omega
  obtain ⟨b, o, cc, e0, fr, hA, hMb, hcell⟩ := row_agg p3 (ptC_all ps) (by decide) (k := k) (by rw [List.length_map]; exact hkp)
  subst hA
  rw [List.getElem_map, show o + k * 3 = o + kk.toNat * 3 by omega] at hcell
  have hsp : ps[k].s = ss[k] := by
   have h1 : (ps.map PtV.s)[k]? = ss[k]? := by rw [hss]
   rw [List.getElem?_map, List.getElem?_eq_getElem hkp, List.getElem?_eq_getElem hks] at h1
   exact Option.some.inj h1
  have hpm := p4 ps[k] (List.getElem_mem hkp)
  have hso := hok ss[k] (List.getElem_mem hks)
  have hle : (listG (ss.take (k + 1))).length ≤ (listG ss).length := listG_take_le ss (k + 1)
  rw [htk, listG_snoc, List.length_append] at hle
  generalize ps[k] = p at hcell hsp hpm
  generalize ss[k] = s at htk hsp hso hle
  obtain ⟨s_, lv, ev, lh, eh⟩ := p
  dsimp only at hsp
  subst hsp
  obtain ⟨hE, Ae, ce, hev, e1, e2, e3⟩ := hpm
  obtain ⟨Al, cl, vs, hlv, l1, l2, l3, l4⟩ := hE
  dsimp only at hev e1 e2 e3 hlv l1 l3 l4
  subst hev hlv
  have hel := Sg.es_len s_
  rw [hel] at l1
  have hcell' : ∀ (q : Nat) u, [Value.int .u64 (s_.first : Int), .slice Al s_.es.length cl, .slice Ae s_.it.length ce][q]? = some u → cc[o + kk.toNat * 3 + q]? = some u := hcell
  have hsl : s_.es.length < 9223372036854775807 := by omega
  (repeat' (first | refine a_mv ?_ | (apply R.step; (exact a_cmp); exact rfl) | (apply R.step; (first | (apply Ok.indexAddr; exact rfl; exact rfl; omega; omega) | (apply Ok.loadAggP (vs := [Value.int .u64 (s_.first : Int), .slice Al s_.es.length cl, .slice Ae s_.it.length ce]); exact rfl; exact rfl; exact hMb; exact rfl; exact hcell')); exact rfl) | (refine a_go ?_; intros) | refine a_sp (fun h => ?_) fun h => ?_ | fail))
  apply C.arr (H2 := hrow ++ (owH xs ++ H)) (by (exact a_arrs))
  apply C.loop (fun x : LsX => (x.k : Int) = x.kk ∧ x.k ≤ s_.es.length ∧ OwnEs x.v x.xs x.hrow ∧ owE x.xs = listG (ss.take k) ++ s_.es.take x.k)
   (fun x => [(3, x.v), (11, .slice (some ⟨b, o, none⟩) ps.length cp), (12, .int .i64 (ps.length : Int)), (13, .int .i64 kk), (18, .slice Al s_.es.length cl), (19, .int .i64 (s_.es.length : Int)), (20, .int .i64 x.kk)]) (fun _ => M) (fun x => x.hrow ++ (owH x.xs ++ H)) (fun x => s_.es.length - x.k) ⟨0, 0, xs, v, hrow⟩
  ·exact ⟨rfl, Nat.zero_le _, how, by rw [hxs, List.take_zero, List.append_nil]⟩
  ·(exact a_subs)
  ·exact rfl
  ·exact rfl
  rintro ⟨i, ii, ys, w, hrw⟩ ⟨hii, hi, how2, hys⟩
  dsimp only at hii hi how2 hys ⊢
  by_cases his : i < s_.es.length
  ·obtain ⟨b2, o2, c2, e2', fr2, Ai, ci, rfl, hMb2, hcell2, _, _, _, hpi⟩ := en_at l3 l4 his
   rw [show o2 + i * 5 = o2 + ii.toNat * 5 by omega] at hcell2
   have hdl : s_.es[i].data.length ≤ 140737488351232 := by
    have := (entS_kind (hso.2 _ (List.getElem_mem his))).2.2.2.2.2.2
    omega
   have htk2 : s_.es.take (i + 1) = s_.es.take i ++ [s_.es[i]] := List.take_succ_eq_append_getElem his
   have hyl : ys.length + 1 ≤ 2513169434842 := by
    have h1 := congrArg List.length hys
    rw [List.length_append, List.length_take] at h1
    unfold owE at h1
    rw [List.length_map] at h1
    omega
   generalize s_.es[i] = x at hcell2 hpi hdl htk2
   obtain ⟨AO, capO, rfl, hoc, hoc2⟩ := how2.1.form
   (repeat' (first | refine a_mv ?_ | (apply R.step; (exact a_cmp); exact rfl) | (apply R.step; (first | (apply Ok.indexAddr; exact rfl; exact rfl; omega; omega) | (apply Ok.loadAggP (vs := ecells x (.slice Ai x.data.length ci)); exact rfl; exact rfl; exact hMb2; exact rfl; exact hcell2)); exact rfl) | (refine a_go ?_; intros) | refine a_sp (fun h => ?_) fun h => ?_ | fail))
   (apply R.call; (exact a_evs); exact rfl); exact stwin_KO hpi hdl; rintro _ M H' ⟨v', hp', rfl, hown', rfl, rfl⟩
   (repeat' (first | (refine a_go ?_; intros) | refine a_sp (fun h => ?_) fun h => ?_ | fail))
   (apply R.append (news := ecells x v'); exact rfl; exact rfl; exact how2.1; (exact a_tk); exact Rd.at_ (l := ecells x v') (by (exact a_at)) (fun j u h => by rw [Nat.zero_add]; exact h); exact rfl; (intro u hu; obtain ⟨Ao, co, rfl, _, _⟩ := hown'.form; simp only [ecells, List.mem_cons, List.not_mem_nil, or_false] at hu; rcases hu with rfl | rfl | rfl | rfl | rfl <;> rfl); omega; exact rfl; decide; decide; exact rfl; rintro ov1 hrow1 how1)
   apply R.arr (H2 := hrow1 ++ (owH ys ++ (hp' ++ H))) (by (exact a_arr))
   (repeat' (first | (refine a_go ?_; intros) | refine a_sp (fun h => ?_) fun h => ?_ | fail))
   refine Fin.again (⟨i + 1, ii + 1, ys ++ [⟨x, v', hp'⟩], ov1, hrow1⟩ : LsX) ⟨by dsimp only; omega, by dsimp only; omega, OwnEs.snoc how2.2 hown' how1, by dsimp only; rw [owE_snoc, hys, htk2, List.append_assoc]⟩ (by dsimp only; omega) ?_ rfl (by dsimp only; rw [ow_snoc, List.append_assoc])
   dsimp only
   (exact a_subs)
  ·have hie : i = s_.es.length := by omega
   rw [hie, List.take_of_length_le (Nat.le_refl _)] at hys
   (repeat' (first | refine a_mv ?_ | (apply R.step; (exact a_cmp); exact rfl) | (refine a_go ?_; intros) | refine a_sp (fun h => ?_) fun h => ?_ | fail))
   refine Fin.again (⟨k + 1, kk + 1, ys, w, hrw⟩ : LsX) ⟨by dsimp only; omega, by dsimp only; omega, how2, by dsimp only; rw [htk, listG_snoc, hys]⟩ (by dsimp only; omega) ?_ rfl rfl
   dsimp only
   (exact a_subs)
 ·have hke : k = ss.length := by omega
  rw [hke, List.take_of_length_le (Nat.le_refl _)] at hxs
  (repeat' (first | refine a_mv ?_ | (apply R.step; (exact a_cmp); exact rfl) | (refine a_go ?_; intros) | refine a_sp (fun h => ?_) fun h => ?_ | fail))
  (refine Fin.rt ?_)
  exact ⟨xs, hrow, how, hxs, rfl, rfl⟩
theorem slist_KL {lb db : Nat} {lim : Int} {ss : List Sg} {hL : Hp} (hg : SgO M lb db lim ss hL) (hok : sgsOk ss) (hn : (listG ss).length ≤ 2513169434842) (ha : Arr H (hL ++ H1)) : K Tryz.prog 34 [.pointer (some ⟨lb, 0, none⟩)] M H fun v' M' H' => EnL M' v' (listG ss) ∧ M.le M' ∧ H' = hL ++ H1 := by
 have h0 : K Tryz.prog 34 [.pointer (some ⟨lb, 0, none⟩)] M H fun v' M' H' => ∃ xs hrow, OwnEs v' xs hrow ∧ owE xs = listG ss ∧ M' = M ∧ H' = hL ++ (hrow ++ (owH xs ++ H1)) :=
  K.lends ha fun M2 hM2 hin => by
   refine (slist_KO (hg.sgP hM2 hin) hok hn).mono ?_
   rintro v' M' H' ⟨xs, hrow, h1, h2, rfl, rfl⟩
   exact ⟨rfl, xs, hrow, h1, h2, rfl, rfl⟩
 refine h0.freezeT ?_
 rintro v' M' H' ⟨xs, hrow, how, hxs, rfl, rfl⟩
 exact ⟨hrow ++ owH xs, hL ++ H1, by rw [List.append_assoc]; (exact a_arr), fun M2 hM2 hin => ⟨hxs ▸ how.enL hin, hM2, rfl⟩⟩
def firstG (ss : List Sg) : Int := match ss.head? with
 | some s => match s.es.head? with
  | some e => e.idx
  | none => 0
 | none => 0
def lastG (ss : List Sg) : Int := match lastO ss with
 | some a => a.idx
 | none => 0
theorem sfirst_K {lb db : Nat} {lim : Int} {ss : List Sg} (hg : SgP M lb db lim ss) (hok : sgsOk ss) : K Tryz.prog 32 [.pointer (some ⟨lb, 0, none⟩)] M H fun v' M' H' => v' = .int .u64 (firstG ss) ∧ M' = M ∧ H' = H := by
 obtain ⟨ps, Ap, cp, hss, hMl, p1, p2, p3, p4⟩ := hg
 have hpl : ps.length = ss.length := by rw [← hss, List.length_map]
 refine K.enterK Tryz.func32 rfl rfl rfl ?_
 intro Q hNP hQ
 unfold lgO at hMl
 have hpv : (#[.pointer (some ⟨db, 0, none⟩), .int .i64 lim, .slice Ap ps.length cp] : Array Value)[0 + 2]? = some (.slice Ap ps.length cp) := rfl
 match ps, hss, hpl with
 | [], hss, hpl =>
  cases hss
  (repeat' (first | refine a_mv ?_ | (apply R.step; (first | (apply Ok.loadP; exact rfl; exact rfl; exact hMl; exact hpv) | (apply Ok.eqIR; exact rfl; exact rfl; rfl)); exact rfl) | (refine a_go ?_; intros) | refine a_sp (fun h => ?_) fun h => ?_ | fail))
  (refine Fin.rt ?_)
  exact ⟨rfl, rfl, rfl⟩
 | p :: ps', hss, hpl =>
  obtain ⟨b, o, cc, e0, fr, hA, hMb, hcell⟩ := row_agg p3 (ptC_all (p :: ps')) (by decide) (k := 0) (by rw [List.length_map]; exact Nat.zero_lt_succ _)
  subst hA
  have hpm := p4 p (List.mem_cons_self ..)
  have hsh : ss.head? = some p.s := by rw [← hss]; rfl
  have hso := hok p.s (by rw [← hss]; exact List.mem_cons_self ..)
  obtain ⟨s_, lv, ev, lh, eh⟩ := p
  obtain ⟨hE, Ae, ce, hev, e1, e2, e3⟩ := hpm
  obtain ⟨Al, cl, vs, hlv, l1, l2, l3, l4⟩ := hE
  dsimp only at hev e1 e2 e3 hlv l1 l3 l4 hsh hso
  subst hev hlv
  have hel := Sg.es_len s_
  have h0 : 0 < s_.es.length := by omega
  have hfg : firstG ss = (s_.es[0]).idx := by
   unfold firstG
   rw [hsh]
   dsimp only
   rw [List.head?_eq_getElem?, List.getElem?_eq_getElem h0]
  have hcell1 : cc[o + (0 : Int).toNat * 3 + 1]? = some (.slice Al s_.es.length cl) := hcell 1 _ rfl
  obtain ⟨b2, o2, c2, e2', fr2, Ai, ci, rfl, hMb2, hcell2, _, _, _, hpi⟩ := en_at l3 l4 h0
  have hcell3 : c2[o2 + (0 : Int).toNat * 5 + 2]? = some (.int .u64 (s_.es[0]).idx) := hcell2 2 _ rfl
  have hne : (((⟨s_, .slice (some ⟨b2, o2, none⟩) s_.es.length cl, .slice Ae s_.it.length ce, lh, eh⟩ :: ps' : List PtV).length : Nat) : Int) ≠ 0 := by rw [List.length_cons]; omega
  have hpos : 0 < (⟨s_, .slice (some ⟨b2, o2, none⟩) s_.es.length cl, .slice Ae s_.it.length ce, lh, eh⟩ :: ps' : List PtV).length := Nat.zero_lt_succ _
  generalize (⟨s_, .slice (some ⟨b2, o2, none⟩) s_.es.length cl, .slice Ae s_.it.length ce, lh, eh⟩ :: ps' : List PtV).length = pn at hpv hMl p1 hne hpos
  rw [hfg] at hQ
  generalize s_.es[0] = x at hcell3 hQ
  (repeat' (first | refine a_mv ?_ | (apply R.step; (first | (apply Ok.eqIF; exact rfl; exact rfl; exact hne) | (apply Ok.indexAddr; exact rfl; exact rfl; omega; omega) | (apply Ok.loadP; exact rfl; exact rfl; (first | exact hMl | exact hMb | exact hMb2); (first | exact hpv | exact hcell1 | exact hcell3))); exact rfl) | (refine a_go ?_; intros) | refine a_sp (fun h => ?_) fun h => ?_ | fail))
  (refine Fin.rt ?_)
  exact ⟨rfl, rfl, rfl⟩
theorem slast_K {lb db : Nat} {lim : Int} {ss : List Sg} (hg : SgP M lb db lim ss) (hok : sgsOk ss) : K Tryz.prog 33 [.pointer (some ⟨lb, 0, none⟩)] M H fun v' M' H' => v' = .int .u64 (lastG ss) ∧ M' = M ∧ H' = H := by
 refine K.enterK Tryz.func33 rfl rfl rfl ?_
 intro Q hNP hQ
 by_cases h2 : ss.length = 0
 ·have hnl : ss = [] := List.eq_nil_of_length_eq_zero h2
  subst hnl
  obtain ⟨Ap, cp, hMl2⟩ := hg.recE
  have hpv : (#[.pointer (some ⟨db, 0, none⟩), .int .i64 lim, .slice Ap 0 cp] : Array Value)[0 + 2]? = some (.slice Ap 0 cp) := rfl
  (repeat' (first | refine a_mv ?_ | (apply R.step; (first | (apply Ok.eqIR; exact rfl; exact rfl; rfl) | (apply Ok.loadP; exact rfl; exact rfl; exact hMl2; exact hpv)); exact rfl) | (refine a_go ?_; intros) | refine a_sp (fun h => ?_) fun h => ?_ | fail))
  (refine Fin.rt ?_)
  exact ⟨rfl, rfl, rfl⟩
 obtain ⟨s0, a, b, o, cp, cl0, ce', Al0, Ae, cc, hL⟩ := hg.last hok (by omega)
 have hMl2 := hL.rec_
 have hpv : (#[.pointer (some ⟨db, 0, none⟩), .int .i64 lim, .slice (some ⟨b, o, none⟩) ss.length cp] : Array Value)[0 + 2]? = some (.slice (some ⟨b, o, none⟩) ss.length cp) := rfl
 obtain ⟨e0, fr, hMb⟩ := hL.row
 have hcap := hL.cap1
 have hcap2 := hL.cap2
 have hak2 := hL.num
 have hagg := hL.cell
 obtain ⟨Al, cl, hbl, hK⟩ := plast_KQ (f := s0.first) (B := Ae) (m := s0.it.length) (cb := ce') hL.enl hL.lastE
 have hll : (ss.length : Int) - 1 = ((ss.length - 1 : Nat) : Int) := by omega
 have hlg : lastG ss = a.idx := by unfold lastG; rw [hL.lastOE]
 rw [hlg] at hQ
 (repeat' (first | refine a_mv ?_ | (apply R.step; (first | (apply Ok.eqIF; exact rfl; exact rfl; omega) | (apply Ok.loadP; exact rfl; exact rfl; exact hMl2; exact hpv)); exact rfl) | (refine a_go ?_; intros) | refine a_sp (fun h => ?_) fun h => ?_ | fail))
 (apply C.regionT (t := .free 0 (.free 1 (.free 2 (.free 3 (.free 4 (.free 5 (.free 6 (.free 7 (.free 8 (.free 9 (.free 10 (.free 11 (.free 12 (.free 13 (.free 14 .nil))))))))))))))) (Hs := []); exact Mix.h; (first | exact Arr.all _ | (exact a_arr) | (exact a_arrs)); (exact a_np); kernel_rfl)
 (repeat' (first | (apply RT.step; exact rfl; intro _ _ _; (apply Ok.move; exact rfl); exact rfl) | (apply RT.callQ; exact rfl; exact inferInstance; (exact a_evs); exact rfl; (intro M' Hx' hM'; exact hK M' _ hM')) | (apply RT.step; exact rfl; intro _ _ hMx; (first | (apply Ok.loadP; exact rfl; exact rfl; exact hMx.2.2 _ _ hMl2; exact hpv) | (apply Ok.subQ ((ss.length - 1 : Nat) : Int); exact rfl; exact rfl; exact hll; apply w64; omega; omega) | (apply Ok.indexAddr; exact rfl; exact rfl; omega; omega) | (apply Ok.loadAggP (vs := [Value.int .u64 (s0.first : Int), .slice Al0 s0.es.length cl0, .slice Ae s0.it.length ce']); exact rfl; exact rfl; exact hMx.2.2 _ _ hMb; exact rfl; exact hagg)); exact rfl) | refine a_ot ?_ | fail))
 apply RT.nil
 (repeat' (first | (refine a_go ?_; intros) | refine a_sp (fun h => ?_) fun h => ?_ | fail))
 (refine Fin.rA (H) ?_)
 exact ⟨rfl, rfl, rfl⟩
theorem sfirst_KL {lb db : Nat} {lim : Int} {ss : List Sg} {hL : Hp} (hg : SgO M lb db lim ss hL) (hok : sgsOk ss) (ha : Arr H (hL ++ H1)) : K Tryz.prog 32 [.pointer (some ⟨lb, 0, none⟩)] M H fun v' M' H' => v' = .int .u64 (firstG ss) ∧ M' = M ∧ H' = hL ++ H1 :=
 K.lends ha fun M2 hM2 hin => (sfirst_K (hg.sgP hM2 hin) hok).mono fun v' M' H' ⟨h1, h2, h3⟩ => ⟨h2, h1, rfl, by rw [h3]⟩
theorem slast_KL {lb db : Nat} {lim : Int} {ss : List Sg} {hL : Hp} (hg : SgO M lb db lim ss hL) (hok : sgsOk ss) (ha : Arr H (hL ++ H1)) : K Tryz.prog 33 [.pointer (some ⟨lb, 0, none⟩)] M H fun v' M' H' => v' = .int .u64 (lastG ss) ∧ M' = M ∧ H' = hL ++ H1 :=
 K.lends ha fun M2 hM2 hin => (slast_K (hg.sgP hM2 hin) hok).mono fun v' M' H' ⟨h1, h2, h3⟩ => ⟨h2, h1, rfl, by rw [h3]⟩
def prevE (prev : Option En) (e : En) : Prop := match prev with
 | some a => fitE a e
 | none => True
instance (prev : Option En) (e : En) : Decidable (prevE prev e) := by unfold prevE; cases prev <;> exact inferInstance
def folE : Option En → List En → Prop
 | _, [] => True
 | prev, e :: es => entS e ∧ prevE prev e ∧ folE (some e) es
noncomputable instance (prev : Option En) (es : List En) : Decidable (folE prev es) := Classical.propDecidable _
def aheadC (prev : Option En) (cs : List Value) : Prop := match prev with
 | some a => 1 ≤ a.idx ∧ a.idx ≤ 72057594037927935 ∧ ∃ A c, cs = ecells a (.slice A a.data.length c)
 | none => cs = [.int .i64 0, .int .u64 0, .int .u64 0, .slice none 0 0, .int .i64 0]
structure FlX where
 k : Nat
 kk : Int
 prev : Option En
 cs : List Value
theorem sfollow_K {lb db : Nat} {lim : Int} {ss : List Sg} {v : Value} {es : List En} (hg : SgP M lb db lim ss) (hok : sgsOk ss) (he : EnL M v es) : K Tryz.prog 74 [.pointer (some ⟨lb, 0, none⟩), v] M H fun v' M' H' => v' = .bool (decide (folE (lastO ss) es)) ∧ M' = M ∧ H' = H := by
 obtain ⟨A, cap, vs, rfl, k1, k2, k3, k4⟩ := he
 refine K.enterK Tryz.func74 rfl rfl rfl ?_
 intro Q hNP hQ
 (repeat' (first | (refine a_gn ?_; intros) | refine a_sp (fun h => ?_) fun h => ?_ | fail))
 ((apply R.alloc; (simp only [Value.cells]; rfl); exact rfl); intro b5)
 (repeat' (first | (refine a_g0 ?_; intros) | refine a_s3 (fun h => ?_) fun h => ?_ | fail))
 apply C.seqCut (X := List Value) (fun cs => aheadC (lastO ss) cs) (fun _ => [(0, .pointer (some ⟨lb, 0, none⟩)), (1, .slice A es.length cap), (5, .pointer (some ⟨b5, 0, none⟩))]) (fun _ => M) (fun cs => (b5, .cells cs.toArray 33 (0, 0)) :: H)
 ·by_cases h2 : ss.length = 0
  ·have hnl : ss = [] := List.eq_nil_of_length_eq_zero h2
   subst hnl
   obtain ⟨Ap, cp, hMl2⟩ := hg.recE
   have hpv : (#[.pointer (some ⟨db, 0, none⟩), .int .i64 lim, .slice Ap 0 cp] : Array Value)[0 + 2]? = some (.slice Ap 0 cp) := rfl
   (repeat' (first | refine a_mv ?_ | (apply R.step; (first | (apply Ok.gtF; exact rfl; exact rfl; decide) | (apply Ok.loadP; exact rfl; exact rfl; exact hMl2; exact hpv)); exact rfl) | (refine a_go ?_; intros) | refine a_sp (fun h => ?_) fun h => ?_ | fail))
   refine Fin.join ([.int .i64 0, .int .u64 0, .int .u64 0, .slice none 0 0, .int .i64 0] : List Value) rfl ?_ rfl rfl
   (exact a_subs)
  ·obtain ⟨s0, a, b, o, cp, cl0, ce', Al0, Ae, cc, hL⟩ := hg.last hok (by omega)
   have hMl2 := hL.rec_
   have hpv : (#[.pointer (some ⟨db, 0, none⟩), .int .i64 lim, .slice (some ⟨b, o, none⟩) ss.length cp] : Array Value)[0 + 2]? = some (.slice (some ⟨b, o, none⟩) ss.length cp) := rfl
   obtain ⟨e0, fr, hMb⟩ := hL.row
   have hcap := hL.cap1
   have hcap2 := hL.cap2
   have hak2 := hL.num
   have hagg := hL.cell
   obtain ⟨Al, cl, hbl, hK⟩ := plast_KQ (f := s0.first) (B := Ae) (m := s0.it.length) (cb := ce') hL.enl hL.lastE
   have hll : (ss.length : Int) - 1 = ((ss.length - 1 : Nat) : Int) := by omega
   (repeat' (first | refine a_mv ?_ | (apply R.step; (first | (apply Ok.gtTr; exact rfl; exact rfl; omega) | (apply Ok.loadP; exact rfl; exact rfl; exact hMl2; exact hpv)); exact rfl) | (refine a_go ?_; intros) | refine a_sp (fun h => ?_) fun h => ?_ | fail))
   (apply C.regionT (t := .free 0 (.free 1 (.free 2 (.free 3 (.free 4 (.free 5 (.free 6 (.free 7 (.free 8 (.free 9 (.free 10 (.free 11 (.free 12 (.one 13 .nil)))))))))))))) (Hs := []); exact Mix.h; (first | exact Arr.all _ | (exact a_arr) | (exact a_arrs)); (exact a_np); kernel_rfl)
   (repeat' (first | (apply RT.step; exact rfl; intro _ _ _; (apply Ok.move; exact rfl); exact rfl) | (apply RT.callQ; exact rfl; exact inferInstance; (exact a_evs); exact rfl; (intro M' Hx' hM'; exact hK M' _ hM')) | (apply RT.step; exact rfl; intro _ _ hMx; (first | (apply Ok.loadP; exact rfl; exact rfl; exact hMx.2.2 _ _ hMl2; exact hpv) | (apply Ok.subQ ((ss.length - 1 : Nat) : Int); exact rfl; exact rfl; exact hll; apply w64; omega; omega) | (apply Ok.indexAddr; exact rfl; exact rfl; omega; omega) | (apply Ok.loadAggP (vs := [Value.int .u64 (s0.first : Int), .slice Al0 s0.es.length cl0, .slice Ae s0.it.length ce']); exact rfl; exact rfl; exact hMx.2.2 _ _ hMb; exact rfl; exact hagg)); exact rfl) | refine a_ot ?_ | fail))
   (apply RT.one; apply OneT.eff; exact rfl; intro Kc hKc ops0)
   unfold eV ecells
   (repeat' (first | (refine a_go ?_; intros) | refine a_sp (fun h => ?_) fun h => ?_ | fail))
   (apply Fin.kt (Hx := (b5, .cells [.int .i64 a.kind, .int .u64 a.term, .int .u64 a.idx, .slice Al a.data.length cl, .int .i64 a.conf].toArray 33 (0, 0)) :: H) hKc; exact Mem.le_refl _; (exact a_arrs))
   (repeat' (first | refine a_ot ?_ | fail))
   apply RT.nil
   (repeat' (first | (refine a_go ?_; intros) | refine a_sp (fun h => ?_) fun h => ?_ | fail))
   refine Fin.join (ecells a (.slice Al a.data.length cl)) (by rw [hL.lastOE]; exact ⟨hak2.1, hak2.2, Al, cl, rfl⟩) ?_ rfl rfl
   (exact a_subs)
 rintro cs hcs
 (repeat' (first | (refine a_go ?_; intros) | refine a_sp (fun h => ?_) fun h => ?_ | fail))
 apply C.loop (fun x : FlX => (x.k : Int) = x.kk ∧ x.k ≤ es.length ∧ aheadC x.prev x.cs ∧ (folE (lastO ss) es ↔ folE x.prev (es.drop x.k)))
  (fun x => [(0, .pointer (some ⟨lb, 0, none⟩)), (5, .pointer (some ⟨b5, 0, none⟩)), (27, .slice A es.length cap), (28, .int .i64 (es.length : Int)), (29, .int .i64 x.kk)]) (fun _ => M) (fun x => (b5, .cells x.cs.toArray 33 (0, 0)) :: H) (fun x => es.length - x.k) ⟨0, 0, lastO ss, cs⟩
 ·exact ⟨rfl, Nat.zero_le _, hcs, Iff.rfl⟩
 ·(exact a_subs)
 ·exact rfl
 ·exact rfl
 clear hcs cs
 rintro ⟨k, kk, prev, cs⟩ ⟨hkk, hk, hcs, hfo⟩
 dsimp only at hkk hk hcs hfo ⊢
 by_cases hke : k < es.length
 ·obtain ⟨b2, o2, c2, e2', fr2, Ai, ci, rfl, hMb2, hcell2, _, hi1, hi2, hpi⟩ := en_at k3 k4 hke
  rw [show o2 + k * 5 = o2 + kk.toNat * 5 by omega] at hcell2
  have hdr : es.drop k = es[k] :: es.drop (k + 1) := List.drop_eq_getElem_cons hke
  generalize es[k] = x at hcell2 hpi hdr hi1
  rw [hdr, folE] at hfo
  (repeat' (first | refine a_mv ?_ | (apply R.step; (exact a_cmp); exact rfl) | (apply R.step; (first | (apply Ok.indexAddr; exact rfl; exact rfl; omega; omega) | (apply Ok.loadAggP (vs := ecells x (.slice Ai x.data.length ci)); exact rfl; exact rfl; exact hMb2; exact rfl; exact hcell2)); exact rfl) | (refine a_go ?_; intros) | refine a_sp (fun h => ?_) fun h => ?_ | fail))
  (apply R.call; (exact a_evs); exact rfl; exact rentry_K (e := x) (A := Ai) (cap := ci); rintro _ M _ ⟨rfl, rfl, rfl⟩)
  by_cases hE : entS x
  rotate_left
  ·rw [decide_eq_false hE]
   (repeat' (first | (refine a_go ?_; intros) | refine a_sp (fun h => ?_) fun h => ?_ | fail))
   (refine Fin.rA (H) ?_)
   exact ⟨by rw [decide_eq_false (fun h => hE (hfo.1 h).1)], rfl, rfl⟩
  rw [decide_eq_true hE]
  have hxk := (entS_kind hE).2.2.2.2.2.1
  match prev, hcs, hfo with
  | none, hcs, hfo =>
   cases hcs
   (repeat' (first | refine a_mv ?_ | (apply R.step; (first | (apply Ok.gtF; exact rfl; exact rfl; decide)); exact rfl) | (refine a_go ?_; intros) | refine a_sp (fun h => ?_) fun h => ?_ | fail))
   apply Fin.arr (H2 := (b5, .cells (ecells x (.slice Ai x.data.length ci)).toArray 33 (0, 0)) :: H) (by unfold ecells; (exact a_arrs))
   refine Fin.again (⟨k + 1, kk + 1, some x, ecells x (.slice Ai x.data.length ci)⟩ : FlX) ⟨by dsimp only; omega, by dsimp only; omega, ⟨hxk.1, hxk.2, Ai, ci, rfl⟩, ?_⟩ (by dsimp only; omega) ?_ rfl rfl
   ·dsimp only
    exact ⟨fun h => (hfo.1 h).2.2, fun h => hfo.2 ⟨hE, trivial, h⟩⟩
   ·(exact a_subs)
  | some a, hcs, hfo =>
   obtain ⟨a1, a2, Aa, ca, rfl⟩ := hcs
   unfold ecells
   by_cases h1 : x.idx = a.idx + 1
   ·by_cases h2 : a.term ≤ x.term
    ·(repeat' (first | refine a_mv ?_ | (apply R.step; (first | (apply Ok.gtTr; exact rfl; exact rfl; omega) | (apply Ok.addB; exact rfl; exact rfl; apply wu64; omega; omega) | (apply Ok.neIR; exact rfl; exact rfl; exact h1) | (apply Ok.ltF; exact rfl; exact rfl; omega)); exact rfl) | (refine a_go ?_; intros) | refine a_sp (fun h => ?_) fun h => ?_ | fail))
     apply Fin.arr (H2 := (b5, .cells (ecells x (.slice Ai x.data.length ci)).toArray 33 (0, 0)) :: H) (by unfold ecells; (exact a_arrs))
     refine Fin.again (⟨k + 1, kk + 1, some x, ecells x (.slice Ai x.data.length ci)⟩ : FlX) ⟨by dsimp only; omega, by dsimp only; omega, ⟨hxk.1, hxk.2, Ai, ci, rfl⟩, ?_⟩ (by dsimp only; omega) ?_ rfl rfl
     ·dsimp only
      exact ⟨fun h => (hfo.1 h).2.2, fun h => hfo.2 ⟨hE, ⟨h1, h2⟩, h⟩⟩
     ·(exact a_subs)
    ·(repeat' (first | refine a_mv ?_ | (apply R.step; (first | (apply Ok.gtTr; exact rfl; exact rfl; omega) | (apply Ok.addB; exact rfl; exact rfl; apply wu64; omega; omega) | (apply Ok.neIR; exact rfl; exact rfl; exact h1) | (apply Ok.ltTr; exact rfl; exact rfl; omega)); exact rfl) | (refine a_go ?_; intros) | refine a_sp (fun h => ?_) fun h => ?_ | fail))
     (refine Fin.rA (H) ?_)
     exact ⟨by rw [decide_eq_false (fun h => h2 (hfo.1 h).2.1.2)], rfl, rfl⟩
   ·(repeat' (first | refine a_mv ?_ | (apply R.step; (first | (apply Ok.gtTr; exact rfl; exact rfl; omega) | (apply Ok.addB; exact rfl; exact rfl; apply wu64; omega; omega) | (apply Ok.neIT; exact rfl; exact rfl; exact h1)); exact rfl) | (refine a_go ?_; intros) | refine a_sp (fun h => ?_) fun h => ?_ | fail))
    (refine Fin.rA (H) ?_)
    exact ⟨by rw [decide_eq_false (fun h => h1 (hfo.1 h).2.1.1)], rfl, rfl⟩
 ·have hke' : k = es.length := by omega
  rw [hke', List.drop_eq_nil_of_le (Nat.le_refl _)] at hfo
  (repeat' (first | refine a_mv ?_ | (apply R.step; (exact a_cmp); exact rfl) | (refine a_go ?_; intros) | refine a_sp (fun h => ?_) fun h => ?_ | fail))
  (refine Fin.rA (H) ?_)
  exact ⟨by rw [decide_eq_true (hfo.2 trivial)], rfl, rfl⟩
end Go.Sx
end
section
namespace Go.Sx
open Go.RowKit
theorem OwnT.split {e sz m cap : Nat} {A : Option Addr} {xs : List Value} {hp : Hp} (h : OwnT e sz (.slice A m cap) m xs hp) (h0 : 0 < m) : ∃ (b o : Nat) (c : List Value), A = some ⟨b, o, none⟩ ∧ hp = [(b, .cells c.toArray e (0, 0))] ∧ o + cap * sz ≤ c.length ∧ m ≤ cap ∧ cap ≤ maxLen ∧ ∀ (j : Nat) u, xs[j]? = some u → c[o + j]? = some u := by
 rcases h.2 with ⟨_, h2, _⟩ | ⟨b, o, cap', c, h1, h2, h3, h4, h5, h6⟩
 ·omega
 ·injection h1 with e1 _ e3
  subst e1 e3 h2
  refine ⟨b, o, c.toList, rfl, by simp, by simpa using h5, h3, h4, fun j u hj => ?_⟩
  have hl : j < m * sz := by have := (List.getElem?_eq_some_iff.1 hj).1; have := h.1; omega
  rw [← h6, List.getElem?_take, if_pos hl, List.getElem?_drop] at hj
  exact hj
theorem OwnT.putLast {e sz m cap b o : Nat} {c ys zs vs : List Value} (h : OwnT e sz (.slice (some ⟨b, o, none⟩) (m + 1) cap) (m + 1) (ys ++ zs) [(b, .cells c.toArray e (0, 0))]) (hy : ys.length = m * sz) (hv : vs.length = sz) : OwnT e sz (.slice (some ⟨b, o, none⟩) (m + 1) cap) (m + 1) (ys ++ vs) [(b, .cells (c.take (o + m * sz) ++ vs ++ c.drop (o + m * sz + vs.length)).toArray e (0, 0))] := by
 have hmz : (m + 1) * sz = m * sz + sz := Nat.succ_mul ..
 refine ⟨by rw [List.length_append, hy, hv, hmz], ?_⟩
 rcases h.2 with ⟨_, h2, _⟩ | ⟨b', o', cap', c', h1, h2, h3, h4, h5, h6⟩
 ·omega
 ·injection h1 with e1 _ e3
  injection e1 with e1
  injection e1 with e1 e4
  subst e1 e4 e3
  injection h2 with h2 _
  injection h2 with _ h2
  injection h2 with h2 _ _
  subst h2
  have hcl : (m + 1) * sz ≤ cap * sz := Nat.mul_le_mul_right _ h3
  have h5' : o + cap * sz ≤ c.length := by simpa using h5
  have h6' : (c.drop o).take ((m + 1) * sz) = ys ++ zs := by simpa using h6
  have hys : (c.drop o).take (m * sz) = ys := by
   have h7 := congrArg (List.take (m * sz)) h6'
   rw [List.take_take, Nat.min_eq_left (by omega), List.take_append_of_le_length (by omega)] at h7
   exact h7.trans (List.take_of_length_le (by omega))
  refine .inr ⟨b, o, cap, _, rfl, rfl, h3, h4, ?_, ?_⟩
  ·simp only [List.size_toArray, List.length_append, List.length_take, List.length_drop]
   omega
  ·simp only
   have hA : (c.take (o + m * sz)).length = o + m * sz := by rw [List.length_take]; omega
   rw [List.append_assoc, List.drop_append_of_le_length (by omega), List.drop_take, Nat.add_sub_cancel_left, hys, ← List.append_assoc]
   rw [List.take_append_of_le_length (by rw [List.length_append, hy, hv]; omega)]
   exact List.take_of_length_le (by rw [List.length_append, hy, hv]; omega)
theorem OwnT.shrink {e sz m k cap : Nat} {A : Option Addr} {xs : List Value} {hp : Hp} (h : OwnT e sz (.slice A m cap) m xs hp) (hk : k ≤ m) : OwnT e sz (.slice A k cap) k (xs.take (k * sz)) hp := by
 have hkm : k * sz ≤ m * sz := Nat.mul_le_mul_right _ hk
 refine ⟨by rw [List.length_take, h.1]; omega, ?_⟩
 rcases h.2 with ⟨h1, h2, h3⟩ | ⟨b, o, cap', c, h1, h2, h3, h4, h5, h6⟩
 ·injection h1 with e1 _ e3
  subst e1 e3
  have : k = 0 := by omega
  subst this
  exact .inl ⟨rfl, rfl, h3⟩
 ·injection h1 with e1 _ e3
  subst e1 e3
  exact .inr ⟨b, o, cap, c, rfl, h2, by omega, h4, h5, by rw [← h6, List.take_take, Nat.min_eq_left hkm]⟩
section
variable {P : Program} {r : Option Nat} {n : Nat} {D : List Deferred} {L : Sl} {M : Mem} {H : Hp} {Q : Post}
theorem C.cutK {X : Type} (I : X → Prop) (Lf : X → Sl) (Mf : X → Mem) (Hf : X → Hp) {x y : Code} {Kn : Act → World → Prop} (hk : KOf P r n y Q Kn) (hx : C P r n x (Exit.then (Join n D I Lf Mf Hf) Q) D L M H)
  (hy : ∀ z, I z → C P r n y Q D (Lf z) (Mf z) (Hf z)) : C P r n x (Exit.then Kn Q) D L M H := by
 intro a w hf hh
 refine wpIn_mono (hx a w hf hh) ?_
 intro e a' w' hq
 cases e with
 | normal =>
  obtain ⟨z, h1, h2, h3⟩ := hq
  exact hk _ _ _ _ (hy z h1) a' w' h2 h3
 | exit id => exact hq
 | goto l => exact hq
 | ret => exact hq
 | panic ch => exact hq
 | outgrown => exact hq
end
end Go.Sx
end
section
namespace Go.Sx
open Go Go.Proofs Go.RowKit
attribute [local irreducible] C R Fin K Own OwnT Rd Pl Ok KOf RetOk OpsOf RP KP Res NoPanic KV KE MapS ItS EntS FsO FsR RowD PlD DkO RT KT OneT RS KS OneS
variable {M M' : Mem} {H H1 H2 : Hp}
def freshG (lim : Int) (ss : List Sg) (z : Nat) : Bool := match ss.getLast? with
 | none => true
 | some s => decide (lim < ((s.size + z : Nat) : Int))
def tailG (fr : Bool) (ss : List Sg) (e : En) : Sg := if fr then ⟨e.idx.toNat, []⟩ else ss.getLastD ⟨0, []⟩
def headG (fr : Bool) (ss : List Sg) : List Sg := if fr then ss else ss.dropLast
def addS (s : Sg) (e : En) : Sg := ⟨s.first, s.it ++ [(e, (frameS (layE e)).length)]⟩
def appL : Dk → Int → List Sg → List En → Int × Dk × List Sg
 | d, _, ss, [] => (0, d, ss)
 | d, lim, ss, e :: es =>
  if appE d (nameS (tailG (freshG lim ss (frameS (layE e)).length) ss e).first) (frameS (layE e)) ≠ 0 then
   (appE d (nameS (tailG (freshG lim ss (frameS (layE e)).length) ss e).first) (frameS (layE e)), opD (appE d (nameS (tailG (freshG lim ss (frameS (layE e)).length) ss e).first) (frameS (layE e))) d (.app (nameS (tailG (freshG lim ss (frameS (layE e)).length) ss e).first) (frameS (layE e))), ss)
  else appL (opD 0 d (.app (nameS (tailG (freshG lim ss (frameS (layE e)).length) ss e).first) (frameS (layE e)))) lim (headG (freshG lim ss (frameS (layE e)).length) ss ++ [addS (tailG (freshG lim ss (frameS (layE e)).length) ss e) e]) es
noncomputable def appG (d : Dk) (lim : Int) (ss : List Sg) (es : List En) : Int × Dk × List Sg := if folE (lastO ss) es then appL d lim ss es else (1, d, ss)
theorem layF_len {e : En} (h : entS e) : (frameS (layE e)).length = 8 + (layE e).length ∧ (layE e).length ≤ 159 := by
 have h1 := layE_len h
 exact ⟨frameS_len (by omega), h1⟩
def smG (n : Nat) (ss : List Sg) : Prop := ∀ s ∈ ss, s.first ≤ 72057594037927935 ∧ s.it.length + s.size + 200 * n ≤ 1099511627776
theorem folE_drop {prev : Option En} {es : List En} (h : folE prev es) : ∀ e ∈ es, entS e := by
 induction es generalizing prev with
 | nil => intro e he; cases he
 | cons x xs ih =>
  intro e he
  rcases List.mem_cons.1 he with he | he
  ·rw [he]; exact h.1
  ·exact ih h.2.2 e he
theorem headG_mem {fr : Bool} {ss : List Sg} {s : Sg} (h : s ∈ headG fr ss) : s ∈ ss := by
 unfold headG at h
 split at h
 ·exact h
 ·exact List.dropLast_subset _ h
theorem tailG_mem {ss : List Sg} {e : En} (h : ss ≠ []) : tailG false ss e ∈ ss := by
 unfold tailG
 rw [if_neg (by decide), List.getLastD_eq_getLast?, List.getLast?_eq_some_getLast h]
 exact List.getLast_mem h
theorem headG_tailG {ss : List Sg} {e : En} (h : ss ≠ []) : ss = headG false ss ++ [tailG false ss e] := by
 unfold headG tailG
 rw [if_neg (by decide), if_neg (by decide), List.getLastD_eq_getLast?, List.getLast?_eq_some_getLast h]
 exact (List.dropLast_concat_getLast h).symm
theorem freshG_ne {lim : Int} {ss : List Sg} {z : Nat} (h : freshG lim ss z = false) : ss ≠ [] := by
 rintro rfl
 cases h
theorem headG_len (fr : Bool) (ss : List Sg) : (headG fr ss).length ≤ ss.length := by
 unfold headG
 split
 ·exact Nat.le_refl _
 ·rw [List.length_dropLast]; omega
theorem addS_size (s : Sg) (e : En) : (addS s e).size = s.size + (frameS (layE e)).length := by
 unfold addS Sg.size Sg.zs
 rw [List.map_append, List.sum_append]
 simp
theorem addS_es (s : Sg) (e : En) : (addS s e).es = s.es ++ [e] := by
 unfold addS Sg.es
 rw [List.map_append]
 rfl
theorem addS_len (s : Sg) (e : En) : (addS s e).it.length = s.it.length + 1 := by
 unfold addS
 rw [List.length_append]
 rfl
theorem next_ok {lim : Int} {ss : List Sg} {e : En} {fr : Bool} (hok : sgsOk ss) (he : entS e) (hf : freshG lim ss (frameS (layE e)).length = fr) : sgsOk (headG fr ss ++ [addS (tailG fr ss e) e]) := by
 refine sgsOk.snoc (hok.sub (fun s h => headG_mem h)) (by rw [addS_len]; exact Nat.zero_lt_succ _) ?_
 intro x hx
 rw [addS_es] at hx
 rcases List.mem_append.1 hx with hx | hx
 ·cases fr with
  | true => cases hx
  | false => exact (hok _ (tailG_mem (freshG_ne hf))).2 x hx
 ·rw [List.mem_singleton] at hx
  rw [hx]
  exact he
theorem tailG_sm {lim : Int} {ss : List Sg} {e : En} {fr : Bool} {n : Nat} (hs : smG n ss) (he : entS e) (hn : n ≤ 1000000) (hf : freshG lim ss (frameS (layE e)).length = fr) : (tailG fr ss e).first ≤ 72057594037927935 ∧ (tailG fr ss e).it.length + (tailG fr ss e).size + 200 * n ≤ 1099511627776 := by
 cases fr with
 | true =>
  have h1 := (entS_kind he).2.2.2.2.2.1
  refine ⟨?_, ?_⟩
  ·show e.idx.toNat ≤ _
   omega
  ·show 0 + ([] : List Nat).sum + _ ≤ _
   simp
   omega
 | false => exact hs _ (tailG_mem (freshG_ne hf))
theorem next_sm {lim : Int} {ss : List Sg} {e : En} {fr : Bool} {n : Nat} (hs : smG (n + 1) ss) (he : entS e) (hn : n + 1 ≤ 1000000) (hf : freshG lim ss (frameS (layE e)).length = fr) : smG n (headG fr ss ++ [addS (tailG fr ss e) e]) := by
 intro x hx
 rcases List.mem_append.1 hx with hx | hx
 ·have := hs x (headG_mem hx)
  exact ⟨this.1, by omega⟩
 ·rw [List.mem_singleton] at hx
  rw [hx]
  have h1 := tailG_sm hs he hn hf
  have h2 := layF_len he
  refine ⟨h1.1, ?_⟩
  rw [addS_len, addS_size]
  omega
theorem next_len {ss : List Sg} {e : En} {fr : Bool} {lim : Int} (hf : freshG lim ss (frameS (layE e)).length = fr) : (headG fr ss ++ [addS (tailG fr ss e) e]).length ≤ ss.length + 1 := by
 rw [List.length_append, List.length_singleton]
 have := headG_len fr ss
 omega
theorem ptC_flat (ps : List PtV) : (ps.map ptC).flatten.length = ps.length * 3 := by
 induction ps with
 | nil => rfl
 | cons p ps ih => rw [List.map_cons, List.flatten_cons, List.length_append, ih, List.length_cons]; show 3 + _ = _; omega
theorem rowP_snoc (qs : List PtV) (p : PtV) : ((qs ++ [p]).map ptC).flatten = (qs.map ptC).flatten ++ ptC p := by simp
structure EndO (M : Mem) (lb db : Nat) (lim : Int) (ss : List Sg) (hL : Hp) (qs : List PtV) (p : PtV) (b o cap : Nat) (c : List Value) : Prop where
 segs : ss = qs.map PtV.s ++ [p.s]
 len : qs.length + 1 = ss.length
 heap : hL = (lb, lgO db lim (.slice (some ⟨b, o, none⟩) ss.length cap)) :: (b, .cells c.toArray 85 (0, 0)) :: (ptH qs ++ (p.lh ++ p.eh))
 row : OwnT 85 3 (.slice (some ⟨b, o, none⟩) ss.length cap) ss.length ((qs.map ptC).flatten ++ ptC p) [(b, .cells c.toArray 85 (0, 0))]
 room : o + cap * 3 ≤ c.length
 cap1 : ss.length ≤ cap
 cap2 : cap ≤ 9223372036854775807
 cell : ∀ (q : Nat) u, (ptC p)[q]? = some u → c[o + (ss.length - 1) * 3 + q]? = some u
 all : ∀ x ∈ qs, PtO M x
 own : PtO M p
theorem SgO.endO {lb db : Nat} {lim : Int} {ss : List Sg} {hL : Hp} (hg : SgO M lb db lim ss hL) (h0 : 0 < ss.length) : ∃ qs p b o cap c, EndO M lb db lim ss hL qs p b o cap c := by
 obtain ⟨ps, pv, hrow, hss, hrw, hpt, rfl⟩ := hg
 have hpl : ps.length = ss.length := by rw [← hss, List.length_map]
 obtain ⟨A, cap, rfl, _, _⟩ := hrw.form
 obtain ⟨b, o, c, rfl, rfl, h1, h2, h3, h4⟩ := hrw.split (by omega)
 obtain ⟨qs, p, rfl⟩ : ∃ qs p, ps = qs ++ [p] := ⟨ps.dropLast, ps.getLast (List.ne_nil_of_length_pos (by omega)), (List.dropLast_concat_getLast _).symm⟩
 rw [List.length_append, List.length_singleton] at hpl
 rw [rowP_snoc] at hrw h4
 refine ⟨qs, p, b, o, cap, c, by rw [← hss, List.map_append]; rfl, hpl, ?_, ?_, h1, by rw [List.length_append] at h2; simp at h2; omega, by unfold maxLen at h3; omega, ?_, fun x hx => hpt x (List.mem_append_left _ hx), hpt p (List.mem_append_right _ (List.mem_singleton_self _))⟩
 ·rw [ptH_snoc, List.length_append, List.length_singleton, hpl]
  rfl
 ·rw [List.length_append, List.length_singleton, hpl] at hrw
  exact hrw
 ·intro q u hq
  have := h4 (qs.length * 3 + q) u (by rw [List.getElem?_append_right (by rw [ptC_flat]; omega), ptC_flat, Nat.add_sub_cancel_left]; exact hq)
  rw [show o + (ss.length - 1) * 3 + q = o + (qs.length * 3 + q) by rw [← hpl]; omega]
  exact this
end Go.Sx
end
