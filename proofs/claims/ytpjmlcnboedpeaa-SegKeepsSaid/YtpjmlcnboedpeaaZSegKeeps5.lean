import Derived.Test.YtpjmlcnboedpeaaZSegKeeps4
section
namespace Go.Sx
open Go Go.Proofs Go.RowKit
theorem okG_snoc {s : Sg} : ∀ {ss : List Sg} {prev : Option En}, okG prev (ss ++ [s]) ↔ okG prev ss ∧ OkS (match ss.getLast? with | none => prev | some t => t.es.getLast?) s
  | [], prev => ⟨fun h => ⟨trivial, h.1⟩, fun h => ⟨h.2, trivial⟩⟩
  | x :: r, prev => by
    rw [List.cons_append]
    have h := okG_snoc (s := s) (ss := r) (prev := x.es.getLast?)
    have e : (match (x :: r).getLast? with | none => prev | some t => t.es.getLast?) = (match r.getLast? with | none => x.es.getLast? | some t => t.es.getLast?) := by
      rw [List.getLast?_cons]
      cases r.getLast? <;> rfl
    rw [e]
    exact ⟨fun g => ⟨⟨g.1, (h.1 g.2).1⟩, (h.1 g.2).2⟩, fun g => ⟨g.1.1, h.2 ⟨g.1.2, g.2⟩⟩⟩
theorem okG_last {ss : List Sg} {s : Sg} : okG none (ss ++ [s]) ↔ okG none ss ∧ OkS (lastO ss) s := by
  rw [okG_snoc]
  unfold lastO
  cases ss.getLast? <;> exact Iff.rfl
theorem seqF_snoc {prev : Option En} {f : Nat} {e : En} : ∀ {es acc : List En}, seqF prev f acc (es ++ [e]) ↔ seqF prev f acc es ∧ entS e ∧ fitS prev f (acc ++ es) e
  | [], acc => by
    rw [List.append_nil]
    exact ⟨fun h => ⟨trivial, h.1, h.2.1⟩, fun h => ⟨h.2.1, h.2.2, trivial⟩⟩
  | x :: es, acc => by
    have h := seqF_snoc (prev := prev) (f := f) (e := e) (es := es) (acc := acc ++ [x])
    rw [List.append_assoc] at h
    exact ⟨fun g => ⟨⟨g.1, g.2.1, (h.1 g.2.2).1⟩, (h.1 g.2.2).2⟩, fun g => ⟨g.1.1, g.1.2.1, h.2 ⟨g.1.2.2, g.2⟩⟩⟩
theorem zE_frame {e : En} (h : entS e) : zE e = (e, (frameS (layE e)).length) := by
  unfold zE
  rw [(layF_len h).1]
theorem cat_snoc' (ls : List Txt) (p : Txt) : cat (ls ++ [p]) = cat ls ++ frameS p := by simp [cat]
theorem fileS_add (s : Sg) (e : En) : fileS (addS s e) = fileS s ++ frameS (layE e) := by
  unfold fileS
  rw [addS_es, List.map_append]
  exact cat_snoc' _ _
theorem OkS.add {prev : Option En} {s : Sg} {e : En} (h : OkS prev s) (he : entS e) (hf : prevE s.es.getLast? e) (hr : s.it.length + 1 ≤ 1000000) : OkS prev (addS s e) := by
  refine ⟨h.num, by rw [addS_len]; exact Nat.zero_lt_succ _, ?_, ?_, by rw [addS_len]; exact hr⟩
  · rw [addS_es, List.map_append, ← h.it]
    show s.it ++ [(e, (frameS (layE e)).length)] = s.it ++ [zE e]
    rw [zE_frame he]
  · rw [addS_es]
    show seqF prev s.first [] (s.es ++ [e])
    refine seqF_snoc.2 ⟨h.seq, he, ?_⟩
    obtain ⟨a, ha, _⟩ := h.last
    unfold fitS
    rw [List.nil_append, ha]
    rw [ha] at hf
    exact hf
theorem OkS.new {prev : Option En} {e : En} (he : entS e) (hf : prevE prev e) : OkS prev (addS ⟨e.idx.toNat, []⟩ e) := by
  have h1 := (entS_kind he).2.2.2.2.2.1
  refine ⟨by show e.idx.toNat ≤ _; omega, Nat.zero_lt_one, ?_, ?_, by show 1 ≤ 1000000; decide⟩
  · show [(e, (frameS (layE e)).length)] = [zE e]
    rw [zE_frame he]
  · refine ⟨he, ⟨?_, ?_⟩, trivial⟩
    · show e.idx = ((e.idx.toNat : Nat) : Int)
      omega
    · cases prev with
      | none => trivial
      | some a => exact hf
structure LogD (d : Dk) (ss : List Sg) : Prop where
  go : goes d
  now : d.now = filesG ss
  ok : okG none ss
theorem LogD.open_ {d : Dk} {ss : List Sg} (h : LogD d ss) : openS d = (0, d, ss) := openS_all h.go.2 h.now h.ok
theorem okG_last_le : ∀ {ss : List Sg} {prev : Option En} {a : En}, okG prev ss → lastO ss = some a → ∀ s ∈ ss, (s.first : Int) ≤ a.idx
  | [], _, _, _, h, _, _ => by cases h
  | x :: r, prev, a, h, hl, s, hs => by
    obtain ⟨b, hb, hbi⟩ := h.1.last
    have hx := h.1.len
    by_cases hr : r = []
    · subst hr
      have h1 : lastO [x] = x.es.getLast? := lastO_snoc [] x
      rw [h1, hb] at hl
      cases hl
      rw [List.mem_singleton] at hs
      rw [hs]
      omega
    · have h1 : lastO (x :: r) = lastO r := by
        unfold lastO
        rw [List.getLast?_cons]
        cases hg : r.getLast? with
        | none => exact absurd (List.getLast?_eq_none_iff.1 hg) hr
        | some t => rfl
      rw [h1] at hl
      have h2 := h.2
      rw [hb] at h2
      rcases List.mem_cons.1 hs with hsx | hs
      · obtain ⟨y, hy⟩ : ∃ y, y ∈ r := List.exists_mem_of_ne_nil r hr
        have h3 := okG_gt h2 y hy
        have h4 := okG_last_le h2 hl y hy
        rw [hsx]
        omega
      · exact okG_last_le h2 hl s hs
theorem put_new {F : Fs} {n : Txt} (h : n ∉ keyS F) (b : Txt) : doF F (.app n b) = F ++ [(n, b)] := by
  have hg : getS F n = none := by
    unfold getS
    rw [Option.map_eq_none_iff, List.find?_eq_none]
    intro x hx
    rw [decide_eq_true_eq]
    intro e
    exact h (List.mem_map.2 ⟨x, hx, e⟩)
  show putS F n (fileD F n ++ b) = _
  unfold putS fileD
  rw [if_neg h, hg]
  rfl
theorem put_last {F : Fs} {n f : Txt} (h : n ∉ keyS F) (b : Txt) : doF (F ++ [(n, f)]) (.app n b) = F ++ [(n, f ++ b)] := by
  have hk : n ∈ keyS (F ++ [(n, f)]) := by
    unfold keyS
    rw [List.map_append]
    exact List.mem_append_right _ (List.mem_singleton.2 rfl)
  have hF : ∀ x ∈ F, x.1 ≠ n := fun x hx e => h (List.mem_map.2 ⟨x, hx, e⟩)
  have hg : getS (F ++ [(n, f)]) n = some f := by
    unfold getS
    rw [List.find?_append]
    have : F.find? (fun p => decide (p.1 = n)) = none := List.find?_eq_none.2 fun x hx => by rw [decide_eq_true_eq]; exact hF x hx
    rw [this]
    simp
  show putS (F ++ [(n, f)]) n (fileD (F ++ [(n, f)]) n ++ b) = _
  unfold putS fileD
  rw [if_pos hk, hg, List.map_append]
  congr 1
  · conv => rhs; rw [← List.map_id F]
    refine List.map_congr_left fun x hx => ?_
    rw [if_neg (hF x hx)]
    rfl
  · simp
theorem files_app (ss ts : List Sg) : filesG (ss ++ ts) = filesG ss ++ filesG ts := by
  unfold filesG
  rw [List.map_append]
theorem key_not {ss : List Sg} {n : Nat} (hn : n ≤ 72057594037927935) (hm : ∀ s ∈ ss, s.first ≤ 72057594037927935) (h : ∀ s ∈ ss, s.first ≠ n) : nameS n ∉ keyS (filesG ss) := by
  rw [keys_files]
  intro hk
  obtain ⟨s, hs, e⟩ := List.mem_map.1 hk
  exact h s hs (name_inj (hm s hs) hn e)
theorem step_files {ss : List Sg} {e : En} {lim : Int} {fr : Bool} (hok : okG none ss) (he : entS e) (hp : prevE (lastO ss) e) (hsm : ∀ s ∈ ss, s.it.length + 1 ≤ 1000000) (hf : freshG lim ss (frameS (layE e)).length = fr) : okG none (headG fr ss ++ [addS (tailG fr ss e) e]) ∧ doF (filesG ss) (.app (nameS (tailG fr ss e).first) (frameS (layE e))) = filesG (headG fr ss ++ [addS (tailG fr ss e) e]) ∧ listG (headG fr ss ++ [addS (tailG fr ss e) e]) = listG ss ++ [e] ∧ (∀ t, doF (filesG ss) (.app (nameS (tailG fr ss e).first) ((frameS (layE e)).take t)) = filesG (headG fr ss) ++ [(nameS (tailG fr ss e).first, fileS (tailG fr ss e) ++ (frameS (layE e)).take t)]) := by
  have hm := okG_num hok
  have h1 := (entS_kind he).2.2.2.2.2.1
  cases fr with
  | true =>
    have hn : nameS e.idx.toNat ∉ keyS (filesG ss) := by
      refine key_not (by omega) hm fun s hs => ?_
      cases hl : lastO ss with
      | none =>
        unfold lastO at hl
        cases hg : ss.getLast? with
        | none =>
          rw [List.getLast?_eq_none_iff.1 hg] at hs
          cases hs
        | some t =>
          rw [hg] at hl
          obtain ⟨init, rfl⟩ := List.getLast?_eq_some_iff.1 hg
          obtain ⟨a, ha, _⟩ := (okG_last.1 hok).2.last
          have hl' : t.es.getLast? = none := hl
          rw [ha] at hl'
          cases hl'
      | some a =>
        have h2 := okG_last_le hok hl s hs
        rw [hl] at hp
        have h3 : e.idx = a.idx + 1 := hp.1
        omega
    refine ⟨okG_last.2 ⟨hok, OkS.new he hp⟩, ?_, ?_, fun t => ?_⟩
    · rw [put_new (n := nameS (tailG true ss e).first) hn]
      show _ = filesG (ss ++ [addS ⟨e.idx.toNat, []⟩ e])
      rw [files_app]
      show _ = filesG ss ++ [(nameS e.idx.toNat, fileS (addS ⟨e.idx.toNat, []⟩ e))]
      rw [fileS_add]
      rfl
    · rw [listG_snoc, addS_es]
      rfl
    · rw [put_new (n := nameS (tailG true ss e).first) hn]
      rfl
  | false =>
    have hne := freshG_ne hf
    have hs := headG_tailG (e := e) hne
    have hsok := hok
    rw [hs, okG_last] at hsok
    have hlast : lastO ss = (tailG false ss e).es.getLast? := by
      have := lastO_snoc (headG false ss) (tailG false ss e)
      rwa [← hs] at this
    rw [hlast] at hp
    have hpw := okG_pw hok
    rw [hs, List.pairwise_append] at hpw
    have hn : nameS (tailG false ss e).first ∉ keyS (filesG (headG false ss)) := by
      refine key_not (hm _ (tailG_mem hne)) (fun s h => hm s (headG_mem h)) fun s h => ?_
      have := hpw.2.2 s h _ (List.mem_singleton_self _)
      omega
    have hfe : filesG ss = filesG (headG false ss) ++ [(nameS (tailG false ss e).first, fileS (tailG false ss e))] := by
      have := files_app (headG false ss) [tailG false ss e]
      rw [← hs] at this
      exact this
    refine ⟨okG_last.2 ⟨hsok.1, hsok.2.add he hp (hsm _ (tailG_mem hne))⟩, ?_, ?_, fun t => ?_⟩
    · rw [hfe, put_last hn, files_app]
      show _ = _ ++ [(nameS (addS (tailG false ss e) e).first, fileS (addS (tailG false ss e) e))]
      rw [fileS_add]
      rfl
    · have h4 := listG_snoc (headG false ss) (tailG false ss e)
      rw [← hs] at h4
      rw [listG_snoc, addS_es, h4, List.append_assoc]
    · rw [hfe, put_last hn]
end Go.Sx
end
section
namespace Go.Sx
open Go Go.Proofs Go.RowKit
theorem sumF_snoc (F : Fs) (n f : Txt) : sumF (F ++ [(n, f)]) = sumF F + f.length := by
  unfold sumF
  rw [List.map_append, List.sum_append]
  simp
theorem sumF_step {ss : List Sg} {e : En} {lim : Int} {fr : Bool} (hf : freshG lim ss (frameS (layE e)).length = fr) : sumF (filesG (headG fr ss ++ [addS (tailG fr ss e) e])) = sumF (filesG ss) + (frameS (layE e)).length := by
  have h1 : filesG (headG fr ss ++ [addS (tailG fr ss e) e]) = filesG (headG fr ss) ++ [((nameS (addS (tailG fr ss e) e).first, fileS (addS (tailG fr ss e) e)))] := files_app _ _
  rw [h1, sumF_snoc, fileS_add, List.length_append]
  cases fr with
  | true =>
    show sumF (filesG ss) + ([].length + _) = _
    rw [List.length_nil]
    omega
  | false =>
    have hs := headG_tailG (e := e) (freshG_ne hf)
    have h2 := files_app (headG false ss) [tailG false ss e]
    rw [← hs] at h2
    have h3 : sumF (filesG ss) = sumF (filesG (headG false ss)) + (fileS (tailG false ss e)).length := by
      rw [h2]
      exact sumF_snoc _ _ _
    omega
theorem lastO_next {ss : List Sg} {e : En} {fr : Bool} : lastO (headG fr ss ++ [addS (tailG fr ss e) e]) = some e := by
  rw [lastO_snoc, addS_es, List.getLast?_append]
  rfl
theorem folE_go {prev : Option En} {e : En} {es : List En} (h : folE prev (e :: es)) : entS e ∧ prevE prev e ∧ folE (some e) es := h
theorem appE_ok {d : Dk} {ss : List Sg} {n b : Txt} (h : LogD d ss) (hn : n.length = 16) (hl : ss.length < 64) (hr : ((sumF d.now + b.length : Nat) : Int) ≤ d.room) : appE d n b = 0 := by
  have h2 : namedB n = true := by
    unfold namedB
    rw [hn]
    rfl
  have h3 : d.now.length = ss.length := by rw [h.now]; exact List.length_map ..
  unfold appE
  rw [if_neg h.go.stop, if_neg (by rw [h2]; decide), if_neg (by omega)]
structure LogR (d : Dk) (ss : List Sg) (k : Nat) : Prop where
  log : LogD d ss
  its : ∀ s ∈ ss, s.it.length + k ≤ 1000000
  num : ss.length + k ≤ 64
  room : ((sumF d.now + 167 * k : Nat) : Int) ≤ d.room
theorem LogR.step {d : Dk} {ss : List Sg} {k : Nat} {e : En} {lim : Int} (h : LogR d ss (k + 1)) (he : entS e) (hp : prevE (lastO ss) e) : appE d (nameS (tailG (freshG lim ss (frameS (layE e)).length) ss e).first) (frameS (layE e)) = 0 ∧ LogR (opD 0 d (.app (nameS (tailG (freshG lim ss (frameS (layE e)).length) ss e).first) (frameS (layE e)))) (headG (freshG lim ss (frameS (layE e)).length) ss ++ [addS (tailG (freshG lim ss (frameS (layE e)).length) ss e) e]) k := by
  generalize hf : freshG lim ss (frameS (layE e)).length = fr
  have hz := layF_len he
  obtain ⟨h1, h2, h3, h4⟩ := step_files (lim := lim) h.log.ok he hp (fun s hs => by have := h.its s hs; omega) hf
  have hsum := sumF_step hf
  have hnum : (tailG fr ss e).first ≤ 72057594037927935 := okG_num h1 (addS (tailG fr ss e) e) (List.mem_append_right _ (List.mem_singleton_self _))
  have hr := h.room
  have hn := h.num
  have hno : (opD 0 d (.app (nameS (tailG fr ss e).first) (frameS (layE e)))).now = filesG (headG fr ss ++ [addS (tailG fr ss e) e]) := by
    rw [h.log.go.now, h.log.now, h2]
  refine ⟨appE_ok h.log (nameS_len hnum) (by omega) (by omega), ⟨h.log.go.op', hno, h1⟩, ?_, ?_, ?_⟩
  · intro s hs
    rcases List.mem_append.1 hs with hs | hs
    · have := h.its s (headG_mem hs)
      omega
    · rw [List.mem_singleton] at hs
      rw [hs, addS_len]
      cases fr with
      | true =>
        show 0 + 1 + k ≤ 1000000
        omega
      | false =>
        have := h.its _ (tailG_mem (e := e) (freshG_ne hf))
        omega
  · have := next_len (ss := ss) (e := e) hf
    omega
  · rw [hno, hsum, ← h.log.now, show (opD 0 d (.app (nameS (tailG fr ss e).first) (frameS (layE e)))).room = d.room by rw [h.log.go.op]]
    omega
theorem appL_all {lim : Int} : ∀ (es : List En) (d : Dk) (ss : List Sg) (k : Nat), LogR d ss (k + es.length) → folE (lastO ss) es → ∃ d' ss', appL d lim ss es = (0, d', ss') ∧ LogR d' ss' k ∧ listG ss' = listG ss ++ es ∧ d'.ps.length = d.ps.length + es.length ∧ d'.S = d.S ∧ d'.room = d.room
  | [], d, ss, k, h, _ => ⟨d, ss, rfl, h, by rw [List.append_nil], rfl, rfl, rfl⟩
  | e :: es, d, ss, k, h, hfo => by
    obtain ⟨he, hp, hr⟩ := folE_go hfo
    rw [List.length_cons, show k + (es.length + 1) = k + es.length + 1 by omega] at h
    obtain ⟨h1, h2⟩ := h.step (lim := lim) he hp
    obtain ⟨d', ss', g1, g2, g3, g4, g5, g6⟩ := appL_all (lim := lim) es _ _ k h2 (by rw [lastO_next]; exact hr)
    have hst := (step_files (lim := lim) h.log.ok he hp (fun s hs => by have := h.its s hs; omega) rfl).2.2.1
    refine ⟨d', ss', ?_, g2, ?_, ?_, ?_, ?_⟩
    · rw [appL, if_neg (fun g => g h1)]
      exact g1
    · rw [g3, hst, List.append_assoc]
      rfl
    · rw [g4, h.log.go.op, List.length_cons]
      show (d.ps ++ [_]).length + _ = _
      rw [List.length_append, List.length_singleton]
      omega
    · rw [g5, h.log.go.op]
    · rw [g6, h.log.go.op]
theorem LogR.less {d : Dk} {ss : List Sg} {k j : Nat} (h : LogR d ss k) (hj : j ≤ k) : LogR d ss j :=
  ⟨h.log, fun s hs => by have := h.its s hs; omega, by have := h.num; omega, by have := h.room; omega⟩
theorem LogR.new : LogR (newD 1048576) [] 64 := by
  refine ⟨⟨⟨rfl, rfl⟩, rfl, trivial⟩, fun s hs => absurd hs List.not_mem_nil, Nat.le_refl _, ?_⟩
  show ((sumF [] + 167 * 64 : Nat) : Int) ≤ 1048576
  decide
end Go.Sx
end
section
namespace Go.Sx
open Go Go.Proofs Go.RowKit
theorem openG_pre {d : Dk} (rest : List Nat) : ∀ (ss done : List Sg), okG (lastO done) ss → (∀ s ∈ ss, readD d (nameS s.first) = some (fileS s)) → openG d (ss.map Sg.first ++ rest) done = openG d rest (done ++ ss)
  | [], done, _, _ => by rw [List.append_nil]; rfl
  | s :: r, done, h, hr => by
    have h1 := readF_all h.1
    rw [List.map_cons, List.cons_append, openG, hr s (List.mem_cons_self ..), Option.getD_some, h1]
    dsimp only
    rw [if_pos rfl, if_pos h.1.len, openG_pre rest r (done ++ [s]) (by rw [lastO_snoc]; exact h.2) (fun x hx => hr x (List.mem_cons_of_mem _ hx)), List.append_assoc]
    rfl
theorem frames_torn {es : List En} {e : En} {t : Nat} (h : ∀ x ∈ es, entS x) (he : entS e) (ht : t < (frameS (layE e)).length) (hl : es.length ≤ 1000000) : framesF (cat (es.map layE) ++ (frameS (layE e)).take t).length (cat (es.map layE) ++ (frameS (layE e)).take t) = es.map layE := by
  have hz := layF_len he
  have hle := cat_le h
  have hall : ∀ p ∈ es.map layE ++ [layE e], p.length ≤ 65536 := by
    intro p hp
    rcases List.mem_append.1 hp with hp | hp
    · exact lay_small h p hp
    · rw [List.mem_singleton] at hp
      rw [hp]
      omega
  have e1 : cat (es.map layE) ++ (frameS (layE e)).take t = (cat (es.map layE ++ [layE e])).take ((cat (es.map layE)).length + t) := by
    rw [cat_snoc', List.take_length_add_append]
  have hc : (cat (es.map layE ++ [layE e])).length = (cat (es.map layE)).length + (frameS (layE e)).length := by rw [cat_snoc', List.length_append]
  rw [e1]
  have h2 := frames_cut (es.map layE ++ [layE e]) ((cat (es.map layE)).length + t) hall (by omega) (by omega)
  rw [h2]
  have hw : wholeN (es.map layE ++ [layE e]) ((cat (es.map layE)).length + t) = (es.map layE).length := by
    refine wholeN_is _ _ _ (by simp) ?_ (.inr ?_)
    · rw [List.take_append_of_le_length (Nat.le_refl _), List.take_length, ← cat_len _ (lay_small h)]
      omega
    · rw [List.take_of_length_le (by simp), ← cat_len _ hall, hc]
      omega
  rw [hw, List.take_append_of_le_length (Nat.le_refl _), List.take_length]
theorem readF_torn {prev : Option En} {f : Nat} {es : List En} {e : En} {t : Nat} (h : seqF prev f [] es) (he : entS e) (ht : t < (frameS (layE e)).length) (hl : es.length ≤ 1000000) (h0 : 0 < t ∨ es = []) : readF prev f (cat (es.map layE) ++ (frameS (layE e)).take t) = (es.map zE, false) := by
  have hent := seqF_ent h
  have h1 := frames_torn hent he ht hl
  have h2 := goF_all (prev := prev) (first := f) es [] h
  rw [List.map_nil, List.nil_append] at h2
  unfold readF
  rw [h1, h2]
  dsimp only
  have hsum : ((es.map zE).map Prod.snd).sum = (cat (es.map layE)).length := by
    rw [cat_len _ (lay_small hent)]
    unfold endS
    rw [List.map_map, List.map_map]
    rfl
  rw [Bool.true_and, decide_eq_false]
  rintro ⟨g1, g2⟩
  rw [hsum, List.length_append, List.length_take] at g1
  rcases h0 with h0 | h0
  · omega
  · rw [h0] at g2
    cases g2
theorem openS_torn {d : Dk} {ss : List Sg} {n t : Nat} {es : List En} {e : En} (hg : goes d) (hnow : d.now = filesG ss ++ [(nameS n, cat (es.map layE) ++ (frameS (layE e)).take t)]) (hok : okG none ss) (hn : n ≤ 72057594037927935) (hgt : ∀ s ∈ ss, s.first < n) (h : seqF (lastO ss) n [] es) (he : entS e) (ht : t < (frameS (layE e)).length) (hl : es.length ≤ 1000000) (h0 : 0 < t ∨ es = []) : (openS d).1 = 0 ∧ (openS d).2.2 = if es = [] then ss else ss ++ [⟨n, es.map zE⟩] := by
  have hp := okG_pw hok
  have hm := okG_num hok
  have hp2 : (ss ++ [(⟨n, []⟩ : Sg)]).Pairwise (fun s t => s.first < t.first) := by
    rw [List.pairwise_append]
    refine ⟨hp, List.pairwise_singleton _ _, fun a ha b hb => ?_⟩
    rw [List.mem_singleton] at hb
    rw [hb]
    exact hgt a ha
  have hm2 : ∀ s ∈ ss ++ [(⟨n, []⟩ : Sg)], s.first ≤ 72057594037927935 := by
    intro s hs
    rcases List.mem_append.1 hs with hs | hs
    · exact hm s hs
    · rw [List.mem_singleton] at hs
      rw [hs]
      exact hn
  have hkey : nameS n ∉ keyS (filesG ss) := key_not hn hm fun s hs => by have := hgt s hs; omega
  have hkeys : keyS d.now = keyS (filesG (ss ++ [(⟨n, []⟩ : Sg)])) := by
    rw [hnow, files_app]
    unfold keyS
    rw [List.map_append, List.map_append]
    rfl
  have hnames : namesD d.down d.now = (ss ++ [(⟨n, []⟩ : Sg)]).map fun s => nameS s.first := by
    rw [← names_files hp2 hm2, hg.2]
    unfold namesD
    rw [hkeys]
  have hnums : numsF (namesD d.down d.now) = ss.map Sg.first ++ [n] := by
    rw [hnames, nums_files hm2, List.map_append]
    rfl
  have hget : ∀ s ∈ ss, readD d (nameS s.first) = some (fileS s) := by
    intro s hs
    have h1 := get_files hp hm s hs
    rw [hg.read, hnow]
    unfold getS at h1 ⊢
    rw [List.find?_append]
    cases hf : (filesG ss).find? (fun p => decide (p.1 = nameS s.first)) with
    | none => rw [hf] at h1; cases h1
    | some x => rw [hf] at h1; exact h1
  have hgn : getS d.now (nameS n) = some (cat (es.map layE) ++ (frameS (layE e)).take t) := by
    rw [hnow]
    have hF : ∀ x ∈ filesG ss, x.1 ≠ nameS n := fun x hx e => hkey (List.mem_map.2 ⟨x, hx, e⟩)
    unfold getS
    rw [List.find?_append, List.find?_eq_none.2 fun x hx => by rw [decide_eq_true_eq]; exact hF x hx]
    simp
  have hrn : readD d (nameS n) = some (cat (es.map layE) ++ (frameS (layE e)).take t) := by rw [hg.read]; exact hgn
  have hrt := readF_torn (t := t) h he ht hl h0
  unfold openS
  rw [hnums, openG_pre [n] ss [] hok hget, List.nil_append, openG, hrn, Option.getD_some, hrt]
  dsimp only
  rw [if_neg (by decide)]
  have hmd : (mendD d [n] n (es.map zE)).1 = 0 := by
    have hr0 : mendR d [n].tail.reverse = (0, d) := rfl
    unfold mendD
    rw [hr0, if_neg (fun g => g rfl)]
    unfold mendE
    split
    · show remE d (nameS n) = 0
      unfold remE
      rw [if_neg hg.stop, hgn]
      rfl
    · show trcE d (nameS n) _ = 0
      unfold trcE
      rw [if_neg hg.stop, hgn, if_neg (by simp), if_neg]
      unfold fileD
      rw [hgn, Option.getD_some]
      have hsum : ((es.map zE).map Prod.snd).sum = (cat (es.map layE)).length := by
        rw [cat_len _ (lay_small (seqF_ent h))]
        unfold endS
        rw [List.map_map, List.map_map]
        rfl
      rw [hsum, List.length_append]
      omega
  rw [if_neg (fun g => g hmd)]
  refine ⟨rfl, ?_⟩
  dsimp only
  cases es with
  | nil => rfl
  | cons x xs => rfl
end Go.Sx
end
section
namespace Go.Sx
open Go Go.Proofs Go.RowKit
def CrV {α : Type} (vw : Fs → α) (d : Dk) (cand : List α) : Prop := ∀ k, k ≤ d.ps.length → vw ((d.ps.take k).foldl doF d.S) ∈ cand ∧ ∀ n b, d.ps[k]? = some (.app n b) → ∀ t, t < b.length → vw (doF ((d.ps.take k).foldl doF d.S) (.app n (b.take t))) ∈ cand
section
variable {α : Type} {vw : Fs → α}
theorem CrV.sub {d : Dk} {c c' : List α} (h : CrV vw d c) (hs : ∀ x ∈ c, x ∈ c') : CrV vw d c' := fun k hk => ⟨hs _ (h k hk).1, fun n b hb t ht => hs _ ((h k hk).2 n b hb t ht)⟩
theorem CrV.op {d : Dk} {c : List α} {x : De} (g : goes d) (h : CrV vw d c) (hn : vw (doF d.now x) ∈ c) (ht : ∀ n b, x = .app n b → ∀ t, t < b.length → vw (doF d.now (.app n (b.take t))) ∈ c) : CrV vw (opD 0 d x) c := by
  rw [g.op]
  intro k hk
  change k ≤ (d.ps ++ [x]).length at hk
  rw [List.length_append, List.length_singleton] at hk
  show vw (((d.ps ++ [x]).take k).foldl doF d.S) ∈ c ∧ ∀ n b, (d.ps ++ [x])[k]? = some (.app n b) → _
  by_cases h1 : k ≤ d.ps.length
  · rw [List.take_append_of_le_length h1]
    refine ⟨(h k h1).1, fun n b hb t htb => ?_⟩
    by_cases h2 : k < d.ps.length
    · rw [List.getElem?_append_left h2] at hb
      have := (h k h1).2 n b hb t htb
      exact this
    · have e : k = d.ps.length := by omega
      subst e
      rw [List.getElem?_append_right (Nat.le_refl _), Nat.sub_self, List.getElem?_cons_zero] at hb
      have := ht n b (Option.some.inj hb) t htb
      show vw (doF ((d.ps.take d.ps.length).foldl doF d.S) (.app n (b.take t))) ∈ c
      rw [List.take_length]
      exact this
  · have e : k = d.ps.length + 1 := by omega
    subst e
    have e2 : (d.ps ++ [x]).take (d.ps.length + 1) = d.ps ++ [x] := List.take_of_length_le (by simp)
    rw [e2, List.foldl_append]
    refine ⟨hn, fun n b hb => ?_⟩
    rw [List.getElem?_eq_none (by simp)] at hb
    cases hb
theorem CrV.crash {d : Dk} {c : List α} (h : CrV vw d c) (keep torn : Int) : vw (crashD d keep torn).now ∈ c := by
  have hk : keepD d keep ≤ d.ps.length := by
    unfold keepD
    have h0 : 0 ≤ keep % ((d.ps.length + 1 : Nat) : Int) := Int.emod_nonneg _ (by omega)
    have h1 : keep % ((d.ps.length + 1 : Nat) : Int) < ((d.ps.length + 1 : Nat) : Int) := Int.emod_lt_of_pos _ (by omega)
    omega
  obtain ⟨h1, h2⟩ := h _ hk
  show vw (crashF d keep torn) ∈ c
  unfold crashF
  split
  · rename_i x hx
    unfold tornF
    split
    · rename_i n b
      split
      · rename_i hb
        refine h2 n b hx _ ?_
        have ht1 : torn % (b.length : Int) < (b.length : Int) := Int.emod_lt_of_pos _ (by omega)
        omega
      · exact h1
    · exact h1
  · exact h1
end
end Go.Sx
end
section
namespace Go.Sx
open Go Go.Proofs Go.RowKit
noncomputable def vwG (r : Int) (F : Fs) : Int × List En := ((openS ⟨r, F, [], -1, false⟩).1, listG (openS ⟨r, F, [], -1, false⟩).2.2)
theorem vwG_all {r : Int} {ss : List Sg} (h : okG none ss) : vwG r (filesG ss) = (0, listG ss) := by
  have := openS_all (d := ⟨r, filesG ss, [], -1, false⟩) rfl rfl h
  unfold vwG
  rw [this]
theorem vwG_torn {r : Int} {ss : List Sg} {e : En} {lim : Int} {t : Nat} {fr : Bool} (hok : okG none ss) (he : entS e) (hp : prevE (lastO ss) e) (hsm : ∀ s ∈ ss, s.it.length + 1 ≤ 1000000) (hf : freshG lim ss (frameS (layE e)).length = fr) (ht : t < (frameS (layE e)).length) : vwG r (doF (filesG ss) (.app (nameS (tailG fr ss e).first) ((frameS (layE e)).take t))) = (0, listG ss) := by
  obtain ⟨h1, _, _, h4⟩ := step_files (lim := lim) hok he hp hsm hf
  have hnum : (tailG fr ss e).first ≤ 72057594037927935 := okG_num h1 (addS (tailG fr ss e) e) (List.mem_append_right _ (List.mem_singleton_self _))
  have hgt : ∀ s ∈ headG fr ss, s.first < (tailG fr ss e).first := by
    have hpw := okG_pw h1
    rw [List.pairwise_append] at hpw
    intro s hs
    exact hpw.2.2 s hs (addS (tailG fr ss e) e) (List.mem_singleton_self _)
  rw [h4 t]
  cases fr with
  | true =>
    have hT := openS_torn (d := ⟨r, filesG ss ++ [(nameS e.idx.toNat, cat (([] : List En).map layE) ++ (frameS (layE e)).take t)], [], -1, false⟩) (ss := ss) (n := e.idx.toNat) (t := t) (es := []) (e := e) ⟨rfl, rfl⟩ rfl hok hnum hgt trivial he ht (Nat.zero_le _) (.inr rfl)
    show vwG r (filesG ss ++ [(nameS e.idx.toNat, cat (([] : List En).map layE) ++ (frameS (layE e)).take t)]) = _
    unfold vwG
    rw [hT.1, hT.2, if_pos rfl]
  | false =>
    have hne := freshG_ne hf
    have hs := headG_tailG (e := e) hne
    have hsok := hok
    rw [hs, okG_last] at hsok
    by_cases h0 : t = 0
    · subst h0
      have hfe : filesG (headG false ss) ++ [(nameS (tailG false ss e).first, fileS (tailG false ss e) ++ (frameS (layE e)).take 0)] = filesG ss := by
        rw [List.take_zero, List.append_nil]
        have := files_app (headG false ss) [tailG false ss e]
        rw [← hs] at this
        exact this.symm
      rw [hfe]
      exact vwG_all hok
    · have hes := hsok.2.it
      have hl0 := hsok.2.len
      have hnn : (tailG false ss e).es ≠ [] := by
        refine List.ne_nil_of_length_pos ?_
        rw [Sg.es_len]
        exact hl0
      have hT := openS_torn (d := ⟨r, filesG (headG false ss) ++ [(nameS (tailG false ss e).first, fileS (tailG false ss e) ++ (frameS (layE e)).take t)], [], -1, false⟩) (ss := headG false ss) (n := (tailG false ss e).first) (t := t) (es := (tailG false ss e).es) (e := e) ⟨rfl, rfl⟩ rfl hsok.1 hnum hgt hsok.2.seq he ht (by rw [Sg.es_len]; exact hsok.2.room) (.inl (by omega))
      unfold vwG
      rw [hT.1, hT.2, if_neg hnn, ← hes]
      have e1 : headG false ss ++ [⟨(tailG false ss e).first, (tailG false ss e).it⟩] = ss := hs.symm
      rw [e1]
end Go.Sx
end
section
namespace Go.Sx
open Go Go.Proofs Go.RowKit
theorem get_last {F : Fs} {n f : Txt} (h : n ∉ keyS F) : getS (F ++ [(n, f)]) n = some f := by
  have hF : ∀ x ∈ F, x.1 ≠ n := fun x hx e => h (List.mem_map.2 ⟨x, hx, e⟩)
  unfold getS
  rw [List.find?_append]
  have : F.find? (fun p => decide (p.1 = n)) = none := List.find?_eq_none.2 fun x hx => by rw [decide_eq_true_eq]; exact hF x hx
  rw [this]
  simp
theorem del_last {F : Fs} {n f : Txt} (h : n ∉ keyS F) : delS (F ++ [(n, f)]) n = F := by
  have hF : ∀ x ∈ F, x.1 ≠ n := fun x hx e => h (List.mem_map.2 ⟨x, hx, e⟩)
  unfold delS
  rw [List.filter_append, List.filter_eq_self.2 (fun x hx => by rw [decide_eq_true_eq]; exact hF x hx)]
  simp
theorem trc_last {F : Fs} {n f : Txt} (h : n ∉ keyS F) (k : Nat) : doF (F ++ [(n, f)]) (.trc n k) = F ++ [(n, f.take k)] := by
  have hk : n ∈ keyS (F ++ [(n, f)]) := by
    unfold keyS
    rw [List.map_append]
    exact List.mem_append_right _ (List.mem_singleton.2 rfl)
  have hF : ∀ x ∈ F, x.1 ≠ n := fun x hx e => h (List.mem_map.2 ⟨x, hx, e⟩)
  show putS (F ++ [(n, f)]) n ((fileD (F ++ [(n, f)]) n).take k) = _
  unfold putS fileD
  rw [if_pos hk, get_last h, List.map_append]
  congr 1
  · conv => rhs; rw [← List.map_id F]
    refine List.map_congr_left fun x hx => ?_
    rw [if_neg (hF x hx)]
    rfl
  · simp
theorem last_key {ss : List Sg} {s : Sg} (h : okG none (ss ++ [s])) : nameS s.first ∉ keyS (filesG ss) ∧ filesG (ss ++ [s]) = filesG ss ++ [(nameS s.first, fileS s)] := by
  have hpw := okG_pw h
  have hm := okG_num h
  rw [List.pairwise_append] at hpw
  refine ⟨key_not (hm s (List.mem_append_right _ (List.mem_singleton_self _))) (fun x hx => hm x (List.mem_append_left _ hx)) fun x hx => ?_, files_app ss [s]⟩
  have := hpw.2.2 x hx s (List.mem_singleton_self _)
  omega
theorem OkS.idx_ge {prev : Option En} {s : Sg} (h : OkS prev s) : ∀ e ∈ s.es, (s.first : Int) ≤ e.idx := by
  intro e he
  obtain ⟨j, hj⟩ := List.mem_iff_getElem?.1 he
  have := h.con.2 j e hj
  omega
def CutS (i : Int) (es es' : List En) : Prop := ∃ X, es = es' ++ X ∧ (∀ e ∈ es', e.idx < i) ∧ ∀ e ∈ X, i ≤ e.idx
theorem cutR_all {i : Int} : ∀ (r : List Sg) (d : Dk), LogD d r.reverse → ∃ d' r' X, cutR d i r = (0, d', r') ∧ LogD d' r'.reverse ∧ listG r.reverse = listG r'.reverse ++ X ∧ (∀ e ∈ X, i ≤ e.idx) ∧ (∀ s ∈ r'.head?, (s.first : Int) < i) ∧ d'.room = d.room ∧ sumF d'.now ≤ sumF d.now ∧ d'.ps.length ≤ d.ps.length + r.length ∧ ∀ s ∈ r', s ∈ r
  | [], d, h => ⟨d, [], [], rfl, h, rfl, fun e he => absurd he List.not_mem_nil, fun s hs => (by cases hs), rfl, Nat.le_refl _, Nat.le_refl _, fun s hs => hs⟩
  | s :: r, d, h => by
    by_cases hi : i ≤ (s.first : Int)
    · have hok := h.ok
      rw [List.reverse_cons] at hok
      obtain ⟨hk1, hk2⟩ := last_key hok
      have hnow := h.now
      rw [List.reverse_cons, hk2] at hnow
      have hr : remE d (nameS s.first) = 0 := by
        unfold remE
        rw [if_neg h.go.stop, hnow, get_last hk1]
        rfl
      have hno : (opD 0 d (.rem (nameS s.first))).now = filesG r.reverse := by
        rw [h.go.now, hnow]
        exact del_last hk1
      obtain ⟨d', r', X, g1, g2, g3, g4, g5, g6, g7, g8, g9⟩ := cutR_all (i := i) r (opD 0 d (.rem (nameS s.first))) ⟨h.go.op', hno, (okG_last.1 hok).1⟩
      refine ⟨d', r', X ++ s.es, ?_, g2, ?_, ?_, g5, ?_, ?_, ?_, fun x hx => List.mem_cons_of_mem _ (g9 x hx)⟩
      · rw [cutR, if_pos hi, if_neg (fun g => g hr)]
        exact g1
      · rw [List.reverse_cons, listG_snoc, g3, List.append_assoc]
      · intro e he
        rcases List.mem_append.1 he with he | he
        · exact g4 e he
        · have := (okG_last.1 hok).2.idx_ge e he
          omega
      · rw [g6, h.go.op]
      · rw [hno] at g7
        rw [hnow, sumF_snoc]
        omega
      · rw [h.go.op] at g8
        have h9 : (d.ps ++ [De.rem (nameS s.first)]).length = d.ps.length + 1 := by rw [List.length_append]; rfl
        rw [List.length_cons]
        exact Nat.le_trans g8 (by rw [h9]; omega)
    · refine ⟨d, s :: r, [], ?_, h, by rw [List.append_nil], fun e he => absurd he List.not_mem_nil, ?_, rfl, Nat.le_refl _, by rw [List.length_cons]; omega, fun s hs => hs⟩
      · rw [cutR, if_neg hi]
      · intro x hx
        cases hx
        omega
theorem seqF_take {prev : Option En} {f : Nat} : ∀ {es acc : List En} (k : Nat), seqF prev f acc es → seqF prev f acc (es.take k)
  | [], _, k, _ => by rw [List.take_nil]; trivial
  | _ :: _, _, 0, _ => trivial
  | x :: es, acc, k + 1, h => ⟨h.1, h.2.1, seqF_take k h.2.2⟩
theorem OkS.take {prev : Option En} {s : Sg} {k : Nat} (h : OkS prev s) (hk : 0 < k) (hk2 : k ≤ s.it.length) : OkS prev ⟨s.first, s.it.take k⟩ := by
  have he : (⟨s.first, s.it.take k⟩ : Sg).es = s.es.take k := List.map_take
  refine ⟨h.num, ?_, ?_, ?_, ?_⟩
  · show 0 < (s.it.take k).length
    rw [List.length_take]
    omega
  · rw [he, List.map_take, ← h.it]
  · rw [he]
    exact seqF_take k h.seq
  · show (s.it.take k).length ≤ 1000000
    have := h.room
    rw [List.length_take]
    omega
theorem cat_app (a b : List Txt) : cat (a ++ b) = cat a ++ cat b := by simp [cat]
theorem fileS_take {prev : Option En} {s : Sg} {k : Nat} (h : OkS prev s) (hk : 0 < k) (hk2 : k ≤ s.it.length) : (fileS s).take (⟨s.first, s.it.take k⟩ : Sg).size = fileS ⟨s.first, s.it.take k⟩ ∧ (⟨s.first, s.it.take k⟩ : Sg).size ≤ (fileS s).length := by
  have h1 := (h.take hk hk2).zsum
  have he : (⟨s.first, s.it.take k⟩ : Sg).es = s.es.take k := List.map_take
  have h2 : fileS s = fileS ⟨s.first, s.it.take k⟩ ++ cat ((s.es.drop k).map layE) := by
    unfold fileS
    rw [he, ← cat_app, ← List.map_append, List.take_append_drop]
  have h3 : (⟨s.first, s.it.take k⟩ : Sg).size = (fileS ⟨s.first, s.it.take k⟩).length := h1
  rw [h3, h2]
  exact ⟨List.take_left, by rw [List.length_append]; omega⟩
theorem cutR_len {i : Int} : ∀ {r : List Sg} {d : Dk} {e : Int} {d' : Dk} {r' : List Sg}, cutR d i r = (e, d', r') → r'.length ≤ r.length
  | [], _, _, _, _, h => by cases h; exact Nat.le_refl _
  | s :: r, d, e, d', r', h => by
    rw [cutR] at h
    split at h
    · split at h
      · cases h; exact Nat.le_refl _
      · have := cutR_len h
        rw [List.length_cons]
        omega
    · cases h; exact Nat.le_refl _
theorem okG_idx_le {ss : List Sg} {prev : Option En} {a : En} (h : okG prev ss) (hl : lastO ss = some a) : ∀ e ∈ listG ss, e.idx ≤ a.idx := by
  induction ss generalizing prev with
  | nil => intro e he; cases he
  | cons x r ih =>
    obtain ⟨b, hb, hbi⟩ := h.1.last
    intro e he
    have hx : ∀ e ∈ x.es, e.idx ≤ b.idx := by
      intro e he
      obtain ⟨j, hj⟩ := List.mem_iff_getElem?.1 he
      have h1 := h.1.con.2 j e hj
      have h2 := (List.getElem?_eq_some_iff.1 hj).1
      rw [Sg.es_len] at h2
      omega
    have he2 : e ∈ x.es ++ listG r := he
    by_cases hr : r = []
    · subst hr
      have h1 : lastO [x] = x.es.getLast? := lastO_snoc [] x
      rw [h1, hb] at hl
      cases hl
      rcases List.mem_append.1 he2 with g | g
      · exact hx e g
      · cases g
    · have h1 : lastO (x :: r) = lastO r := by
        unfold lastO
        rw [List.getLast?_cons]
        cases hg : r.getLast? with
        | none => exact absurd (List.getLast?_eq_none_iff.1 hg) hr
        | some t => rfl
      rw [h1] at hl
      have h2 := h.2
      rcases List.mem_append.1 he2 with g | g
      · obtain ⟨y, hy⟩ : ∃ y, y ∈ r := List.exists_mem_of_ne_nil r hr
        rw [hb] at h2
        have h3 := okG_gt h2 y hy
        have h4 := okG_last_le h2 hl y hy
        have := hx e g
        omega
      · exact ih h2 hl e g
theorem cutG_all {i : Int} {ss : List Sg} {d : Dk} (h : LogD d ss) : ∃ d' ss', cutG d ss i = (0, d', ss') ∧ LogD d' ss' ∧ CutS i (listG ss) (listG ss') ∧ d'.room = d.room ∧ sumF d'.now ≤ sumF d.now ∧ d'.ps.length ≤ d.ps.length + ss.length + 1 ∧ ss'.length ≤ ss.length := by
  have h0 := h
  rw [← List.reverse_reverse ss] at h0
  obtain ⟨d1, r1, X, g1, g2, g3, g4, g5, g6, g7, g8, g9⟩ := cutR_all (i := i) ss.reverse d h0
  rw [List.reverse_reverse] at g3
  rw [List.length_reverse] at g8
  have hlen1 : r1.length ≤ ss.length := by
    have h1 := cutR_len g1
    rw [List.length_reverse] at h1
    exact h1
  unfold cutG
  rw [g1]
  dsimp only
  rw [if_neg (fun g => g rfl)]
  match r1, g2, g3, g5, hlen1 with
  | [], g2, g3, g5, hlen1 =>
    exact ⟨d1, [], rfl, g2, ⟨X, g3, fun e he => absurd he List.not_mem_nil, g4⟩, g6, g7, by omega, Nat.zero_le _⟩
  | s :: r, g2, g3, g5, hlen1 =>
    have hsf : (s.first : Int) < i := g5 s rfl
    have hok := g2.ok
    rw [List.reverse_cons] at hok
    obtain ⟨hk1, hk2⟩ := last_key hok
    obtain ⟨hokr, hoks⟩ := okG_last.1 hok
    obtain ⟨a, ha, hai⟩ := hoks.last
    have hl0 := hoks.len
    have hlow : ∀ e ∈ listG r.reverse, e.idx < i := by
      intro e he
      obtain ⟨t, ht, het⟩ := List.mem_flatMap.1 he
      obtain ⟨j, hj⟩ := List.mem_iff_getElem?.1 het
      have hpw := okG_pw hok
      rw [List.pairwise_append] at hpw
      cases hlo : lastO r.reverse with
      | none =>
        exfalso
        unfold lastO at hlo
        cases hg : r.reverse.getLast? with
        | none =>
          rw [List.getLast?_eq_none_iff.1 hg] at ht
          cases ht
        | some u =>
          rw [hg] at hlo
          obtain ⟨init, hin⟩ := List.getLast?_eq_some_iff.1 hg
          rw [hin] at hokr
          obtain ⟨b, hb, _⟩ := (okG_last.1 hokr).2.last
          have hlo' : u.es.getLast? = none := hlo
          rw [hb] at hlo'
          cases hlo'
      | some b =>
        rw [hlo] at hoks
        have h1 := hoks.first
        have h2 := okG_idx_le hokr hlo e he
        omega
    by_cases hlt : a.idx < i
    · have hT : cutT d1 i (s :: r) = (0, d1, s :: r) := by
        rw [cutT, ha]
        exact if_pos hlt
      rw [hT]
      refine ⟨d1, (s :: r).reverse, rfl, g2, ⟨X, g3, fun e he => ?_, g4⟩, g6, g7, by omega, by rw [List.length_reverse]; exact hlen1⟩
      rw [List.reverse_cons, listG_snoc] at he
      rcases List.mem_append.1 he with he | he
      · exact hlow e he
      · obtain ⟨j, hj⟩ := List.mem_iff_getElem?.1 he
        have h1 := hoks.con.2 j e hj
        have h2 := (List.getElem?_eq_some_iff.1 hj).1
        rw [Sg.es_len] at h2
        omega
    · obtain ⟨k, hk⟩ : ∃ k : Nat, (k : Int) = i - s.first := ⟨(i - s.first).toNat, by omega⟩
      have hkp : 0 < k ∧ k ≤ s.it.length := by omega
      have hks : keepS i s = ⟨s.first, s.it.take k⟩ := by
        unfold keepS
        rw [← hk, Int.toNat_natCast]
      obtain ⟨f1, f2⟩ := fileS_take hoks hkp.1 hkp.2
      have hnow := g2.now
      rw [List.reverse_cons, hk2] at hnow
      have htr : trcE d1 (nameS s.first) ((⟨s.first, s.it.take k⟩ : Sg).size : Int) = 0 := by
        unfold trcE
        rw [if_neg g2.go.stop, hnow, get_last hk1, if_neg (by simp), if_neg]
        unfold fileD
        rw [get_last hk1, Option.getD_some]
        omega
      have hT : cutT d1 i (s :: r) = (0, opD 0 d1 (.trc (nameS s.first) (⟨s.first, s.it.take k⟩ : Sg).size), ⟨s.first, s.it.take k⟩ :: r) := by
        rw [cutT, ha, hks, htr]
        exact if_neg hlt
      rw [hT]
      dsimp only
      have hno : (opD 0 d1 (.trc (nameS s.first) (⟨s.first, s.it.take k⟩ : Sg).size)).now = filesG (r.reverse ++ [⟨s.first, s.it.take k⟩]) := by
        rw [g2.go.now, hnow, trc_last hk1, f1, files_app]
        rfl
      refine ⟨_, (⟨s.first, s.it.take k⟩ :: r).reverse, rfl, ⟨g2.go.op', ?_, ?_⟩, ⟨s.es.drop k ++ X, ?_, fun e he => ?_, fun e he => ?_⟩, ?_, ?_, ?_, ?_⟩
      · rw [List.reverse_cons]
        exact hno
      · rw [List.reverse_cons]
        exact okG_last.2 ⟨hokr, hoks.take hkp.1 hkp.2⟩
      · rw [g3, List.reverse_cons, List.reverse_cons, listG_snoc, listG_snoc, show (⟨s.first, s.it.take k⟩ : Sg).es = s.es.take k from List.map_take, List.append_assoc, List.append_assoc, ← List.append_assoc (s.es.take k), List.take_append_drop]
      · rw [List.reverse_cons, listG_snoc] at he
        rcases List.mem_append.1 he with he | he
        · exact hlow e he
        · rw [show (⟨s.first, s.it.take k⟩ : Sg).es = s.es.take k from List.map_take] at he
          obtain ⟨j, hj⟩ := List.mem_iff_getElem?.1 he
          rw [List.getElem?_take] at hj
          split at hj
          · have h1 := hoks.con.2 j e hj
            omega
          · cases hj
      · rcases List.mem_append.1 he with he | he
        · obtain ⟨j, hj⟩ := List.mem_iff_getElem?.1 he
          rw [List.getElem?_drop] at hj
          have h1 := hoks.con.2 (k + j) e hj
          omega
        · exact g4 e he
      · rw [← g6, g2.go.op]
      · rw [hno, files_app]
        have h1 : sumF d1.now = sumF (filesG r.reverse) + (fileS s).length := by rw [hnow, sumF_snoc]
        have h2 : sumF (filesG r.reverse ++ filesG [⟨s.first, s.it.take k⟩]) = sumF (filesG r.reverse) + (fileS ⟨s.first, s.it.take k⟩).length := sumF_snoc _ _ _
        have h3 : (fileS ⟨s.first, s.it.take k⟩).length ≤ (fileS s).length := by
          rw [← f1, List.length_take]
          omega
        omega
      · rw [g2.go.op]
        show (d1.ps ++ [_]).length ≤ _
        rw [List.length_append, List.length_singleton]
        omega
      · rw [List.length_reverse]
        exact hlen1
end Go.Sx
end
section
namespace Go.Sx
open Go Go.Proofs Go.RowKit
attribute [local irreducible] C R Fin K Own OwnT Rd Pl Ok KOf RetOk OpsOf RP KP Res NoPanic KV KE MapS ItS EntS FsO FsR RowD PlD DkO RT KT OneT RS KS OneS SgO
variable {M M' : Mem} {H H1 H2 : Hp}
theorem mem_listG {ss : List Sg} {s : Sg} (h : s ∈ ss) : s.it.length ≤ (listG ss).length := by
  induction ss with
  | nil => cases h
  | cons x r ih =>
    have e : (listG (x :: r)).length = x.es.length + (listG r).length := by
      show (x.es ++ listG r).length = _
      rw [List.length_append]
    rw [e, Sg.es_len]
    rcases List.mem_cons.1 h with h | h
    · rw [h]; omega
    · have := ih h
      omega
theorem len_listG : ∀ {ss : List Sg} {prev : Option En}, okG prev ss → ss.length ≤ (listG ss).length
  | [], _, _ => Nat.zero_le _
  | x :: r, _, h => by
    have e : (listG (x :: r)).length = x.es.length + (listG r).length := by
      show (x.es ++ listG r).length = _
      rw [List.length_append]
    have h1 := len_listG h.2
    have h2 := h.1.len
    rw [e, Sg.es_len, List.length_cons]
    omega
structure LogE (d : Dk) (ss : List Sg) (es : List En) (k : Nat) : Prop where
  log : LogD d ss
  list : listG ss = es
  num : es.length + k ≤ 64
  room : ((sumF d.now + 167 * k : Nat) : Int) ≤ d.room
  deeds : d.ps.length + k ≤ 50000
theorem LogE.logR {d : Dk} {ss : List Sg} {es : List En} {k : Nat} (h : LogE d ss es k) : LogR d ss k := by
  have h1 := h.num
  refine ⟨h.log, fun s hs => ?_, ?_, h.room⟩
  · have := mem_listG hs
    rw [h.list] at this
    omega
  · have := len_listG h.log.ok
    rw [h.list] at this
    omega
theorem LogE.sgs {d : Dk} {ss : List Sg} {es : List En} {k : Nat} (h : LogE d ss es k) : sgsOk ss := by
  have : ∀ {ss : List Sg} {prev : Option En}, okG prev ss → sgsOk ss := by
    intro ss
    induction ss with
    | nil => intro _ _ s hs; cases hs
    | cons x r ih =>
      intro prev g s hs
      rcases List.mem_cons.1 hs with hs | hs
      · rw [hs]; exact ⟨g.1.len, g.1.ents⟩
      · exact ih g.2 s hs
  exact this h.log.ok
theorem okG_con : ∀ {ss : List Sg} {prev : Option En}, okG prev ss → ∀ s ∈ ss, conG s ∧ s.size ≤ 167000000 ∧ s.it.length ≤ 1000000
  | [], _, _, s, hs => absurd hs List.not_mem_nil
  | x :: r, _, h, s, hs => by
    rcases List.mem_cons.1 hs with hs | hs
    · rw [hs]
      have h1 := h.1.zsum
      have h2 := h.1.file_len
      exact ⟨h.1.con, by show (x.it.map Prod.snd).sum ≤ _; omega, h.1.room⟩
    · exact okG_con h.2 s hs
theorem LogE.new : LogE (newD 1048576) [] [] 64 := ⟨LogR.new.log, rfl, by decide, LogR.new.room, by decide⟩
theorem LogE.less {d : Dk} {ss : List Sg} {es : List En} {k j : Nat} (h : LogE d ss es k) (hj : j ≤ k) : LogE d ss es j :=
  ⟨h.log, h.list, by have := h.num; omega, by have := h.room; omega, by have := h.deeds; omega⟩
theorem LogE.now_len {d : Dk} {ss : List Sg} {es : List En} {k : Nat} (h : LogE d ss es k) : d.now.length ≤ 64 := by
  have h1 := len_listG h.log.ok
  have h2 := h.num
  rw [h.list] at h1
  rw [h.log.now]
  unfold filesG
  rw [List.length_map]
  omega
theorem sopen_L {db : Nat} {d : Dk} {lim : Int} {hp : Hp} {ss : List Sg} {es : List En} {k : Nat} (hl : 64 ≤ lim ∧ lim ≤ 16384) (h : LogE d ss es k) (ho : DkO M db d hp) : K Try.prog 9 [.pointer (some ⟨db, 0, none⟩), .int .i64 lim] M (hp ++ H) fun v' M' H' => M.le M' ∧ ∃ lb hL hp', v' = .tuple #[.pointer (some ⟨lb, 0, none⟩), .int .i64 0] ∧ DkO M' db d hp' ∧ SgO M' lb db lim ss hL ∧ H' = hL ++ (hp' ++ H) := by
  have hd := h.deeds
  have hn := h.now_len
  refine (sopen_K hl ho (by omega) (by omega)).mono ?_
  rw [h.log.open_]
  rintro v' M' H' ⟨hM, hp', h1, h2⟩
  refine ⟨hM, ?_⟩
  rcases h2 with ⟨h2, _⟩ | ⟨_, lb, hL, h3, h4, h5⟩
  · exact absurd rfl h2
  · exact ⟨lb, hL, hp', h3, h1, h4, h5⟩
theorem sappend_L {lb db : Nat} {lim : Int} {d : Dk} {ss : List Sg} {v : Value} {fs es : List En} {hL hp : Hp} {k : Nat} (hl : 64 ≤ lim ∧ lim ≤ 16384) (h : LogE d ss es (k + fs.length)) (hf : folE (lastO ss) fs) (hg : SgO M lb db lim ss hL) (he : EnL M v fs) (ho : DkO M db d hp) : K Try.prog 11 [.pointer (some ⟨lb, 0, none⟩), v] M (hL ++ (hp ++ H)) fun v' M' H' => v' = .int .i64 0 ∧ M.le M' ∧ ∃ d' ss' hL' hp', LogE d' ss' (es ++ fs) k ∧ d'.S = d.S ∧ d'.ps.length = d.ps.length + fs.length ∧ SgO M' lb db lim ss' hL' ∧ DkO M' db d' hp' ∧ H' = hL' ++ (hp' ++ H) := by
  have hnum := h.num
  have hd := h.deeds
  have hsl := len_listG h.log.ok
  rw [h.list] at hsl
  have hA : appG d lim ss fs = appL d lim ss fs := if_pos hf
  obtain ⟨d', ss', g1, g2, g3, g4, g5, g6⟩ := appL_all (lim := lim) fs d ss k h.logR hf
  refine (sappend_K hl hg h.sgs he ho (by omega) (by omega) (by omega) ?_).mono ?_
  · intro s hs
    have := okG_con h.log.ok s hs
    exact ⟨this.1.1, by omega⟩
  · rw [hA, g1]
    rintro v' M' H' ⟨h1, hM, hL', hp', h2, h3, h4⟩
    refine ⟨h1, hM, d', ss', hL', hp', ⟨g2.log, by rw [g3, h.list], ?_, g2.room, by omega⟩, g5, g4, h2, h3, h4⟩
    rw [List.length_append]
    omega
theorem scut_L {lb db : Nat} {lim : Int} {d : Dk} {ss : List Sg} {i : Int} {es : List En} {hL hp : Hp} {k : Nat} (hi : 0 ≤ i ∧ i ≤ 18446744073709551615) (h : LogE d ss es k) (hdl : d.ps.length + k + 65 ≤ 50000) (hg : SgO M lb db lim ss hL) (ho : DkO M db d hp) : K Try.prog 14 [.pointer (some ⟨lb, 0, none⟩), .int .u64 i] M (hL ++ (hp ++ H)) fun v' M' H' => v' = .int .i64 0 ∧ M.le M' ∧ ∃ d' ss' es' hL' hp', LogE d' ss' es' k ∧ CutS i es es' ∧ d'.ps.length ≤ d.ps.length + 65 ∧ SgO M' lb db lim ss' hL' ∧ DkO M' db d' hp' ∧ H' = hL' ++ (hp' ++ H) := by
  have hnum := h.num
  have hd := h.deeds
  have hr := h.room
  have hsl := len_listG h.log.ok
  rw [h.list] at hsl
  obtain ⟨d', ss', g1, g2, g3, g4, g5, g6, g7⟩ := cutG_all (i := i) h.log
  rw [h.list] at g3
  refine (scut_K hi hg h.sgs (fun s hs => (okG_con h.log.ok s hs).1) (fun s hs => by have := (okG_con h.log.ok s hs).2.2; omega) ho (by omega)).mono ?_
  rw [g1]
  rintro v' M' H' ⟨h1, hM, hL', hp', h2, h3, h4⟩
  have hle : (listG ss').length ≤ es.length := by
    obtain ⟨X, e1, _⟩ := g3
    rw [e1, List.length_append]
    omega
  exact ⟨h1, hM, d', ss', listG ss', hL', hp', ⟨g2, rfl, by omega, by omega, by omega⟩, g3, by omega, h2, h3, h4⟩
theorem slist_L {lb db : Nat} {lim : Int} {d : Dk} {ss : List Sg} {es : List En} {k : Nat} {hL : Hp} (h : LogE d ss es k) (hg : SgO M lb db lim ss hL) : K Try.prog 23 [.pointer (some ⟨lb, 0, none⟩)] M (hL ++ H) fun v' M' H' => EnL M' v' es ∧ M.le M' ∧ H' = hL ++ H := by
  have hn := h.num
  have := slist_KL (H1 := H) hg h.sgs (by rw [h.list]; omega) (Arr.all _)
  rw [h.list] at this
  exact this
end Go.Sx
end
section
namespace Go.Sx
open Go Go.Proofs Go.RowKit
attribute [local irreducible] C R Fin K Own OwnT Rd Pl Ok KOf RetOk OpsOf RP KP Res NoPanic KV KE MapS ItS EntS FsO FsR RowD PlD DkO RT KT OneT RS KS OneS SgO
variable {M M' : Mem} {H H1 H2 : Hp}
def nG (i t : Int) : En := ⟨0, t, i, [], 0⟩
theorem none9_K {i t : Int} : K Try.prog 13 [.int .u64 i, .int .u64 t] M H fun v M' H' => v = eV (nG i t) (.slice none 0 0) ∧ M' = M ∧ H' = H := by
  refine K.enterK Try.func13 rfl rfl rfl ?_
  intro Q hNP hQ
  (repeat' (first | refine a_go ?_ | (with_reducible apply Fin.thenK; assumption) | (with_reducible (first | apply C.seqK | apply C.regionK); intro _ _) | (apply R.buildSlice0; exact rfl; intro bz) | (apply R.box; exact rfl; (simp only [Value.cells]; rfl); exact rfl; intro bx) | (apply R.alloc; (simp only [Value.cells]; rfl); exact rfl; intro ba) | (apply R.buildSlice; (exact a_prt); exact rfl; exact rfl; (exact a_fills); exact rfl; intro bl) | (refine a_sp ?_ ?_; (intro h; skip; rotate_left; intro h; skip; rotate_left)) | fail))
  (apply Fin.returnA (H2 := H); assumption; (first | exact .inl rfl | exact .inr rfl); exact rfl; (exact a_res); (simp only [retv]; rfl); (exact a_arr))
  exact ⟨rfl, rfl, rfl⟩
theorem PlV.nonesG (n : Nat) : PlV M (List.replicate n (.slice none 0 0)) (List.replicate n []) := by
  refine ⟨by simp, fun i v l h1 h2 => ?_⟩
  rw [List.getElem?_replicate] at h1 h2
  split at h1
  · rename_i hi
    rw [if_pos hi] at h2
    cases h1
    cases h2
    exact ⟨none, 0, rfl, Nat.le_refl _, by decide, Pl.nil⟩
  · cases h1
theorem builtG3 {i t i' t' i2 t2 : Int} {bl e : Nat} {fr : Nat × Nat} (h : In M [(bl, .cells #[.int .i64 0, .int .u64 t, .int .u64 i, .slice none 0 0, .int .i64 0, .int .i64 0, .int .u64 t', .int .u64 i', .slice none 0 0, .int .i64 0, .int .i64 0, .int .u64 t2, .int .u64 i2, .slice none 0 0, .int .i64 0] e fr)]) : EnL M (.slice (some ⟨bl, 0, none⟩) 3 3) [nG i t, nG i' t', nG i2 t2] :=
  ⟨_, 3, List.replicate 3 (.slice none 0 0), rfl, Nat.le_refl _, by decide, Pl.ofAt h.one, PlV.nonesG 3⟩
theorem firstG_list {ss : List Sg} (h : sgsOk ss) : firstG ss = match listG ss with | [] => 0 | e :: _ => e.idx := by
  match ss, h with
  | [], _ => rfl
  | s :: r, h =>
    have h1 := (h s (List.mem_cons_self ..)).1
    rw [← Sg.es_len] at h1
    have e1 : listG (s :: r) = s.es ++ listG r := rfl
    have e2 : firstG (s :: r) = match s.es.head? with | some e => e.idx | none => 0 := rfl
    rw [e1, e2]
    match hs : s.es, h1 with
    | x :: xs, _ => rfl
theorem lastO_list : ∀ {ss : List Sg}, sgsOk ss → lastO ss = (listG ss).getLast?
  | [], _ => rfl
  | s :: r, h => by
    have h1 := (h s (List.mem_cons_self ..)).1
    rw [← Sg.es_len] at h1
    have e1 : listG (s :: r) = s.es ++ listG r := rfl
    have ih := lastO_list (ss := r) (h.sub fun t ht => List.mem_cons_of_mem _ ht)
    rw [e1, List.getLast?_append, ← ih]
    by_cases hr : r = []
    · subst hr
      exact lastO_snoc [] s
    · have h2 : lastO (s :: r) = lastO r := by
        unfold lastO
        rw [List.getLast?_cons]
        cases hg : r.getLast? with
        | none => exact absurd (List.getLast?_eq_none_iff.1 hg) hr
        | some t => rfl
      rw [h2]
      obtain ⟨init, t, rfl⟩ : ∃ init t, r = init ++ [t] := ⟨r.dropLast, r.getLast hr, (List.dropLast_concat_getLast hr).symm⟩
      have h3 := (h t (List.mem_cons_of_mem _ (List.mem_append_right _ (List.mem_singleton_self _)))).1
      rw [← Sg.es_len] at h3
      rw [lastO_snoc, getLast_len h3]
      rfl
theorem CutS.is {i : Int} {es es' : List En} (h : CutS i es es') : es' = es.takeWhile fun e => decide (e.idx < i) := by
  obtain ⟨X, rfl, h1, h2⟩ := h
  rw [List.takeWhile_append_of_pos (fun e he => decide_eq_true (h1 e he))]
  cases X with
  | nil => simp
  | cons x xs =>
    rw [List.takeWhile_cons, if_neg (by rw [decide_eq_true_eq]; have := h2 x (List.mem_cons_self ..); omega), List.append_nil]
theorem ent_nG {i t : Int} (hi : 1 ≤ i ∧ i ≤ 72057594037927935) (ht : 1 ≤ t ∧ t ≤ 72057594037927935) : entS (nG i t) := ⟨ht, hi, .inl ⟨rfl, rfl, rfl⟩⟩
theorem known9_K : K Try.prog 10 [] M H fun v M' H' => v = .bool true ∧ M.le M' ∧ H' = H := by
  refine K.enterK Try.func10 rfl rfl rfl ?_
  intro Q hNP hQ
  have hn5 : nameS 5 = [115, 48, 48, 48, 48, 48, 48, 48, 48, 48, 48, 48, 48, 48, 48, 53] := by decide
  have hfo : folE none [nG 5 1, nG 6 1, nG 7 2] := ⟨ent_nG (by decide) (by decide), trivial, ent_nG (by decide) (by decide), ⟨rfl, by decide⟩, ent_nG (by decide) (by decide), ⟨rfl, by decide⟩, trivial⟩
  (repeat' (first | refine a_go ?_ | (with_reducible apply Fin.thenK; assumption) | (with_reducible (first | apply C.seqK | apply C.regionK); intro _ _) | (apply R.buildSlice0; exact rfl; intro bz) | (apply R.box; exact rfl; (simp only [Value.cells]; rfl); exact rfl; intro bx) | (apply R.alloc; (simp only [Value.cells]; rfl); exact rfl; intro ba) | (apply R.buildSlice; (exact a_prt); exact rfl; exact rfl; (exact a_fills); exact rfl; intro bl) | (refine a_sp ?_ ?_; (intro h; skip; rotate_left; intro h; skip; rotate_left)) | fail))
  (apply R.call; (exact a_evs); exact rfl; exact new_K (room := 1048576) (by decide) (by decide); rintro _ M _ ⟨db, hp, rfl, rfl, ho, rfl⟩)
  (repeat' (first | (apply R.step; (apply Ok.move; exact rfl); exact rfl) | (apply R.step; (apply Ok.eqPN; exact rfl; exact rfl); exact rfl) | refine a_go ?_ | (with_reducible apply Fin.thenK; assumption) | (with_reducible (first | apply C.seqK | apply C.regionK); intro _ _) | (apply R.buildSlice0; exact rfl; intro bz) | (apply R.box; exact rfl; (simp only [Value.cells]; rfl); exact rfl; intro bx) | (apply R.alloc; (simp only [Value.cells]; rfl); exact rfl; intro ba) | (apply R.buildSlice; (exact a_prt); exact rfl; exact rfl; (exact a_fills); exact rfl; intro bl) | (refine a_sp ?_ ?_; (intro h; skip; rotate_left; intro h; skip; rotate_left)) | fail))
  (apply R.call; (exact a_evs); exact rfl; exact segName_K (n := 5) (by decide); rintro _ M _ ⟨rfl, rfl, rfl⟩)
  rw [hn5]
  (repeat' (first | refine a_go ?_ | (with_reducible apply Fin.thenK; assumption) | (with_reducible (first | apply C.seqK | apply C.regionK); intro _ _) | (apply R.buildSlice0; exact rfl; intro bz) | (apply R.box; exact rfl; (simp only [Value.cells]; rfl); exact rfl; intro bx) | (apply R.alloc; (simp only [Value.cells]; rfl); exact rfl; intro ba) | (apply R.buildSlice; (exact a_prt); exact rfl; exact rfl; (exact a_fills); exact rfl; intro bl) | (refine a_sp ?_ ?_; (intro h; skip; rotate_left; intro h; skip; rotate_left)) | fail))
  (apply R.call; (exact a_evs); exact rfl; exact sopen_L (lim := 64) (by decide) LogE.new ho; rintro _ M1 _ ⟨hM1, lb, hL1, hp1, rfl, ho1, hg1, rfl⟩)
  (repeat' (first | (apply R.step; (apply Ok.move; exact rfl); exact rfl) | (apply R.step; (apply Ok.eqPN; exact rfl; exact rfl); exact rfl) | refine a_go ?_ | (with_reducible apply Fin.thenK; assumption) | (with_reducible (first | apply C.seqK | apply C.regionK); intro _ _) | (apply R.buildSlice0; exact rfl; intro bz) | (apply R.box; exact rfl; (simp only [Value.cells]; rfl); exact rfl; intro bx) | (apply R.alloc; (simp only [Value.cells]; rfl); exact rfl; intro ba) | (apply R.buildSlice; (exact a_prt); exact rfl; exact rfl; (exact a_fills); exact rfl; intro bl) | (refine a_sp ?_ ?_; (intro h; skip; rotate_left; intro h; skip; rotate_left)) | fail))
  (repeat' (first | refine a_go ?_ | (with_reducible apply Fin.thenK; assumption) | (with_reducible (first | apply C.seqK | apply C.regionK); intro _ _) | (apply R.buildSlice0; exact rfl; intro bz) | (apply R.box; exact rfl; (simp only [Value.cells]; rfl); exact rfl; intro bx) | (apply R.alloc; (simp only [Value.cells]; rfl); exact rfl; intro ba) | (apply R.buildSlice; (exact a_prt); exact rfl; exact rfl; (exact a_fills); exact rfl; intro bl) | (refine a_sp ?_ ?_; (intro h; skip; rotate_left; intro h; skip; rotate_left)) | fail | (apply R.call; (exact a_evs); exact rfl; (first | exact none9_K); rintro _ _ _ ⟨rfl, e1_, e2_⟩; replace e1_ := e1_.symm; subst e1_; replace e2_ := e2_.symm; subst e2_)))
  unfold eV ecells nG
  (repeat' (first | refine a_go ?_ | (with_reducible apply Fin.thenK; assumption) | (with_reducible (first | apply C.seqK | apply C.regionK); intro _ _) | (apply R.buildSlice0; exact rfl; intro bz) | (apply R.box; exact rfl; (simp only [Value.cells]; rfl); exact rfl; intro bx) | (apply R.alloc; (simp only [Value.cells]; rfl); exact rfl; intro ba) | (apply R.buildSlice; (exact a_prt); exact rfl; exact rfl; (exact a_fills); exact rfl; intro bl) | (refine a_sp ?_ ?_; (intro h; skip; rotate_left; intro h; skip; rotate_left)) | fail | (apply R.call; (exact a_evs); exact rfl; (first | exact none9_K); rintro _ _ _ ⟨rfl, e1_, e2_⟩; replace e1_ := e1_.symm; subst e1_; replace e2_ := e2_.symm; subst e2_)))
  (apply R.ice (hp := [_]) (Arr.all _); intro M2 hM2 hin2)
  have hE2 : EnL M2 _ [nG 5 1, nG 6 1, nG 7 2] := builtG3 hin2
  (apply R.call; (exact a_evs); exact rfl; exact sappend_L (ss := []) (es := []) (fs := [nG 5 1, nG 6 1, nG 7 2]) (k := 61) (lim := 64) (by decide) LogE.new hfo (hg1.mono hM2) hE2 (ho1.mono hM2); rintro _ M3 _ ⟨rfl, hM3, d3, s3, hL3, hp3, hl3, _, hd3, hg3, ho3, rfl⟩)
  have hd3' : d3.ps.length = 3 := hd3
  (repeat' (first | refine a_go ?_ | (with_reducible apply Fin.thenK; assumption) | (with_reducible (first | apply C.seqK | apply C.regionK); intro _ _) | (apply R.buildSlice0; exact rfl; intro bz) | (apply R.box; exact rfl; (simp only [Value.cells]; rfl); exact rfl; intro bx) | (apply R.alloc; (simp only [Value.cells]; rfl); exact rfl; intro ba) | (apply R.buildSlice; (exact a_prt); exact rfl; exact rfl; (exact a_fills); exact rfl; intro bl) | (refine a_sp ?_ ?_; (intro h; skip; rotate_left; intro h; skip; rotate_left)) | fail))
  (apply R.call; (exact a_evs); exact rfl; exact scut_L (i := 7) (by decide) hl3 (by omega) hg3 ho3; rintro _ M4 _ ⟨rfl, hM4, d4, s4, e4, hL4, hp4, hl4, hc4, hd4, hg4, ho4, rfl⟩)
  have he4 : e4 = [nG 5 1, nG 6 1] := hc4.is
  subst he4
  (repeat' (first | refine a_go ?_ | (with_reducible apply Fin.thenK; assumption) | (with_reducible (first | apply C.seqK | apply C.regionK); intro _ _) | (apply R.buildSlice0; exact rfl; intro bz) | (apply R.box; exact rfl; (simp only [Value.cells]; rfl); exact rfl; intro bx) | (apply R.alloc; (simp only [Value.cells]; rfl); exact rfl; intro ba) | (apply R.buildSlice; (exact a_prt); exact rfl; exact rfl; (exact a_fills); exact rfl; intro bl) | (refine a_sp ?_ ?_; (intro h; skip; rotate_left; intro h; skip; rotate_left)) | fail))
  apply R.arr (H2 := hp4 ++ (hL4 ++ H)) (by (exact a_arrs))
  (apply R.call; (exact a_evs); exact rfl; exact sopen_L (lim := 64) (by decide) hl4 ho4; rintro _ M5 _ ⟨hM5, lb5, hL5, hp5, rfl, ho5, hg5, rfl⟩)
  have hf5 : firstG s4 = 5 := by rw [firstG_list hl4.sgs, hl4.list]; rfl
  have hl5 : lastG s4 = 6 := by unfold lastG; rw [lastO_list hl4.sgs, hl4.list]; rfl
  (repeat' (first | (apply R.step; (apply Ok.move; exact rfl); exact rfl) | (apply R.step; (apply Ok.nePN; exact rfl; exact rfl); exact rfl) | refine a_go ?_ | (with_reducible apply Fin.thenK; assumption) | (with_reducible (first | apply C.seqK | apply C.regionK); intro _ _) | (apply R.buildSlice0; exact rfl; intro bz) | (apply R.box; exact rfl; (simp only [Value.cells]; rfl); exact rfl; intro bx) | (apply R.alloc; (simp only [Value.cells]; rfl); exact rfl; intro ba) | (apply R.buildSlice; (exact a_prt); exact rfl; exact rfl; (exact a_fills); exact rfl; intro bl) | (refine a_sp ?_ ?_; (intro h; skip; rotate_left; intro h; skip; rotate_left)) | fail))
  (apply R.call; (exact a_evs); exact rfl; exact sfirst_KL (H1 := hp5 ++ (hL4 ++ H)) hg5 hl4.sgs (by (exact a_arr)); rintro _ M5 _ ⟨rfl, rfl, rfl⟩)
  rw [hf5]
  (repeat' (first | refine a_go ?_ | (with_reducible apply Fin.thenK; assumption) | (with_reducible (first | apply C.seqK | apply C.regionK); intro _ _) | (apply R.buildSlice0; exact rfl; intro bz) | (apply R.box; exact rfl; (simp only [Value.cells]; rfl); exact rfl; intro bx) | (apply R.alloc; (simp only [Value.cells]; rfl); exact rfl; intro ba) | (apply R.buildSlice; (exact a_prt); exact rfl; exact rfl; (exact a_fills); exact rfl; intro bl) | (refine a_sp ?_ ?_; (intro h; skip; rotate_left; intro h; skip; rotate_left)) | fail))
  (apply R.call; (exact a_evs); exact rfl; exact slast_KL (H1 := hp5 ++ (hL4 ++ H)) hg5 hl4.sgs (by (exact a_arr)); rintro _ M5 _ ⟨rfl, rfl, rfl⟩)
  rw [hl5]
  (repeat' (first | refine a_go ?_ | (with_reducible apply Fin.thenK; assumption) | (with_reducible (first | apply C.seqK | apply C.regionK); intro _ _) | (apply R.buildSlice0; exact rfl; intro bz) | (apply R.box; exact rfl; (simp only [Value.cells]; rfl); exact rfl; intro bx) | (apply R.alloc; (simp only [Value.cells]; rfl); exact rfl; intro ba) | (apply R.buildSlice; (exact a_prt); exact rfl; exact rfl; (exact a_fills); exact rfl; intro bl) | (refine a_sp ?_ ?_; (intro h; skip; rotate_left; intro h; skip; rotate_left)) | fail))
  (apply R.call; (exact a_evs); exact rfl; exact slist_L hl4 hg5; rintro _ M6 _ ⟨hE6, hM6, rfl⟩)
  obtain ⟨A6, c6, vs6, rfl, _⟩ := hE6
  rw [show ([nG 5 1, nG 6 1] : List En).length = 2 from rfl]
  (repeat' (first | refine a_go ?_ | (with_reducible apply Fin.thenK; assumption) | (with_reducible (first | apply C.seqK | apply C.regionK); intro _ _) | (apply R.buildSlice0; exact rfl; intro bz) | (apply R.box; exact rfl; (simp only [Value.cells]; rfl); exact rfl; intro bx) | (apply R.alloc; (simp only [Value.cells]; rfl); exact rfl; intro ba) | (apply R.buildSlice; (exact a_prt); exact rfl; exact rfl; (exact a_fills); exact rfl; intro bl) | (refine a_sp ?_ ?_; (intro h; skip; rotate_left; intro h; skip; rotate_left)) | fail))
  (apply Fin.returnA (H2 := H); assumption; (first | exact .inl rfl | exact .inr rfl); exact rfl; (exact a_res); (simp only [retv]; rfl); (exact a_arr))
  exact ⟨rfl, hM1.trans_ (hM2.trans_ (hM3.trans_ (hM4.trans_ (hM5.trans_ hM6)))), rfl⟩
end Go.Sx
end
section
namespace Go.Sx
open Go Go.Proofs Go.RowKit
def szD (d : Dk) : Nat := d.S.length + d.ps.length
theorem putS_length {α : Type} (l : List (Txt × α)) (n : Txt) (v : α) : (putS l n v).length ≤ l.length + 1 := by
  unfold putS
  split
  · rw [List.length_map]; omega
  · rw [List.length_append]; exact Nat.le_refl _
theorem doF_length (F : Fs) (x : De) : (doF F x).length ≤ F.length + 1 := by
  cases x with
  | app n b => exact putS_length _ _ _
  | trc n k => exact putS_length _ _ _
  | ren n t => exact Nat.le_trans (putS_length _ _ _) (Nat.succ_le_succ (List.length_filter_le _ _))
  | rem n => exact Nat.le_trans (List.length_filter_le _ _) (Nat.le_succ _)
theorem fold_length : ∀ (ps : List De) (F : Fs), (ps.foldl doF F).length ≤ F.length + ps.length
  | [], _ => Nat.le_refl _
  | x :: ps, F => by
    have h1 := fold_length ps (doF F x)
    have h2 := doF_length F x
    rw [List.foldl_cons, List.length_cons]
    omega
theorem now_sz (d : Dk) : d.now.length ≤ szD d := fold_length _ _
theorem torn_length (F : Fs) (x : De) (torn : Int) : (tornF F x torn).length ≤ F.length + 1 := by
  cases x with
  | app n b =>
    unfold tornF
    dsimp only
    split
    · exact doF_length _ _
    · omega
  | trc n k => exact Nat.le_succ _
  | ren n t => exact Nat.le_succ _
  | rem n => exact Nat.le_succ _
theorem crash_sz (d : Dk) (keep torn : Int) : szD (crashD d keep torn) ≤ szD d := by
  have hk : keepD d keep ≤ d.ps.length := by
    unfold keepD
    have h1 : keep % ((d.ps.length + 1 : Nat) : Int) < ((d.ps.length + 1 : Nat) : Int) := Int.emod_lt_of_pos _ (by omega)
    omega
  show (crashF d keep torn).length + 0 ≤ d.S.length + d.ps.length
  have h1 := fold_length (d.ps.take (keepD d keep)) d.S
  rw [List.length_take] at h1
  unfold crashF
  split
  · rename_i x hx
    have hlt := (List.getElem?_eq_some_iff.1 hx).1
    have h2 := torn_length ((d.ps.take (keepD d keep)).foldl doF d.S) x torn
    omega
  · omega
end Go.Sx
end
section
namespace Go.Sx
open Go Go.Proofs Go.RowKit
def firstR (ss : List Sg) : Int := match ss.head? with
  | some s => (s.first : Int)
  | none => 0
structure OkW (prev : Option En) (s : Sg) : Prop where
  num : s.first ≤ 72057594037927935
  len : 0 < s.it.length
  seq : seqF prev s.first [] s.es
def okW : Option En → List Sg → Prop
  | _, [] => True
  | prev, s :: r => OkW prev s ∧ okW s.es.getLast? r
theorem okW_snoc {s : Sg} : ∀ {ss : List Sg} {prev : Option En}, okW prev (ss ++ [s]) ↔ okW prev ss ∧ OkW (match ss.getLast? with | none => prev | some t => t.es.getLast?) s
  | [], prev => ⟨fun h => ⟨trivial, h.1⟩, fun h => ⟨h.2, trivial⟩⟩
  | x :: r, prev => by
    rw [List.cons_append]
    have h := okW_snoc (s := s) (ss := r) (prev := x.es.getLast?)
    have e : (match (x :: r).getLast? with | none => prev | some t => t.es.getLast?) = (match r.getLast? with | none => x.es.getLast? | some t => t.es.getLast?) := by
      rw [List.getLast?_cons]
      cases r.getLast? <;> rfl
    rw [e]
    exact ⟨fun g => ⟨⟨g.1, (h.1 g.2).1⟩, (h.1 g.2).2⟩, fun g => ⟨g.1.1, h.2 ⟨g.1.2, g.2⟩⟩⟩
theorem okW_last {ss : List Sg} {s : Sg} : okW none (ss ++ [s]) ↔ okW none ss ∧ OkW (lastO ss) s := by
  rw [okW_snoc]
  unfold lastO
  cases ss.getLast? <;> exact Iff.rfl
theorem OkW.con {prev : Option En} {s : Sg} (h : OkW prev s) : conG s := by
  refine ⟨h.num, fun j e he => ?_⟩
  have := seqF_idx s.es [] h.seq (fun a h => by cases h) j e he
  simpa using this
theorem OkW.first {s : Sg} {a : En} (h : OkW (some a) s) : (s.first : Int) = a.idx + 1 := by
  have h1 := h.seq
  have h2 := h.len
  have hc := h.con.2 0
  rw [← Sg.es_len] at h2
  match hes : s.es, h1, h2 with
  | e :: es, h1, _ =>
    have h3 := h1.2.1
    have h4 := hc e (by rw [hes]; rfl)
    have h5 : e.idx = a.idx + 1 := h3.2.1
    have h6 : e.idx = (s.first : Int) := h3.1
    omega
theorem OkW.last {prev : Option En} {s : Sg} (h : OkW prev s) : ∃ a, s.es.getLast? = some a ∧ a.idx = (s.first : Int) + s.it.length - 1 := by
  have h2 := h.len
  refine ⟨_, getLast_len (by rw [Sg.es_len]; exact h2), ?_⟩
  have := h.con.2 (s.es.length - 1) _ (List.getElem?_eq_getElem (by rw [Sg.es_len]; omega))
  rw [this, Sg.es_len]
  omega
theorem okW_mem : ∀ {ss : List Sg} {prev : Option En}, okW prev ss → ∀ s ∈ ss, ∃ p, OkW p s
  | [], _, _, s, hs => absurd hs List.not_mem_nil
  | x :: r, prev, h, s, hs => by
    rcases List.mem_cons.1 hs with hs | hs
    · exact ⟨prev, hs ▸ h.1⟩
    · exact okW_mem h.2 s hs
theorem okW.sgs {ss : List Sg} {prev : Option En} (h : okW prev ss) : sgsOk ss := fun s hs => by
  obtain ⟨p, hp⟩ := okW_mem h s hs
  exact ⟨hp.len, seqF_ent hp.seq⟩
theorem okW.con {ss : List Sg} {prev : Option En} (h : okW prev ss) : ∀ s ∈ ss, conG s := fun s hs => by
  obtain ⟨p, hp⟩ := okW_mem h s hs
  exact hp.con
theorem okW.first {ss : List Sg} (h : okW none ss) : firstR ss = firstG ss := by
  match ss, h with
  | [], _ => rfl
  | s :: r, h =>
    have h2 := h.1.len
    have hc := h.1.con.2 0
    rw [← Sg.es_len] at h2
    show (s.first : Int) = (match s.es.head? with | some e => e.idx | none => 0)
    match hes : s.es, h2 with
    | e :: es, _ =>
      have := hc e (by rw [hes]; rfl)
      show (s.first : Int) = e.idx
      omega
theorem goF_is {prev : Option En} {f : Nat} : ∀ (fs : List Txt) (it : List (En × Nat)), seqF prev f [] (it.map Prod.fst) → 8 * it.length ≤ (it.map Prod.snd).sum → seqF prev f [] ((goF prev f fs it).1.map Prod.fst) ∧ ((goF prev f fs it).1.map Prod.snd).sum ≤ (it.map Prod.snd).sum + endS fs ∧ 8 * (goF prev f fs it).1.length ≤ ((goF prev f fs it).1.map Prod.snd).sum
  | [], it, h, h8 => ⟨h, by show _ ≤ _ + 0; exact Nat.le_refl _, h8⟩
  | r :: rs, it, h, h8 => by
    have hends : endS (r :: rs) = 8 + r.length + endS rs := by simp [endS]
    cases hr : readE r with
    | none =>
      rw [goF_none hr]
      exact ⟨h, Nat.le_add_right _ _, h8⟩
    | some e =>
      by_cases hf : fitS prev f (it.map Prod.fst) e
      · rw [goF_some hr hf]
        have hs : (((it ++ [(e, 8 + r.length)]).map Prod.snd).sum) = (it.map Prod.snd).sum + (8 + r.length) := by
          rw [List.map_append, List.sum_append]
          simp
        obtain ⟨g1, g2, g3⟩ := goF_is (prev := prev) (f := f) rs (it ++ [(e, 8 + r.length)]) (by
          rw [List.map_append]
          exact seqF_snoc.2 ⟨h, readE_ok hr, by rw [List.nil_append]; exact hf⟩) (by
          rw [hs, List.length_append, List.length_singleton]
          omega)
        refine ⟨g1, ?_, g3⟩
        rw [hs] at g2
        omega
      · rw [goF_no hr hf]
        exact ⟨h, Nat.le_add_right _ _, h8⟩
theorem readF_is (prev : Option En) (f : Nat) (b : Txt) : seqF prev f [] ((readF prev f b).1.map Prod.fst) ∧ ((readF prev f b).1.map Prod.snd).sum ≤ b.length ∧ 8 * (readF prev f b).1.length ≤ b.length := by
  obtain ⟨h1, h2, h3⟩ := goF_is (prev := prev) (f := f) (framesF b.length b) [] trivial (Nat.le_refl _)
  have h4 := framesF_end b.length b
  have h5 : ((([] : List (En × Nat)).map Prod.snd).sum) = 0 := rfl
  rw [h5] at h2
  refine ⟨h1, ?_, ?_⟩
  · show ((goF prev f (framesF b.length b) []).1.map Prod.snd).sum ≤ _
    omega
  · show 8 * (goF prev f (framesF b.length b) []).1.length ≤ _
    omega
def bdW (n : Nat) (ss : List Sg) : Prop := ∀ s ∈ ss, s.it.length ≤ 131072 + n ∧ s.size ≤ 1048576 + 167 * n
theorem bdW.snoc {n : Nat} {ss : List Sg} {s : Sg} (h : bdW n ss) (h1 : s.it.length ≤ 131072 + n) (h2 : s.size ≤ 1048576 + 167 * n) : bdW n (ss ++ [s]) := by
  intro x hx
  rcases List.mem_append.1 hx with hx | hx
  · exact h x hx
  · rw [List.mem_singleton] at hx
    subst hx
    exact ⟨h1, h2⟩
theorem bdW.nil {n : Nat} : bdW n [] := fun s h => absurd h List.not_mem_nil
theorem openG_is {d : Dk} (hd : d.ok) : ∀ (ns : List Nat) (acc : List Sg), (∀ n ∈ ns, n ≤ 72057594037927935) → okW none acc → bdW 0 acc → okW none (openG d ns acc).2.2 ∧ bdW 0 (openG d ns acc).2.2 ∧ (openG d ns acc).2.2.length ≤ acc.length + ns.length
  | [], acc, _, h, hb => ⟨h, hb, Nat.le_refl _⟩
  | n :: ns, acc, hn, h, hb => by
    obtain ⟨r1, r2, r3⟩ := readF_is (lastO acc) n ((readD d (nameS n)).getD [])
    have hl := readD_len hd (nameS n)
    have hnn := hn n (List.mem_cons_self ..)
    rw [openG]
    generalize readF (lastO acc) n ((readD d (nameS n)).getD []) = z at r1 r2 r3
    obtain ⟨it, fine⟩ := z
    dsimp only at r1 r2 r3 ⊢
    have key : okW none (if 0 < it.length then acc ++ [⟨n, it⟩] else acc) ∧ bdW 0 (if 0 < it.length then acc ++ [⟨n, it⟩] else acc) ∧ (if 0 < it.length then acc ++ [⟨n, it⟩] else acc).length ≤ acc.length + 1 := by
      split
      · rename_i h0
        refine ⟨okW_last.2 ⟨h, ⟨hnn, h0, r1⟩⟩, hb.snoc (by show it.length ≤ _; omega) (by show (it.map Prod.snd).sum ≤ _; omega), ?_⟩
        rw [List.length_append]
        exact Nat.le_refl _
      · exact ⟨h, hb, Nat.le_succ _⟩
    obtain ⟨k1, k2, k3⟩ := key
    split
    · obtain ⟨g1, g2, g3⟩ := openG_is hd ns _ (fun m hm => hn m (List.mem_cons_of_mem _ hm)) k1 k2
      refine ⟨g1, g2, ?_⟩
      rw [List.length_cons]
      omega
    · split
      · exact ⟨trivial, bdW.nil, Nat.zero_le _⟩
      · refine ⟨k1, k2, ?_⟩
        rw [List.length_cons]
        dsimp only
        omega
theorem openS_is {d : Dk} (hd : d.ok) : okW none (openS d).2.2 ∧ bdW 0 (openS d).2.2 ∧ (openS d).2.2.length ≤ d.now.length := by
  obtain ⟨h1, h2, h3⟩ := openG_is hd (numsF (namesD d.down d.now)) [] numsF_ok trivial bdW.nil
  refine ⟨h1, h2, Nat.le_trans h3 ?_⟩
  rw [List.length_nil, Nat.zero_add]
  exact Nat.le_trans (numsF_len _) namesD_len
end Go.Sx
end
section
namespace Go.Sx
open Go Go.Proofs Go.RowKit
attribute [local irreducible] C R Fin K Own OwnT Rd Pl Ok KOf RetOk OpsOf RP KP Res NoPanic KV KE MapS ItS EntS FsO FsR RowD PlD DkO RT KT OneT RS KS OneS SgO
variable {M M' : Mem} {H H1 H2 : Hp}
theorem sappend_C {lb db : Nat} {lim : Int} {d : Dk} {ss : List Sg} {v : Value} {e : En} {es : List En} {hL hp : Hp} {k : Nat} {cand : List (Int × List En)} (hl : 64 ≤ lim ∧ lim ≤ 16384) (h : LogE d ss es (k + 1)) (hc : CrV (vwG d.room) d cand) (hin : (0, es) ∈ cand) (he : entS e) (hp1 : prevE (lastO ss) e) (hg : SgO M lb db lim ss hL) (hv : EnL M v [e]) (ho : DkO M db d hp) : K Try.prog 11 [.pointer (some ⟨lb, 0, none⟩), v] M (hL ++ (hp ++ H)) fun v' M' H' => v' = .int .i64 0 ∧ M.le M' ∧ ∃ d' ss' hL' hp', LogE d' ss' (es ++ [e]) k ∧ CrV (vwG d.room) d' (cand ++ [(0, es ++ [e])]) ∧ d'.ps.length = d.ps.length + 1 ∧ d'.room = d.room ∧ d'.S = d.S ∧ SgO M' lb db lim ss' hL' ∧ DkO M' db d' hp' ∧ H' = hL' ++ (hp' ++ H) := by
  have hnum := h.num
  have hd := h.deeds
  have hsl := len_listG h.log.ok
  rw [h.list] at hsl
  have hfo : folE (lastO ss) [e] := ⟨he, hp1, trivial⟩
  obtain ⟨g1, g2⟩ := h.logR.step (lim := lim) he hp1
  have hits : ∀ s ∈ ss, s.it.length + 1 ≤ 1000000 := fun s hs => by have := h.logR.its s hs; omega
  generalize hf : freshG lim ss (frameS (layE e)).length = fr at g1 g2
  obtain ⟨s1, s2, s3, _⟩ := step_files (lim := lim) h.log.ok he hp1 hits hf
  have hA : appG d lim ss [e] = (0, opD 0 d (.app (nameS (tailG fr ss e).first) (frameS (layE e))), headG fr ss ++ [addS (tailG fr ss e) e]) := by
    unfold appG
    rw [if_pos hfo, appL, hf, if_neg (fun g => g g1)]
    rfl
  refine (sappend_K hl hg h.sgs hv ho (by show 1 ≤ 100000; decide) (by show _ + 1 ≤ _; omega) (by show _ + 1 ≤ _; omega) ?_).mono ?_
  · intro s hs
    have := okG_con h.log.ok s hs
    exact ⟨this.1.1, by show _ + 200 * 1 ≤ _; omega⟩
  · rw [hA]
    rintro v' M' H' ⟨h1, hM, hL', hp', h2, h3, h4⟩
    have hps : (opD 0 d (.app (nameS (tailG fr ss e).first) (frameS (layE e)))).ps.length = d.ps.length + 1 := by
      rw [h.log.go.op]
      show (d.ps ++ [_]).length = _
      rw [List.length_append]
      rfl
    refine ⟨h1, hM, _, _, hL', hp', ⟨g2.log, ?_, ?_, g2.room, by omega⟩, ?_, hps, by rw [h.log.go.op], by rw [h.log.go.op], h2, h3, h4⟩
    · rw [s3, h.list]
    · rw [List.length_append]
      show _ + 1 + k ≤ 64
      omega
    · refine CrV.op h.log.go (hc.sub fun x hx => List.mem_append_left _ hx) ?_ ?_
      · rw [h.log.now, s2, vwG_all s1, s3, h.list]
        exact List.mem_append_right _ (List.mem_singleton_self _)
      · intro n b hb t ht
        cases hb
        rw [h.log.now, vwG_torn h.log.ok he hp1 hits hf ht, h.list]
        exact List.mem_append_left _ hin
theorem LogE.sync {d : Dk} {ss : List Sg} {es : List En} {k : Nat} (h : LogE d ss es k) : synE d = 0 ∧ LogE (synD d) ss es k ∧ (synD d).ps = [] ∧ (synD d).room = d.room ∧ CrV (vwG (synD d).room) (synD d) [(0, es)] := by
  have hs : synD d = ⟨d.room, d.now, [], d.fuse, d.down⟩ := by
    unfold synD
    rw [if_neg h.log.go.stop, h.log.go.cnt]
  rw [hs]
  refine ⟨if_neg h.log.go.stop, ⟨⟨h.log.go, h.log.now, h.log.ok⟩, h.list, h.num, h.room, by have := h.deeds; show 0 + k ≤ _; omega⟩, rfl, rfl, ?_⟩
  intro k hk
  have : k = 0 := by
    change k ≤ 0 at hk
    omega
  subst this
  refine ⟨?_, fun n b hb => by cases hb⟩
  show vwG d.room d.now ∈ _
  rw [h.log.now, vwG_all h.log.ok, h.list]
  exact List.mem_singleton_self _
theorem sopen_C {db : Nat} {d : Dk} {lim keep torn : Int} {hp : Hp} {cand : List (Int × List En)} (hl : 64 ≤ lim ∧ lim ≤ 16384) (hc : CrV (vwG d.room) d cand) (h0 : ∀ x ∈ cand, x.1 = 0) (hn : (crashD d keep torn).now.length ≤ 90000) (ho : DkO M db (crashD d keep torn) hp) : K Try.prog 9 [.pointer (some ⟨db, 0, none⟩), .int .i64 lim] M (hp ++ H) fun v' M' H' => M.le M' ∧ ∃ ss lb hL hp', (0, listG ss) ∈ cand ∧ sgsOk ss ∧ v' = .tuple #[.pointer (some ⟨lb, 0, none⟩), .int .i64 0] ∧ SgO M' lb db lim ss hL ∧ H' = hL ++ (hp' ++ H) := by
  have hv := hc.crash keep torn
  have h1 := h0 _ hv
  change (openS (crashD d keep torn)).1 = 0 at h1
  refine (sopen_K hl ho (Nat.zero_le _) hn).mono ?_
  rintro v' M' H' ⟨hM, hp', h2, h3⟩
  refine ⟨hM, ?_⟩
  rcases h3 with ⟨h3, _⟩ | ⟨_, lb, hL, h4, h5, h6⟩
  · exact absurd h1 h3
  · refine ⟨_, lb, hL, hp', ?_, (openS_is ho.isok).1.sgs, h4, h5, h6⟩
    have e : vwG d.room (crashD d keep torn).now = (0, listG (openS (crashD d keep torn)).2.2) := Prod.ext h1 rfl
    rw [← e]
    exact hv
end Go.Sx
end
section
namespace Go.Sx
open Go Go.Proofs Go.RowKit
theorem mkE_ent {i t : Int} {l : En} (hi : 1 ≤ i ∧ i ≤ 72057594037927935) (ht : t ≤ 72057594037927935) : entS (mkE i t l) := by
  refine ⟨?_, hi, ?_⟩
  · show 1 ≤ max 1 t ∧ max 1 t ≤ 72057594037927935
    omega
  · have h3 : l.conf % 3 = 0 ∨ l.conf % 3 = 1 ∨ l.conf % 3 = 2 := by omega
    unfold mkE
    dsimp only
    rcases h3 with h | h | h
    · rw [h]
      exact .inl ⟨rfl, rfl, rfl⟩
    · rw [h]
      refine .inr (.inl ⟨rfl, ?_, ?_, rfl⟩)
      · show 1 ≤ (1 :: l.data.take 30).length
        rw [List.length_cons]
        omega
      · show (1 :: l.data.take 30).length ≤ 128
        rw [List.length_cons, List.length_take]
        omega
    · rw [h]
      refine .inr (.inr ⟨rfl, rfl, ?_⟩)
      show setS (2 * (1 + l.term % 200 % 31))
      unfold setS
      omega
theorem handE_fol : ∀ (ls : List En) (i t : Int) (prev : Option En), 0 ≤ i → i + ls.length ≤ 72057594037927935 → 0 ≤ t → t + ls.length ≤ 72057594037927935 → (∀ a, prev = some a → a.idx = i ∧ a.term ≤ max 1 t) → folE prev (handE i t ls)
  | [], _, _, _, _, _, _, _, _ => trivial
  | l :: ls, i, t, prev, hi, hil, ht, htl, hp => by
    rw [List.length_cons] at hil htl
    have hk : 0 ≤ l.kind % 8 / 6 ∧ l.kind % 8 / 6 ≤ 1 := by omega
    refine ⟨mkE_ent (by omega) (by omega), ?_, handE_fol ls _ _ _ (by omega) (by omega) (by omega) (by omega) ?_⟩
    · cases prev with
      | none => trivial
      | some a =>
        have := hp a rfl
        refine ⟨?_, ?_⟩
        · show i + 1 = a.idx + 1
          omega
        · show a.term ≤ max 1 (t + l.kind % 8 / 6)
          omega
    · intro a ha
      cases ha
      exact ⟨rfl, Int.le_refl _⟩
theorem handE_len : ∀ (ls : List En) (i t : Int), (handE i t ls).length = ls.length
  | [], _, _ => rfl
  | l :: ls, i, t => by rw [handE, List.length_cons, List.length_cons, handE_len ls]
theorem handE_idx : ∀ (ls : List En) (i t : Int) (j : Nat) e, (handE i t ls)[j]? = some e → e.idx = i + j + 1
  | [], _, _, j, e, h => by cases h
  | l :: ls, i, t, 0, e, h => by
    cases h
    show i + 1 = i + 0 + 1
    omega
  | l :: ls, i, t, j + 1, e, h => by
    have := handE_idx ls (i + 1) (t + l.kind % 8 / 6) j e h
    omega
theorem handE_term : ∀ (ls : List En) (i t : Int), ∀ e ∈ handE i t ls, e.term ≤ max 1 (t + ls.length)
  | [], _, _, e, h => absurd h List.not_mem_nil
  | l :: ls, i, t, e, h => by
    have hk : 0 ≤ l.kind % 8 / 6 ∧ l.kind % 8 / 6 ≤ 1 := by omega
    rw [List.length_cons]
    rcases List.mem_cons.1 h with h | h
    · rw [h]
      show max 1 (t + l.kind % 8 / 6) ≤ _
      omega
    · have := handE_term ls _ _ e h
      omega
end Go.Sx
end
section
namespace Go.Sx
open Go Go.Proofs Go.RowKit Go.ChangeShapes Go.WideShapes Go.ChangeAt
attribute [local irreducible] C R Fin K Own OwnT Rd Pl Ok KOf RetOk OpsOf RP KP Res NoPanic KV
variable {M M' : Mem} {H H1 hrow : Hp}
section
variable {Hh : Type} {enc : TypeId × Value → Hh} {W : World} {m : Nat} {cs : List Value} {z : DataW Hh × List MemPlace}
theorem rd_en (h : Trd enc Try.prog W m 34 cs z) (hw : Wgt Try.prog 34 z.1) : ∃ (e : En) (A : Option Addr) (cap : Nat), cs = ecells e (.slice A e.data.length cap) ∧ Pl (Mem.of W) A (e.data.map bv) ∧ e.data.length ≤ cap ∧ cap ≤ 140737488351232 ∧ rng e := by
  obtain ⟨hl, k, hf⟩ := rd_fields Try.underlying34 h hw
  rw [show Try.prog.cellsOf 34 = 5 by kernel_rfl] at hl
  obtain ⟨y0, h0, _⟩ := hf 0 3 0 1 rfl (by kernel_rfl)
  obtain ⟨y1, h1, _⟩ := hf 1 31 1 1 rfl (by kernel_rfl)
  obtain ⟨y2, h2, _⟩ := hf 2 31 2 1 rfl (by kernel_rfl)
  obtain ⟨y3, h3, g3⟩ := hf 3 30 3 1 rfl (by kernel_rfl)
  obtain ⟨y4, h4, _⟩ := hf 4 3 4 1 rfl (by kernel_rfl)
  obtain ⟨a0, e0, w0⟩ := rd_int h0
  obtain ⟨a1, e1, w1⟩ := rd_int h1
  obtain ⟨a2, e2, w2⟩ := rd_int h2
  obtain ⟨A, bs, cap, e3, q1, q2, q3⟩ := rd_bytes h3 g3
  obtain ⟨a4, e4, w4⟩ := rd_int h4
  match cs, hl with
  | [x0, x1, x2, x3, x4], _ =>
    cases e0; cases e1; cases e2; cases e3; cases e4
    exact ⟨⟨a0, a1, a2, bs, a4⟩, A, cap, rfl, q2, q1, q3, w0, w1, w2, w4⟩
theorem rd_ens : ∀ (css : List (List Value)), (∀ c ∈ css, c.length = 5 ∧ ∃ m y, Trd enc Try.prog W m 34 c y ∧ Wgt Try.prog 34 y.1) → ∃ (es : List En) (vs : List Value), css = rowE es vs ∧ es.length = css.length ∧ PlV (Mem.of W) vs (es.map En.data) ∧ ∀ e ∈ es, rng e ∧ e.data.length ≤ 140737488351232
  | [], _ => ⟨[], [], rfl, rfl, PlV.nil, fun _ h => absurd h (List.not_mem_nil)⟩
  | c :: css, h => by
    obtain ⟨es, vs, h1, h2, h3, h4⟩ := rd_ens css (fun c hc => h c (List.mem_cons_of_mem _ hc))
    obtain ⟨_, m, y, h5, h6⟩ := h c (List.mem_cons_self ..)
    obtain ⟨e, A, cap, rfl, q1, q2, q3, q4⟩ := rd_en h5 h6
    refine ⟨e :: es, .slice A e.data.length cap :: vs, by rw [h1]; rfl, by simp [h2], ?_, ?_⟩
    · refine ⟨by simp [h3.1], fun i v l hv hl => ?_⟩
      cases i with
      | zero =>
        cases hv
        cases hl
        exact ⟨A, cap, rfl, q2, by omega, q1⟩
      | succ i => exact h3.2 i v l hv hl
    · intro x hx
      rcases List.mem_cons.1 hx with rfl | hx
      · exact ⟨q4, by omega⟩
      · exact h4 x hx
theorem arg_ens {A : Option Addr} {css : List (List Value)} {cap : Nat} (hl : css.length ≤ cap) (hp : Pl (Mem.of W) A css.flatten) (hc : cap * 56 ≤ 140737488351232) (hall : ∀ c ∈ css, c.length = 5 ∧ ∃ m y, Trd enc Try.prog W m 34 c y ∧ Wgt Try.prog 34 y.1) :
    ∃ es : List En, es.length = css.length ∧ EnL (Mem.of W) (.slice A css.length cap) es ∧ (∀ e ∈ es, e.data.length ≤ 140737488351232) ∧ ∀ e ∈ es, rng e := by
  obtain ⟨es, vs, h1, h2, h3, h4⟩ := rd_ens css hall
  refine ⟨es, h2, ⟨A, cap, vs, by rw [h2], by omega, by omega, by rw [← h1]; exact hp, h3⟩, fun e he => (h4 e he).2, fun e he => (h4 e he).1⟩
end
end Go.Sx
end
section
namespace Go.Sx
open Go Go.Proofs Go.RowKit
attribute [local irreducible] C R Fin K Own OwnT Rd Pl Ok KOf RetOk OpsOf RP KP Res NoPanic KV KE MapS ItS EntS FsO FsR RowD PlD DkO RT KT OneT RS KS OneS SgO
variable {M M' : Mem} {H H1 H2 : Hp}
theorem fits_small {es : List En} (h : ∀ e ∈ es, entS e) (hl : es.length ≤ 1000) : fits es := by
  refine ⟨by omega, fun e he => ?_⟩
  have := (entS_kind (h e he)).2.2.2.2.2.2
  omega
theorem EnL.takeK {A : Option Addr} {cap k : Nat} {es : List En} (h : EnL M (.slice A es.length cap) es) (hk : k ≤ es.length) : EnL M (.slice A k cap) (es.take k) := by
  obtain ⟨A', cap', vs, e, h1, h2, h3, h4⟩ := h
  cases e
  refine ⟨A, cap, vs.take k, by rw [List.length_take, Nat.min_eq_left hk], by rw [List.length_take]; omega, h2, ?_, by rw [List.map_take]; exact h4.take k⟩
  rw [← rowE_take]
  exact h3.take (k * 5)
theorem lastO_of {ss : List Sg} {d : Dk} {es : List En} {k : Nat} (h : LogE d ss es k) : lastO ss = es.getLast? := by rw [lastO_list h.sgs, h.list]
end Go.Sx
end
section
namespace Go.Sx
open Go Go.Proofs Go.RowKit
attribute [local irreducible] C R Fin K Own OwnT Rd Pl Ok KOf RetOk OpsOf RP KP Res NoPanic KV KE MapS ItS EntS FsO FsR RowD PlD DkO RT KT OneT RS KS OneS SgO
variable {M M' : Mem} {H H1 H2 : Hp}
theorem builtE {bl e : Nat} {x : En} {v : Value} {fr : Nat × Nat} (h : In M [(bl, .cells (ecells x v).toArray e fr)]) (hd : PlB M v x.data) : EnL M (.slice (some ⟨bl, 0, none⟩) 1 1) [x] := by
  refine ⟨_, 1, [v], rfl, Nat.le_refl _, by decide, Pl.ofAt h.one, by simp, fun q u l h1 h2 => ?_⟩
  cases q with
  | zero =>
    cases h1
    cases h2
    exact hd
  | succ q => cases h1
theorem EnL.takeK2 {A : Option Addr} {cap m k : Nat} {es : List En} (h : EnL M (.slice A m cap) es) (hk : k ≤ es.length) : EnL M (.slice A k cap) (es.take k) := by
  obtain ⟨A', cap', vs, e, h1, h2, h3, h4⟩ := id h
  cases e
  exact h.takeK hk
structure GxX where
  i : Nat
  ii : Int
  d : Dk
  ss : List Sg
  hL : Hp
  hp : Hp
  M : Mem
def candG (fs rs : List En) (n : Nat) : List (Int × List En) := (List.range (n + 1)).map fun j => (0, fs ++ rs.take j)
theorem candG_zero (fs rs : List En) : candG fs rs 0 = [(0, fs)] := by
  show [(0, fs ++ rs.take 0)] = _
  rw [List.take_zero, List.append_nil]
theorem candG_succ (fs rs : List En) (n : Nat) : candG fs rs (n + 1) = candG fs rs n ++ [(0, fs ++ rs.take (n + 1))] := by
  unfold candG
  rw [List.range_succ, List.map_append]
  rfl
theorem candG_mem {fs rs : List En} {n : Nat} {x : Int × List En} (h : x ∈ candG fs rs n) : ∃ j, j ≤ n ∧ x = (0, fs ++ rs.take j) := by
  obtain ⟨j, hj, rfl⟩ := List.mem_map.1 h
  exact ⟨j, by rw [List.mem_range] at hj; omega, rfl⟩
theorem folE_at : ∀ {rs : List En} {fs : List En}, folE fs.getLast? rs → ∀ {i : Nat} (h : i < rs.length), prevE (fs ++ rs.take i).getLast? rs[i]
  | [], _, _, i, h => absurd h (Nat.not_lt_zero _)
  | x :: rs, fs, hf, 0, _ => by
    rw [List.take_zero, List.append_nil]
    exact hf.2.1
  | x :: rs, fs, hf, i + 1, h => by
    have h1 := folE_at (rs := rs) (fs := fs ++ [x]) (by rw [List.getLast?_concat]; exact hf.2.2) (i := i) (by rw [List.length_cons] at h; omega)
    rw [List.append_assoc] at h1
    exact h1
theorem segKeeps_K {lm kp tn : Int} {lv mv : Value} {l more : List En} (hl : EnL M lv l) (hlr : ∀ e ∈ l, rng e) (hm : EnL M mv more) (hmr : ∀ e ∈ more, rng e) : K Try.prog 7 [.int .i64 lm, lv, mv, .int .i64 kp, .int .i64 tn] M H fun v' M' _ => v' = .bool true ∧ M.le M' := by
  obtain ⟨Al, cl, vl, rfl, _⟩ := id hl
  obtain ⟨Am, cm, vm, rfl, _⟩ := id hm
  refine K.enterK Try.func7 rfl rfl rfl ?_
  intro Q hNP hQ
  have hlm : 0 ≤ lm % 200 ∧ lm % 200 < 200 := ⟨Int.emod_nonneg _ (by decide), Int.emod_lt_of_pos _ (by decide)⟩
  (repeat' (first | refine a_go ?_ | (with_reducible apply Fin.thenK; assumption) | (with_reducible (first | apply C.seqK | apply C.regionK); intro _ _) | (apply R.buildSlice0; exact rfl; intro bz) | (apply R.box; exact rfl; (simp only [Value.cells]; rfl); exact rfl; intro bx) | (apply R.alloc; (simp only [Value.cells]; rfl); exact rfl; intro ba) | (apply R.buildSlice; (exact a_prt); exact rfl; exact rfl; (exact a_fills); exact rfl; intro bl) | (refine a_sp ?_ ?_; (intro h; skip; rotate_left; intro h; skip; rotate_left)) | fail))
  (apply R.call; (exact a_evs); exact rfl; (first | exact pick_K lm 200 (by decide) (by decide)); rintro _ _ _ ⟨rfl, e1_, e2_⟩; replace e1_ := e1_.symm; subst e1_; replace e2_ := e2_.symm; subst e2_)
  (repeat' (first | (apply R.step; (apply Ok.move; exact rfl); exact rfl) | (apply R.step; (apply Ok.addQ (64 + lm % 200); exact rfl; exact rfl; exact rfl; apply w64; omega; omega); exact rfl) | refine a_go ?_ | (with_reducible apply Fin.thenK; assumption) | (with_reducible (first | apply C.seqK | apply C.regionK); intro _ _) | (apply R.buildSlice0; exact rfl; intro bz) | (apply R.box; exact rfl; (simp only [Value.cells]; rfl); exact rfl; intro bx) | (apply R.alloc; (simp only [Value.cells]; rfl); exact rfl; intro ba) | (apply R.buildSlice; (exact a_prt); exact rfl; exact rfl; (exact a_fills); exact rfl; intro bl) | (refine a_sp ?_ ?_; (intro h; skip; rotate_left; intro h; skip; rotate_left)) | fail))
  (apply R.call; (exact a_evs); exact rfl; exact new_K (room := 1048576) (by decide) (by decide); rintro _ M _ ⟨db, hp, rfl, rfl, ho, rfl⟩)
  (repeat' (first | refine a_go ?_ | (with_reducible apply Fin.thenK; assumption) | (with_reducible (first | apply C.seqK | apply C.regionK); intro _ _) | (apply R.buildSlice0; exact rfl; intro bz) | (apply R.box; exact rfl; (simp only [Value.cells]; rfl); exact rfl; intro bx) | (apply R.alloc; (simp only [Value.cells]; rfl); exact rfl; intro ba) | (apply R.buildSlice; (exact a_prt); exact rfl; exact rfl; (exact a_fills); exact rfl; intro bl) | (refine a_sp ?_ ?_; (intro h; skip; rotate_left; intro h; skip; rotate_left)) | fail))
  (apply R.call; (exact a_evs); exact rfl; exact known9_K; rintro _ M1 H' ⟨rfl, hM1, e2_⟩)
  subst e2_
  replace ho := ho.mono hM1
  (repeat' (first | (apply R.step; (apply Ok.move; exact rfl); exact rfl) | (apply R.step; (apply Ok.eqPN; exact rfl; exact rfl); exact rfl) | refine a_go ?_ | (with_reducible apply Fin.thenK; assumption) | (with_reducible (first | apply C.seqK | apply C.regionK); intro _ _) | (apply R.buildSlice0; exact rfl; intro bz) | (apply R.box; exact rfl; (simp only [Value.cells]; rfl); exact rfl; intro bx) | (apply R.alloc; (simp only [Value.cells]; rfl); exact rfl; intro ba) | (apply R.buildSlice; (exact a_prt); exact rfl; exact rfl; (exact a_fills); exact rfl; intro bl) | (refine a_sp ?_ ?_; (intro h; skip; rotate_left; intro h; skip; rotate_left)) | fail))
  generalize hlim : 64 + lm % 200 = lim
  have hlim2 : 64 ≤ lim ∧ lim ≤ 16384 := by omega
  (apply R.call; (exact a_evs); exact rfl; exact sopen_L (lim := lim) hlim2 LogE.new ho; rintro _ M2 _ ⟨hM2, lb, hL2, hp2, rfl, ho2, hg2, rfl⟩)
  (repeat' (first | (apply R.step; (apply Ok.move; exact rfl); exact rfl) | (apply R.step; (apply Ok.eqPN; exact rfl; exact rfl); exact rfl) | refine a_go ?_ | (with_reducible apply Fin.thenK; assumption) | (with_reducible (first | apply C.seqK | apply C.regionK); intro _ _) | (apply R.buildSlice0; exact rfl; intro bz) | (apply R.box; exact rfl; (simp only [Value.cells]; rfl); exact rfl; intro bx) | (apply R.alloc; (simp only [Value.cells]; rfl); exact rfl; intro ba) | (apply R.buildSlice; (exact a_prt); exact rfl; exact rfl; (exact a_fills); exact rfl; intro bl) | (refine a_sp ?_ ?_; (intro h; skip; rotate_left; intro h; skip; rotate_left)) | fail))
  (apply R.call; (exact a_evs); exact rfl; exact hEntries_K (i := 3) (t := 1) (m := 20) ((hl.mono hM1).mono hM2) hlr (by decide) (by decide) (by decide); rintro fv M3 _ ⟨hrf, hof, hM3, rfl⟩)
  have hfl : (l.take (20 : Int).toNat).length ≤ 20 := by rw [List.length_take]; exact Nat.min_le_left _ _
  have hffol : folE none (handE 3 1 (l.take (20 : Int).toNat)) := handE_fol _ _ _ _ (by decide) (by omega) (by decide) (by omega) (fun a h => by cases h)
  have hfix := handE_idx (l.take (20 : Int).toNat) 3 1
  have hfle := handE_len (l.take (20 : Int).toNat) 3 1
  have hft := handE_term (l.take (20 : Int).toNat) 3 1
  generalize handE 3 1 (l.take (20 : Int).toNat) = fs at hof hffol hfix hfle hft
  obtain ⟨Af, cf, rfl, hcf, hcf2⟩ := hof.form
  (apply R.ice (hp := hrf) (Arr.all _); intro M4 hM4 hin4)
  have hEf : EnL M4 (.slice Af fs.length cf) fs := (hof.mono hM4).enL hin4
  replace hg2 := (hg2.mono hM3).mono hM4
  replace ho2 := (ho2.mono hM3).mono hM4
  have hMa := hM1.trans_ (hM2.trans_ (hM3.trans_ hM4))
  (repeat' (first | refine a_go ?_ | (with_reducible apply Fin.thenK; assumption) | (with_reducible (first | apply C.seqK | apply C.regionK); intro _ _) | (apply R.buildSlice0; exact rfl; intro bz) | (apply R.box; exact rfl; (simp only [Value.cells]; rfl); exact rfl; intro bx) | (apply R.alloc; (simp only [Value.cells]; rfl); exact rfl; intro ba) | (apply R.buildSlice; (exact a_prt); exact rfl; exact rfl; (exact a_fills); exact rfl; intro bl) | (refine a_sp ?_ ?_; (intro h; skip; rotate_left; intro h; skip; rotate_left)) | fail))
  (apply R.call; (exact a_evs); exact rfl; exact sappend_L (ss := []) (es := []) (fs := fs) (k := 44) (lim := lim) hlim2 (LogE.new.less (by omega)) hffol hg2 hEf ho2; rintro _ M5 _ ⟨rfl, hM5, d5, s5, hL5, hp5, hl5, _, hd5, hg5, ho5, rfl⟩)
  have hd5' : d5.ps.length = fs.length := by rw [hd5]; exact Nat.zero_add _
  rw [List.nil_append] at hl5
  (repeat' (first | refine a_go ?_ | (with_reducible apply Fin.thenK; assumption) | (with_reducible (first | apply C.seqK | apply C.regionK); intro _ _) | (apply R.buildSlice0; exact rfl; intro bz) | (apply R.box; exact rfl; (simp only [Value.cells]; rfl); exact rfl; intro bx) | (apply R.alloc; (simp only [Value.cells]; rfl); exact rfl; intro ba) | (apply R.buildSlice; (exact a_prt); exact rfl; exact rfl; (exact a_fills); exact rfl; intro bl) | (refine a_sp ?_ ?_; (intro h; skip; rotate_left; intro h; skip; rotate_left)) | fail))
  (apply R.arr (H2 := hp5 ++ (hL5 ++ H)) (by (exact a_arrs)))
  (apply R.call; (exact a_evs); exact rfl; exact sync_K ho5; rintro _ M6 _ ⟨rfl, rfl, hp6, ho6, rfl⟩)
  obtain ⟨y1, y2, y3, y4, y5⟩ := hl5.sync
  rw [y1]
  have hS6 : (synD d5).S.length ≤ 64 := by
    have h1 := hl5.now_len
    have h2 : (synD d5).S = d5.now := by
      unfold synD
      rw [if_neg hl5.log.go.stop]
    rw [h2]
    exact h1
  have hfent := folE_drop hffol
  have hEf6 : EnL M6 (.slice Af fs.length cf) fs := hEf.mono hM5
  generalize synD d5 = d6 at ho6 y2 y3 y4 y5 hS6
  (repeat' (first | (apply R.step; (exact a_ok); exact rfl) | (first | (with_reducible first | apply R.nil | apply C.ret | apply C.block | apply C.skip | apply C.exit | apply Fin.thenRet | apply Fin.thenExit | apply Fin.blockNormal | apply Fin.blockRet | apply Fin.blockExit) | (with_reducible apply Fin.thenK; assumption) | (with_reducible apply C.seqR; intro _ _) | (with_reducible apply C.regionK; intro _ _) | (with_reducible apply Fin.blockOther; exact rfl)) | (first | (apply R.store; exact rfl; exact rfl; exact rfl; (exact a_at); (exact a_blit); exact rfl; (focus (simp [Value.oneCell']; done))) | (apply R.buildSlice0; exact rfl; intro bz) | (apply R.box; exact rfl; (simp only [Value.cells]; rfl); exact rfl; intro bx) | (apply R.alloc; (simp only [Value.cells]; rfl); exact rfl; intro ba) | (apply R.buildSlice; (exact a_prt); exact rfl; exact rfl; (exact a_fills); exact rfl; intro bl)) | (first | (apply R.guardT; assumption; exact rfl; exact rfl; exact rfl) | (apply R.guardF; assumption; exact rfl; exact rfl; exact rfl; exact rfl; exact rfl) | (apply R.guardU; assumption; exact rfl; exact rfl; exact rfl; exact rfl) | (apply R.guardDec; assumption; exact rfl; exact rfl; (intro h; skip; rotate_left; intro h; skip; rotate_left)) | (apply R.guardBeq; assumption; exact rfl; exact rfl; (intro h; skip; rotate_left; intro h; skip; rotate_left)) | (apply R.guardBne; assumption; exact rfl; exact rfl; (intro h; skip; rotate_left; intro h; skip; rotate_left)) | (apply R.guardNDec; assumption; exact rfl; exact rfl; (intro h; skip; rotate_left; intro h; skip; rotate_left)) | (apply R.guardNot; assumption; exact rfl; exact rfl; (intro h; skip; rotate_left; intro h; skip; rotate_left)) | (apply R.guardC; assumption; exact rfl; exact rfl; (intro h; skip; rotate_left; intro h; skip; rotate_left)))))
  ((apply C.condF; exact rfl); apply C.skip; (apply Fin.thenK; assumption))
  (repeat' (first | (apply R.step; (exact a_ok); exact rfl) | (first | (with_reducible first | apply R.nil | apply C.ret | apply C.block | apply C.skip | apply C.exit | apply Fin.thenRet | apply Fin.thenExit | apply Fin.blockNormal | apply Fin.blockRet | apply Fin.blockExit) | (with_reducible apply Fin.thenK; assumption) | (with_reducible apply C.seqR; intro _ _) | (with_reducible apply C.regionK; intro _ _) | (with_reducible apply Fin.blockOther; exact rfl)) | (first | (apply R.store; exact rfl; exact rfl; exact rfl; (exact a_at); (exact a_blit); exact rfl; (focus (simp [Value.oneCell']; done))) | (apply R.buildSlice0; exact rfl; intro bz) | (apply R.box; exact rfl; (simp only [Value.cells]; rfl); exact rfl; intro bx) | (apply R.alloc; (simp only [Value.cells]; rfl); exact rfl; intro ba) | (apply R.buildSlice; (exact a_prt); exact rfl; exact rfl; (exact a_fills); exact rfl; intro bl)) | (first | (apply R.guardT; assumption; exact rfl; exact rfl; exact rfl) | (apply R.guardF; assumption; exact rfl; exact rfl; exact rfl; exact rfl; exact rfl) | (apply R.guardU; assumption; exact rfl; exact rfl; exact rfl; exact rfl) | (apply R.guardDec; assumption; exact rfl; exact rfl; (intro h; skip; rotate_left; intro h; skip; rotate_left)) | (apply R.guardBeq; assumption; exact rfl; exact rfl; (intro h; skip; rotate_left; intro h; skip; rotate_left)) | (apply R.guardBne; assumption; exact rfl; exact rfl; (intro h; skip; rotate_left; intro h; skip; rotate_left)) | (apply R.guardNDec; assumption; exact rfl; exact rfl; (intro h; skip; rotate_left; intro h; skip; rotate_left)) | (apply R.guardNot; assumption; exact rfl; exact rfl; (intro h; skip; rotate_left; intro h; skip; rotate_left)) | (apply R.guardC; assumption; exact rfl; exact rfl; (intro h; skip; rotate_left; intro h; skip; rotate_left)))))
  apply C.arr (H2 := hL5 ++ (hp6 ++ H)) (by (exact a_arrs))
  apply C.seqCut (X := Int) (fun t => 1 ≤ t ∧ t ≤ 1000 ∧ ∀ e, fs.getLast? = some e → e.term ≤ t) (fun t => [(0, .int .i64 lim), (2, .slice Am more.length cm), (3, .int .i64 kp), (4, .int .i64 tn), (11, .pointer (some ⟨db, 0, none⟩)), (13, .pointer (some ⟨lb, 0, none⟩)), (15, .slice Af fs.length cf), (16, .int .u64 t)]) (fun _ => M6) (fun _ => hL5 ++ (hp6 ++ H))
  · by_cases h0 : 0 < fs.length
    · have hai : fs.length - 1 < fs.length := by omega
      obtain ⟨A9, c9, v9, e9, k9, k10, p9, q9⟩ := id hEf6
      cases e9
      obtain ⟨b', o, c, e', fr, Ai, ci, rfl, hMb, hcell, _, _, _, _⟩ := en_at p9 q9 hai
      have hll : (fs.length : Int) - 1 = ((fs.length - 1 : Nat) : Int) := by omega
      have hc1 : c[o + ((fs.length - 1 : Nat) : Int).toNat * 5 + 1]? = some (.int .u64 fs[fs.length - 1].term) := hcell 1 _ rfl
      have hgl : fs.getLast? = some fs[fs.length - 1] := getLast_len h0
      have htk := (entS_kind (hfent _ (List.getElem_mem hai))).2.2.2.2.1
      have htk2 := hft _ (List.getElem_mem hai)
      generalize fs[fs.length - 1] = x at hc1 hgl htk htk2
      (repeat' (first | (apply R.step; (apply Ok.move; exact rfl); exact rfl) | (apply R.step; (first | (apply Ok.gtTr; exact rfl; exact rfl; omega) | (apply Ok.subQ ((fs.length - 1 : Nat) : Int); exact rfl; exact rfl; exact hll; apply w64; omega; omega) | (apply Ok.indexAddr; exact rfl; exact rfl; omega; omega) | (apply Ok.loadP; exact rfl; exact rfl; exact hMb; exact hc1)); exact rfl) | refine a_go ?_ | (with_reducible apply Fin.thenK; assumption) | (with_reducible (first | apply C.seqK | apply C.regionK); intro _ _) | (apply R.buildSlice0; exact rfl; intro bz) | (apply R.box; exact rfl; (simp only [Value.cells]; rfl); exact rfl; intro bx) | (apply R.alloc; (simp only [Value.cells]; rfl); exact rfl; intro ba) | (apply R.buildSlice; (exact a_prt); exact rfl; exact rfl; (exact a_fills); exact rfl; intro bl) | (refine a_sp ?_ ?_; (intro h; skip; rotate_left; intro h; skip; rotate_left)) | fail))
      refine Fin.join (x.term : Int) ⟨htk.1, by omega, fun e he => by rw [hgl] at he; cases he; exact Int.le_refl _⟩ ?_ rfl rfl
      (exact a_subs)
    · have h00 : fs = [] := List.eq_nil_of_length_eq_zero (by omega)
      (repeat' (first | (apply R.step; (apply Ok.move; exact rfl); exact rfl) | (apply R.step; (first | (apply Ok.gtF; exact rfl; exact rfl; omega)); exact rfl) | refine a_go ?_ | (with_reducible apply Fin.thenK; assumption) | (with_reducible (first | apply C.seqK | apply C.regionK); intro _ _) | (apply R.buildSlice0; exact rfl; intro bz) | (apply R.box; exact rfl; (simp only [Value.cells]; rfl); exact rfl; intro bx) | (apply R.alloc; (simp only [Value.cells]; rfl); exact rfl; intro ba) | (apply R.buildSlice; (exact a_prt); exact rfl; exact rfl; (exact a_fills); exact rfl; intro bl) | (refine a_sp ?_ ?_; (intro h; skip; rotate_left; intro h; skip; rotate_left)) | fail))
      refine Fin.join (1 : Int) ⟨by decide, by decide, fun e he => by rw [h00] at he; cases he⟩ ?_ rfl rfl
      (exact a_subs)
  rintro t ⟨ht1, ht2, htl⟩
  have hMb := hMa.trans_ hM5
  have hi3 : 3 + (fs.length : Int) = ((3 + fs.length : Nat) : Int) := by omega
  (repeat' (first | (apply R.step; (apply Ok.move; exact rfl); exact rfl) | (apply R.step; (first | (apply Ok.convB; exact rfl; apply wu64; omega; omega) | (apply Ok.addQ ((3 + fs.length : Nat) : Int); exact rfl; exact rfl; exact hi3; apply wu64; omega; omega)); exact rfl) | refine a_go ?_ | (with_reducible apply Fin.thenK; assumption) | (with_reducible (first | apply C.seqK | apply C.regionK); intro _ _) | (apply R.buildSlice0; exact rfl; intro bz) | (apply R.box; exact rfl; (simp only [Value.cells]; rfl); exact rfl; intro bx) | (apply R.alloc; (simp only [Value.cells]; rfl); exact rfl; intro ba) | (apply R.buildSlice; (exact a_prt); exact rfl; exact rfl; (exact a_fills); exact rfl; intro bl) | (refine a_sp ?_ ?_; (intro h; skip; rotate_left; intro h; skip; rotate_left)) | fail))
  (apply R.call; (exact a_evs); exact rfl; exact hEntries_K (i := ((3 + fs.length : Nat) : Int)) (t := t) (m := 20) (hm.mono hMb) hmr (by omega) (by omega) (by decide); rintro rv M7 _ ⟨hrr, hor, hM7, rfl⟩)
  have hrl : (more.take (20 : Int).toNat).length ≤ 20 := by rw [List.length_take]; exact Nat.min_le_left _ _
  have hrfol : folE fs.getLast? (handE ((3 + fs.length : Nat) : Int) t (more.take (20 : Int).toNat)) := handE_fol _ _ _ _ (by omega) (by omega) (by omega) (by omega) (fun x hx => by
    refine ⟨?_, by have := htl x hx; omega⟩
    rw [List.getLast?_eq_getElem?] at hx
    have hlt := (List.getElem?_eq_some_iff.1 hx).1
    have := hfix _ _ hx
    omega)
  have hrle := handE_len (more.take (20 : Int).toNat) ((3 + fs.length : Nat) : Int) t
  generalize handE ((3 + fs.length : Nat) : Int) t (more.take (20 : Int).toNat) = rs at hor hrfol hrle
  obtain ⟨Ar, cr, rfl, hcr, hcr2⟩ := hor.form
  (apply R.ice (hp := hrr) (Arr.all _); intro M8 hM8 hin8)
  have hEr : EnL M8 (.slice Ar rs.length cr) rs := (hor.mono hM8).enL hin8
  have hM68 := hM7.trans_ hM8
  have hrent := folE_drop hrfol
  obtain ⟨A9, c9, v9, e9, k9, k10, p9, q9⟩ := id hEr
  cases e9
  (repeat' (first | refine a_go ?_ | (with_reducible apply Fin.thenK; assumption) | (with_reducible (first | apply C.seqK | apply C.regionK); intro _ _) | (apply R.buildSlice0; exact rfl; intro bz) | (apply R.box; exact rfl; (simp only [Value.cells]; rfl); exact rfl; intro bx) | (apply R.alloc; (simp only [Value.cells]; rfl); exact rfl; intro ba) | (apply R.buildSlice; (exact a_prt); exact rfl; exact rfl; (exact a_fills); exact rfl; intro bl) | (refine a_sp ?_ ?_; (intro h; skip; rotate_left; intro h; skip; rotate_left)) | fail))
  apply C.loop (fun y : GxX => (y.i : Int) = y.ii ∧ y.i ≤ rs.length ∧ M8.le y.M ∧ SgO y.M lb db lim y.ss y.hL ∧ DkO y.M db y.d y.hp ∧ LogE y.d y.ss (fs ++ rs.take y.i) (24 - y.i) ∧ CrV (vwG y.d.room) y.d (candG fs rs y.i) ∧ y.d.ps.length = y.i ∧ y.d.S = d6.S)
    (fun y => [(0, .int .i64 lim), (3, .int .i64 kp), (4, .int .i64 tn), (11, .pointer (some ⟨db, 0, none⟩)), (13, .pointer (some ⟨lb, 0, none⟩)), (15, .slice Af fs.length cf), (17, .slice Ar rs.length cr), (18, .int .i64 y.ii)]) (fun y => y.M) (fun y => y.hL ++ (y.hp ++ H)) (fun y => rs.length - y.i) ⟨0, 0, d6, s5, hL5, hp6, M8⟩
  · exact ⟨rfl, Nat.zero_le _, Mem.le_refl _, hg5.mono hM68, ho6.mono hM68, by rw [List.take_zero, List.append_nil]; exact y2.less (by omega), by rw [candG_zero]; exact y5, by rw [y3]; rfl, rfl⟩
  · (exact a_subs)
  · exact rfl
  · exact rfl
  rintro ⟨i, ii, d, ss, hL, hp, M9⟩ ⟨hii, hi, hM9, hg, ho, hl9, hc9, hps, hS⟩
  dsimp only at hii hi hM9 hg ho hl9 hc9 hps hS ⊢
  have hrl20 : rs.length ≤ 20 := by omega
  by_cases hlt : i < rs.length
  · obtain ⟨b', o, c, e', fr, Ai, ci, hAr, hMb1, hcell, _, i1, i2, i3⟩ := en_at p9 q9 hlt
    rw [show o + i * 5 = o + ii.toNat * 5 by omega] at hcell
    have hE := hrent _ (List.getElem_mem hlt)
    have htk : rs.take (i + 1) = rs.take i ++ [rs[i]] := List.take_succ_eq_append_getElem hlt
    have hpre : prevE (lastO ss) rs[i] := by
      rw [lastO_of hl9]
      exact folE_at hrfol hlt
    generalize rs[i] = x at hcell i1 i3 hE htk hpre
    have hMb1' := hM9.2.2 _ _ hMb1
    have hl9' : LogE d ss (fs ++ rs.take i) (24 - (i + 1) + 1) := by
      rw [show 24 - (i + 1) + 1 = 24 - i by omega]
      exact hl9
    rw [hAr]
    (repeat' (first | (apply R.step; (apply Ok.move; exact rfl); exact rfl) | (apply R.step; (first | (apply Ok.ltTr; exact rfl; exact rfl; omega) | (apply Ok.ltF; exact rfl; exact rfl; omega) | (apply Ok.gtTr; exact rfl; exact rfl; omega) | (apply Ok.gtF; exact rfl; exact rfl; omega) | (apply Ok.geTr; exact rfl; exact rfl; omega) | (apply Ok.geF; exact rfl; exact rfl; omega) | (apply Ok.leTr; exact rfl; exact rfl; omega) | (apply Ok.leF; exact rfl; exact rfl; omega) | (apply Ok.neIT; exact rfl; exact rfl; omega) | (apply Ok.eqIF; exact rfl; exact rfl; omega)); exact rfl) | (apply R.step; (first | (apply Ok.indexAddr; exact rfl; exact rfl; omega; omega) | (apply Ok.loadAggP (vs := ecells x (.slice Ai x.data.length ci)); exact rfl; exact rfl; exact hMb1'; exact rfl; exact hcell)); exact rfl) | refine a_go ?_ | (with_reducible apply Fin.thenK; assumption) | (with_reducible (first | apply C.seqK | apply C.regionK); intro _ _) | (apply R.buildSlice0; exact rfl; intro bz) | (apply R.box; exact rfl; (simp only [Value.cells]; rfl); exact rfl; intro bx) | (apply R.alloc; (simp only [Value.cells]; rfl); exact rfl; intro ba) | (apply R.buildSlice; (exact a_prt); exact rfl; exact rfl; (exact a_fills); exact rfl; intro bl) | (refine a_sp ?_ ?_; (intro h; skip; rotate_left; intro h; skip; rotate_left)) | fail))
    apply R.ice (hp := [_]) (H1 := hL ++ (hp ++ H)) (by (exact a_art))
    intro M10 hM10 hin10
    have hE1 : EnL M10 (.slice (some ⟨bl, 0, none⟩) 1 1) [x] := builtE (v := .slice Ai x.data.length ci) hin10 ⟨Ai, ci, rfl, i1, i2, i3.mono (hM9.trans_ hM10)⟩
    (apply R.call; (exact a_evs); exact rfl; exact sappend_C (k := 24 - (i + 1)) (lim := lim) hlim2 hl9' hc9 (List.mem_map.2 ⟨i, List.mem_range.2 (Nat.lt_succ_self _), rfl⟩) hE hpre (hg.mono hM10) hE1 (ho.mono hM10); rintro _ M11 _ ⟨rfl, hM11, d', ss', hL', hp', g1, g2, g3, g4, g5, g6, g7, rfl⟩)
    (repeat' (first | refine a_go ?_ | (with_reducible apply Fin.thenK; assumption) | (with_reducible (first | apply C.seqK | apply C.regionK); intro _ _) | (apply R.buildSlice0; exact rfl; intro bz) | (apply R.box; exact rfl; (simp only [Value.cells]; rfl); exact rfl; intro bx) | (apply R.alloc; (simp only [Value.cells]; rfl); exact rfl; intro ba) | (apply R.buildSlice; (exact a_prt); exact rfl; exact rfl; (exact a_fills); exact rfl; intro bl) | (refine a_sp ?_ ?_; (intro h; skip; rotate_left; intro h; skip; rotate_left)) | fail))
    rw [List.append_assoc, ← htk] at g1 g2
    rw [← candG_succ, ← g4] at g2
    refine Fin.again (⟨i + 1, ii + 1, d', ss', hL', hp', M11⟩ : GxX) ⟨by dsimp only; omega, by dsimp only; omega, hM9.trans_ (hM10.trans_ hM11), g6, g7, g1, g2, by dsimp only; omega, g5.trans hS⟩ (by dsimp only; omega) ?_ rfl rfl
    (exact a_subs)
  · have hie : i = rs.length := by omega
    subst hie
    rw [List.take_length] at hl9
    (repeat' (first | (apply R.step; (apply Ok.move; exact rfl); exact rfl) | (apply R.step; (first | (apply Ok.ltTr; exact rfl; exact rfl; omega) | (apply Ok.ltF; exact rfl; exact rfl; omega) | (apply Ok.gtTr; exact rfl; exact rfl; omega) | (apply Ok.gtF; exact rfl; exact rfl; omega) | (apply Ok.geTr; exact rfl; exact rfl; omega) | (apply Ok.geF; exact rfl; exact rfl; omega) | (apply Ok.leTr; exact rfl; exact rfl; omega) | (apply Ok.leF; exact rfl; exact rfl; omega) | (apply Ok.neIT; exact rfl; exact rfl; omega) | (apply Ok.eqIF; exact rfl; exact rfl; omega)); exact rfl) | refine a_go ?_ | (with_reducible apply Fin.thenK; assumption) | (with_reducible (first | apply C.seqK | apply C.regionK); intro _ _) | (apply R.buildSlice0; exact rfl; intro bz) | (apply R.box; exact rfl; (simp only [Value.cells]; rfl); exact rfl; intro bx) | (apply R.alloc; (simp only [Value.cells]; rfl); exact rfl; intro ba) | (apply R.buildSlice; (exact a_prt); exact rfl; exact rfl; (exact a_fills); exact rfl; intro bl) | (refine a_sp ?_ ?_; (intro h; skip; rotate_left; intro h; skip; rotate_left)) | fail))
    apply R.arr (H2 := hp ++ (hL ++ H)) (by (exact a_arrs))
    (apply R.call; (exact a_evs); exact rfl; exact crash_K (keep := kp) (torn := tn) ho (by omega); rintro _ M10 _ ⟨rfl, hM10, hp5, ho5, rfl⟩)
    have hsz := crash_sz d kp tn
    have hns := now_sz (crashD d kp tn)
    have hszd : szD d = d.S.length + d.ps.length := rfl
    rw [hS] at hszd
    (repeat' (first | refine a_go ?_ | (with_reducible apply Fin.thenK; assumption) | (with_reducible (first | apply C.seqK | apply C.regionK); intro _ _) | (apply R.buildSlice0; exact rfl; intro bz) | (apply R.box; exact rfl; (simp only [Value.cells]; rfl); exact rfl; intro bx) | (apply R.alloc; (simp only [Value.cells]; rfl); exact rfl; intro ba) | (apply R.buildSlice; (exact a_prt); exact rfl; exact rfl; (exact a_fills); exact rfl; intro bl) | (refine a_sp ?_ ?_; (intro h; skip; rotate_left; intro h; skip; rotate_left)) | fail))
    (apply R.call; (exact a_evs); exact rfl; exact sopen_C (lim := lim) hlim2 hc9 (fun x hx => by obtain ⟨j, _, rfl⟩ := candG_mem hx; rfl) (by omega) ho5; rintro _ M11 _ ⟨hM11, ss2, lb2, hL2, hp2, hcd, hok2, rfl, hg2', rfl⟩)
    obtain ⟨j, hj, hje⟩ := candG_mem hcd
    have hlist : listG ss2 = fs ++ rs.take j := congrArg Prod.snd hje
    have hjl : (fs ++ rs.take j).length = fs.length + j := by rw [List.length_append, List.length_take]; omega
    (repeat' (first | (apply R.step; (apply Ok.move; exact rfl); exact rfl) | (apply R.step; (apply Ok.eqPN; exact rfl; exact rfl); exact rfl) | refine a_go ?_ | (with_reducible apply Fin.thenK; assumption) | (with_reducible (first | apply C.seqK | apply C.regionK); intro _ _) | (apply R.buildSlice0; exact rfl; intro bz) | (apply R.box; exact rfl; (simp only [Value.cells]; rfl); exact rfl; intro bx) | (apply R.alloc; (simp only [Value.cells]; rfl); exact rfl; intro ba) | (apply R.buildSlice; (exact a_prt); exact rfl; exact rfl; (exact a_fills); exact rfl; intro bl) | (refine a_sp ?_ ?_; (intro h; skip; rotate_left; intro h; skip; rotate_left)) | fail))
    (apply R.call; (exact a_evs); exact rfl; exact slist_KL (H1 := hp2 ++ (hL ++ H)) hg2' hok2 (by rw [hlist, hjl]; omega) (by (exact a_arrs)); rintro gv M12 _ ⟨hEg, hM12, rfl⟩)
    rw [hlist] at hEg
    have hMx := hM68.trans_ (hM9.trans_ (hM10.trans_ (hM11.trans_ hM12)))
    obtain ⟨Ag, cg, vg, rfl, _, _, _, _⟩ := id hEg
    rw [hjl] at hEg ⊢
    (repeat' (first | refine a_go ?_ | (with_reducible apply Fin.thenK; assumption) | (with_reducible (first | apply C.seqK | apply C.regionK); intro _ _) | (apply R.buildSlice0; exact rfl; intro bz) | (apply R.box; exact rfl; (simp only [Value.cells]; rfl); exact rfl; intro bx) | (apply R.alloc; (simp only [Value.cells]; rfl); exact rfl; intro ba) | (apply R.buildSlice; (exact a_prt); exact rfl; exact rfl; (exact a_fills); exact rfl; intro bl) | (refine a_sp ?_ ?_; (intro h; skip; rotate_left; intro h; skip; rotate_left)) | fail))
    (apply R.call; (exact a_evs); exact rfl; exact copy_KP (hEf6.mono hMx) (fits_small hfent (by omega)); rintro cv M13 _ ⟨hrc, hoc, hM13, rfl⟩)
    obtain ⟨vsc, hotc, hpvc⟩ := id hoc
    obtain ⟨Ac, cc, rfl, _, _⟩ := hotc.form
    have hEr10 := hEr.mono (hM9.trans_ (hM10.trans_ (hM11.trans_ (hM12.trans_ hM13))))
    obtain ⟨A7, c7, vs7, e7, _, _, p7, q7⟩ := id hEr10
    cases e7
    obtain ⟨_, len7, one7⟩ := rowE_cells q7
    (repeat' (first | refine a_go ?_ | (with_reducible apply Fin.thenK; assumption) | (with_reducible (first | apply C.seqK | apply C.regionK); intro _ _) | (apply R.buildSlice0; exact rfl; intro bz) | (apply R.box; exact rfl; (simp only [Value.cells]; rfl); exact rfl; intro bx) | (apply R.alloc; (simp only [Value.cells]; rfl); exact rfl; intro ba) | (apply R.buildSlice; (exact a_prt); exact rfl; exact rfl; (exact a_fills); exact rfl; intro bl) | (refine a_sp ?_ ?_; (intro h; skip; rotate_left; intro h; skip; rotate_left)) | fail))
    (apply R.appendT; exact rfl; exact rfl; exact hotc; (exact a_tk); exact p7.rd; exact len7; exact one7; omega; exact rfl; decide; decide; exact rfl; rintro wv hrw hotw)
    have how : OwnP M13 wv (fs ++ rs) hrw := OwnT.joined hotw hpvc q7
    (apply R.ice (hp := hrw) (Arr.all _); intro M14 hM14 hin14)
    have hEw := (how.mono hM14).enL hin14
    obtain ⟨Aw, cw, rfl, _, _⟩ := hotw.form
    have hEk := hEw.takeK2 (k := fs.length + j) (by rw [List.length_append]; omega)
    rw [show (fs ++ rs).take (fs.length + j) = fs ++ rs.take j from List.take_length_add_append j] at hEk
    (repeat' (first | (apply R.step; (apply Ok.move; exact rfl); exact rfl) | (apply R.step; (first | (apply Ok.ltTr; exact rfl; exact rfl; omega) | (apply Ok.ltF; exact rfl; exact rfl; omega) | (apply Ok.gtTr; exact rfl; exact rfl; omega) | (apply Ok.gtF; exact rfl; exact rfl; omega) | (apply Ok.geTr; exact rfl; exact rfl; omega) | (apply Ok.geF; exact rfl; exact rfl; omega) | (apply Ok.leTr; exact rfl; exact rfl; omega) | (apply Ok.leF; exact rfl; exact rfl; omega) | (apply Ok.neIT; exact rfl; exact rfl; omega) | (apply Ok.eqIF; exact rfl; exact rfl; omega)); exact rfl) | (apply R.step; (apply Ok.sliceHi; exact rfl; exact rfl; omega; omega); exact rfl) | refine a_go ?_ | (with_reducible apply Fin.thenK; assumption) | (with_reducible (first | apply C.seqK | apply C.regionK); intro _ _) | (apply R.buildSlice0; exact rfl; intro bz) | (apply R.box; exact rfl; (simp only [Value.cells]; rfl); exact rfl; intro bx) | (apply R.alloc; (simp only [Value.cells]; rfl); exact rfl; intro ba) | (apply R.buildSlice; (exact a_prt); exact rfl; exact rfl; (exact a_fills); exact rfl; intro bl) | (refine a_sp ?_ ?_; (intro h; skip; rotate_left; intro h; skip; rotate_left)) | fail))
    rw [Int.toNat_natCast]
    have hEg14 := (hEg.mono hM13).mono hM14
    (apply R.call; (exact a_evs); exact rfl; exact sents_K hEg14 hEk; rintro _ M15 _ ⟨rfl, rfl, rfl⟩)
    rw [decide_eq_true rfl]
    (repeat' (first | refine a_go ?_ | (with_reducible apply Fin.thenK; assumption) | (with_reducible (first | apply C.seqK | apply C.regionK); intro _ _) | (apply R.buildSlice0; exact rfl; intro bz) | (apply R.box; exact rfl; (simp only [Value.cells]; rfl); exact rfl; intro bx) | (apply R.alloc; (simp only [Value.cells]; rfl); exact rfl; intro ba) | (apply R.buildSlice; (exact a_prt); exact rfl; exact rfl; (exact a_fills); exact rfl; intro bl) | (refine a_sp ?_ ?_; (intro h; skip; rotate_left; intro h; skip; rotate_left)) | fail))
    (apply Fin.returnA (H2 := H); assumption; (first | exact .inl rfl | exact .inr rfl); exact rfl; (exact a_res); (simp only [retv]; rfl); (exact a_arr))
    exact ⟨rfl, hMb.trans_ (hMx.trans_ (hM13.trans_ hM14))⟩
end Go.Sx
end
