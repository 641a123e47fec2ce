/- Sessions: the plain laws of SessionPlays; the reference's Expire and Register. -/
import Derived.Test.YtohdhkddnnokfaaE25
import Derived.Test.YtohdhkddnnokfaaSxV
namespace Go.Sx
open Go Go.Proofs Go.RowKit
/-- the table and the reference have the same sessions -/
def Rel (L : List (Int × Ses)) (ys : List Ses) : Prop := L.map (fun p => p.2.d) = ys.map Ses.d ∧ ∀ p ∈ L, p.1 = p.2.x.id
theorem Rel.len {L : List (Int × Ses)} {ys : List Ses} (h : Rel L ys) : L.length = ys.length := by
  have := congrArg List.length h.1
  rwa [List.length_map, List.length_map] at this
theorem Rel.at_ {L : List (Int × Ses)} {ys : List Ses} (h : Rel L ys) {i : Nat} (hi : i < ys.length) : ∃ hl : i < L.length, L[i].2.d = ys[i].d ∧ L[i].1 = ys[i].x.id := by
  have hl : i < L.length := by rw [h.len]; exact hi
  have h1 : (L.map (fun p => p.2.d))[i]? = (ys.map Ses.d)[i]? := by rw [h.1]
  rw [List.getElem?_map, List.getElem?_map, List.getElem?_eq_getElem hl, List.getElem?_eq_getElem hi] at h1
  have h2 := Option.some.inj h1
  exact ⟨hl, h2, (h.2 _ (List.getElem_mem hl)).trans (congrArg SesD.id h2)⟩
theorem Rel.keys {L : List (Int × Ses)} {ys : List Ses} (h : Rel L ys) : keysT L = ys.map (fun s => s.x.id) := by
  have h1 : L.map (fun p => p.2.d.id) = ys.map (fun s => s.d.id) := by
    have := congrArg (List.map SesD.id) h.1
    rwa [List.map_map, List.map_map] at this
  have h2 : keysT L = L.map (fun p => p.2.d.id) := List.map_congr_left fun p hp => h.2 p hp
  rw [h2, h1]
  rfl
theorem Rel.set {L : List (Int × Ses)} {ys : List Ses} (h : Rel L ys) {i : Nat} {k : Int} {s y : Ses} (hd : s.d = y.d) (hk : k = s.x.id) : Rel (L.set i (k, s)) (ys.set i y) := by
  refine ⟨by rw [List.map_set, List.map_set, h.1, hd], fun p hp => ?_⟩
  rcases List.mem_or_eq_of_mem_set hp with hp | rfl
  · exact h.2 p hp
  · exact hk
theorem Rel.take {L : List (Int × Ses)} {ys : List Ses} (h : Rel L ys) (i : Nat) : Rel (L.take i) (ys.take i) := ⟨by rw [List.map_take, List.map_take, h.1], fun p hp => h.2 p (List.mem_of_mem_take hp)⟩
theorem Rel.drop {L : List (Int × Ses)} {ys : List Ses} (h : Rel L ys) (i : Nat) : Rel (L.drop i) (ys.drop i) := ⟨by rw [List.map_drop, List.map_drop, h.1], fun p hp => h.2 p (List.mem_of_mem_drop hp)⟩
theorem Rel.app {L L' : List (Int × Ses)} {ys ys' : List Ses} (h : Rel L ys) (h' : Rel L' ys') : Rel (L ++ L') (ys ++ ys') := ⟨by rw [List.map_append, List.map_append, h.1, h'.1], fun p hp => by
  rcases List.mem_append.1 hp with hp | hp
  · exact h.2 p hp
  · exact h'.2 p hp⟩
theorem Rel.cons {L : List (Int × Ses)} {ys : List Ses} (h : Rel L ys) {k : Int} {s y : Ses} (hd : s.d = y.d) (hk : k = s.x.id) : Rel ((k, s) :: L) (y :: ys) := ⟨by rw [List.map_cons, List.map_cons, h.1, hd], fun p hp => by
  rcases List.mem_cons.1 hp with rfl | hp
  · exact hk
  · exact h.2 p hp⟩
theorem Rel.filter {L : List (Int × Ses)} {ys : List Ses} (h : Rel L ys) (f : SesD → Bool) : Rel (L.filter (fun p => f p.2.d)) (ys.filter (fun s => f s.d)) := by
  refine ⟨?_, fun p hp => h.2 p (List.mem_filter.1 hp).1⟩
  have h1 := List.filter_map (f := fun p : Int × Ses => p.2.d) (p := f) (l := L)
  have h2 := List.filter_map (f := Ses.d) (p := f) (l := ys)
  rw [h.1, h2] at h1
  exact h1.symm
/-- what all of the reference's have, all of the table's have -/
theorem Rel.all {L : List (Int × Ses)} {ys : List Ses} (h : Rel L ys) {p : SesD → Prop} (hp : ∀ s ∈ ys, p s.d) : ∀ q ∈ L, p q.2.d := by
  intro q hq
  have h1 : q.2.d ∈ ys.map Ses.d := h.1 ▸ List.mem_map.2 ⟨q, hq, rfl⟩
  obtain ⟨s, hs, h2⟩ := List.mem_map.1 h1
  rw [← h2]
  exact hp s hs
theorem find_case (ys : List Ses) (id : Int) : (findI ys id = -1 ∧ ∀ s ∈ ys, s.x.id ≠ id) ∨ ∃ i, ∃ h : i < ys.length, findI ys id = (i : Int) ∧ ys[i].x.id = id := by
  unfold findI
  cases h : ys.findIdx? (fun s => s.x.id = id) with
  | none =>
    refine .inl ⟨rfl, fun s hs => ?_⟩
    have := List.findIdx?_eq_none_iff.1 h s hs
    simpa using this
  | some i =>
    obtain ⟨h1, h2, _⟩ := List.findIdx?_eq_some_iff_getElem.1 h
    exact .inr ⟨i, h1, rfl, by simpa using h2⟩
theorem pos_at {l : List Int} (hs : sortS l) {i : Nat} (hi : i < l.length) : posS l l[i] = i :=
  posS_eq (Nat.le_of_lt hi) (fun a h ha => sort_lt hs hi ha) (fun _ => Int.lt_irrefl _)
theorem keys_len {υ : Type} (l : List (Int × υ)) : (keysT l).length = l.length := List.length_map ..
theorem keys_get {υ : Type} (l : List (Int × υ)) {i : Nat} (h : i < l.length) (h' : i < (keysT l).length) : (keysT l)[i] = l[i].1 := List.getElem_map ..
theorem pos_key {υ : Type} {l : List (Int × υ)} (hs : sortS (keysT l)) {i : Nat} (hi : i < l.length) {k : Int} (hk : l[i].1 = k) : posS (keysT l) k = i := by
  have h' : i < (keysT l).length := by rw [keys_len]; exact hi
  have := pos_at hs h'
  rwa [keys_get l hi, hk] at this
theorem key_in {υ : Type} {l : List (Int × υ)} {i : Nat} (hi : i < l.length) {k : Int} (hk : l[i].1 = k) : k ∈ keysT l := keys_mem.2 ⟨l[i].2, by rw [← hk]; exact List.getElem_mem hi⟩
theorem put_at {υ : Type} {most : Int} {l : List (Int × υ)} (hs : sortS (keysT l)) {i : Nat} (hi : i < l.length) {k : Int} (hk : l[i].1 = k) (x : υ) : putT most l k x = l.set i (k, x) := by
  unfold putT
  rw [if_pos (key_in hi hk), pos_key hs hi hk, List.set_eq_take_append_cons_drop, if_pos hi]
theorem drop_at_ {υ : Type} {l : List (Int × υ)} (hs : sortS (keysT l)) {i : Nat} (hi : i < l.length) {k : Int} (hk : l[i].1 = k) : dropT l k = l.take i ++ l.drop (i + 1) := by
  unfold dropT
  rw [if_pos (key_in hi hk), pos_key hs hi hk]
theorem get_at {υ : Type} {l : List (Int × υ)} (hs : sortS (keysT l)) {i : Nat} (hi : i < l.length) {k : Int} (hk : l[i].1 = k) : getT l k = some l[i].2 := (mem_get hs).2 (by rw [← hk]; exact List.getElem_mem hi)
theorem Rel.none {L : List (Int × Ses)} {ys : List Ses} (h : Rel L ys) {id : Int} (hn : ∀ s ∈ ys, s.x.id ≠ id) : id ∉ keysT L := by
  rw [h.keys]
  intro h1
  obtain ⟨s, hs, h2⟩ := List.mem_map.1 h1
  exact hn s hs h2
/-- those that are dropped, one behind the other, are just those that are gone -/
theorem drop_filter {υ : Type} {l : List (Int × υ)} (hs : sortS (keysT l)) (k : Int) : dropT l k = l.filter (fun p => decide (p.1 ≠ k)) := by
  by_cases hk : k ∈ keysT l
  · obtain ⟨x, hx⟩ := keys_mem.1 hk
    obtain ⟨i, hi, he⟩ := List.getElem_of_mem hx
    have hk1 : l[i].1 = k := by rw [he]
    have hkl : ∀ (j : Nat) (h : j < l.length), (keysT l)[j]'(by rw [keys_len]; exact h) = l[j].1 := fun j h => keys_get l h _
    rw [drop_at_ hs hi hk1]
    have h1 : l = l.take i ++ l[i] :: l.drop (i + 1) := by rw [← List.drop_eq_getElem_cons hi, List.take_append_drop]
    conv => rhs; rw [h1, List.filter_append, List.filter_cons_of_neg (by simp [hk1])]
    have h2 : ∀ (j : Nat) (h : j < l.length), j ≠ i → l[j].1 ≠ k := fun j h hne he2 => by
      have h3 := pos_key hs hi hk1
      have h4 := pos_key hs h he2
      omega
    congr 1
    · refine (List.filter_eq_self.2 fun p hp => ?_).symm
      obtain ⟨j, hj, rfl⟩ := List.getElem_of_mem hp
      rw [List.length_take] at hj
      rw [List.getElem_take]
      exact decide_eq_true (h2 j (by omega) (by omega))
    · refine (List.filter_eq_self.2 fun p hp => ?_).symm
      obtain ⟨j, hj, rfl⟩ := List.getElem_of_mem hp
      rw [List.length_drop] at hj
      rw [List.getElem_drop]
      exact decide_eq_true (h2 _ (by omega) (by omega))
  · unfold dropT
    rw [if_neg hk]
    refine (List.filter_eq_self.2 fun p hp => ?_).symm
    have h9 : p.1 ≠ k := fun h => hk (keys_mem.2 ⟨p.2, by rw [← h]; exact hp⟩)
    exact decide_eq_true h9
theorem fold_filter {υ : Type} (ks : List Int) {l : List (Int × υ)} (hs : sortS (keysT l)) : ks.foldl (fun l k => dropT l k) l = l.filter (fun p => decide (p.1 ∉ ks)) := by
  induction ks generalizing l with
  | nil => exact (List.filter_eq_self.2 fun p _ => decide_eq_true List.not_mem_nil).symm
  | cons k ks ih =>
    rw [List.foldl_cons, ih (drop_sort hs), drop_filter hs, List.filter_filter]
    refine List.filter_congr fun p _ => ?_
    by_cases h1 : p.1 = k <;> by_cases h2 : p.1 ∈ ks <;> simp [h1, h2]
theorem dropE_filter (now life : Int) {l : List (Int × SeV)} (hs : sortS (keysT l)) : dropE now life l l = l.filter (fun p => !oldB now life p) := by
  unfold dropE
  rw [fold_filter _ hs]
  refine List.filter_congr fun p hp => ?_
  cases hb : oldB now life p with
  | true =>
    have : p.1 ∈ goneS now life l := gone_mem.2 ⟨p.2, hp, hb⟩
    simp [this]
  | false =>
    have : p.1 ∉ goneS now life l := fun h => by
      obtain ⟨x, h1, h2⟩ := gone_mem.1 h
      have h3 := (mem_get hs).2 h1
      have h4 := (mem_get hs).2 hp
      rw [h3] at h4
      injection h4 with h4
      rw [h4] at h2
      have h5 : oldB now life p = true := h2
      rw [hb] at h5
      cases h5
    simp [this]
def oldD (now life : Int) (s : SesD) : Bool := decide (s.us < now) && decide (life < now - s.us)
theorem dropE_ses (now life : Int) {L : List (Int × Ses)} (hs : sortS (keysT (mapX L))) : dropE now life (mapX L) (mapX L) = mapX (L.filter (fun p => !oldD now life p.2.d)) := by
  rw [dropE_filter now life hs]
  unfold mapX
  rw [List.filter_map]
  rfl
theorem gone_ses (now life : Int) {L : List (Int × Ses)} {ys : List Ses} (h : Rel L ys) : goneS now life (mapX L) = (ys.filter (fun s => oldD now life s.d)).map (fun s => s.x.id) := by
  have h1 : goneS now life (mapX L) = keysT (L.filter (fun p => oldD now life p.2.d)) := by
    unfold goneS mapX keysT
    rw [List.filter_map, List.map_map]
    rfl
  rw [h1, (h.filter (oldD now life)).keys]
/-- the least lately used, on the reference's side -/
def sxL (ys : List Ses) : List (Int × SeV) := ys.map fun s => (s.x.id, s.x)
theorem eldF_congr {o : Option (Int × Int)} {a b : Int × SeV} (h1 : a.1 = b.1) (h2 : a.2.us = b.2.us) : eldF o a = eldF o b := by
  unfold eldF
  rw [h1, h2]
theorem fold_congr2 : ∀ {a b : List (Int × SeV)} {o : Option (Int × Int)}, a.map (fun r => (r.1, r.2.us)) = b.map (fun r => (r.1, r.2.us)) → a.foldl eldF o = b.foldl eldF o
  | [], b, o, h => by
    cases b with
    | nil => rfl
    | cons _ _ => simp at h
  | x :: a, b, o, h => by
    cases b with
    | nil => simp at h
    | cons y b =>
      rw [List.map_cons, List.map_cons] at h
      injection h with h1 h2
      injection h1 with h3 h4
      rw [List.foldl_cons, List.foldl_cons, eldF_congr h3 h4]
      exact fold_congr2 h2
theorem Rel.eld {L : List (Int × Ses)} {ys : List Ses} (h : Rel L ys) : eldO (mapX L) = eldO (sxL ys) := by
  refine fold_congr2 ?_
  unfold mapX sxL
  rw [List.map_map, List.map_map]
  have h1 : L.map (fun p => (p.2.d.id, p.2.d.us)) = ys.map (fun s => (s.d.id, s.d.us)) := by
    have := congrArg (List.map fun d : SesD => (d.id, d.us)) h.1
    rwa [List.map_map, List.map_map] at this
  refine Eq.trans (List.map_congr_left fun p hp => ?_) h1
  show (p.1, p.2.x.us) = (p.2.x.id, p.2.x.us)
  rw [h.2 p hp]
theorem sxL_take (ys : List Ses) {i : Nat} (hi : i < ys.length) : eldO (sxL (ys.take (i + 1))) = eldF (eldO (sxL (ys.take i))) (ys[i].x.id, ys[i].x) := by
  have : sxL (ys.take (i + 1)) = sxL (ys.take i) ++ [(ys[i].x.id, ys[i].x)] := by
    unfold sxL
    rw [List.take_succ_eq_append_getElem hi, List.map_append]
    rfl
  rw [this, eldO_snoc]
/-- what a session is registered as -/
def frS (id now : Int) : Ses := ⟨⟨id, 0, now, none, 0, 0⟩, []⟩
def insS (ys : List Ses) (k : Nat) (id now : Int) : List Ses := ys.take k ++ frS id now :: ys.drop k
theorem reg_in {most id now : Int} {L : List (Int × Ses)} {ys : List Ses} (h : Rel L ys) (hs : sortS (keysT L)) {i : Nat} (hi : i < ys.length) (hid : ys[i].x.id = id) :
    ∃ hl : i < L.length, regE most (mapX L) id now = mapX (L.set i (id, ⟨{ L[i].2.x with us := now }, L[i].2.ks⟩)) ∧ Rel (L.set i (id, ⟨{ L[i].2.x with us := now }, L[i].2.ks⟩)) (ys.set i ⟨{ ys[i].x with us := now }, ys[i].ks⟩) := by
  obtain ⟨hl, h1, h2⟩ := h.at_ hi
  have hk : L[i].1 = id := h2.trans hid
  have hx : L[i].2.x.id = id := (h.2 _ (List.getElem_mem hl)).symm.trans hk
  refine ⟨hl, ?_, h.set ?_ (by dsimp only; exact hx.symm)⟩
  · rw [reg_mapX]
    unfold regS roomS newS
    rw [if_neg (fun hn => hn.1 (key_in hl hk)), get_mapX, get_at hs hl hk, put_at hs hl hk]
    simp only [Option.map_some, Option.getD_some]
    congr 2
    rw [← hx]
  · unfold Ses.d at h1 ⊢
    injection h1 with e1 e2 e3 e4
    rw [e4]
    dsimp only at e1 e2 ⊢
    rw [e1, e2]
theorem reg_new {most id now : Int} {L : List (Int × Ses)} {ys ys2 : List Ses} {k : Nat} (h : Rel L ys) (hs : sortS (keysT L)) (hn : ∀ s ∈ ys, s.x.id ≠ id) (hm : 1 ≤ most) (hml : (ys.length : Int) ≤ most)
    (h2 : (¬ most ≤ (ys.length : Int) ∧ ys2 = ys) ∨ (most ≤ (ys.length : Int) ∧ ∃ i, ∃ hi : i < ys.length, eldO (sxL ys) = some (ys[i].x.id, ys[i].x.us) ∧ ys2 = ys.take i ++ ys.drop (i + 1)))
    (hk1 : k ≤ ys2.length) (hk2 : ∀ (j : Nat) (hj : j < ys2.length), j < k → ys2[j].x.id < id) (hk3 : ∀ hk : k < ys2.length, ¬ ys2[k].x.id < id) :
    ∃ L', regE most (mapX L) id now = mapX L' ∧ Rel L' (insS ys2 k id now) ∧ ∀ p ∈ L', p = (id, frS id now) ∨ p ∈ L := by
  have hni := h.none hn
  have hlen := h.len
  obtain ⟨L2, hL2, hR2, hs2, hlt2, hni2, hsub⟩ : ∃ L2, roomS most L id = L2 ∧ Rel L2 ys2 ∧ sortS (keysT L2) ∧ (L2.length : Int) < most ∧ id ∉ keysT L2 ∧ ∀ p ∈ L2, p ∈ L := by
    rcases h2 with ⟨h3, rfl⟩ | ⟨h3, i, hi, he, rfl⟩
    · refine ⟨L, ?_, h, hs, by omega, hni, fun p hp => hp⟩
      unfold roomS
      rw [if_neg (fun h4 => h3 (by have := h4.2; omega))]
    · obtain ⟨hl, h4, h5⟩ := h.at_ hi
      have hd := drop_at_ hs hl h5
      refine ⟨dropT L ys[i].x.id, ?_, ?_, drop_sort hs, ?_, ?_, fun p hp => ?_⟩
      · unfold roomS
        rw [if_pos ⟨hni, by omega⟩, h.eld, he]
        rfl
      · rw [hd]
        exact (h.take i).app (h.drop (i + 1))
      · rw [hd, List.length_append, List.length_take, List.length_drop]
        omega
      · intro h6
        obtain ⟨x, hx⟩ := keys_mem.1 h6
        exact hni (keys_mem.2 ⟨x, ((mem_drop hs).1 hx).1⟩)
      · exact ((mem_drop hs).1 hp).1
  have hl2 := hR2.len
  have hpos : posS (keysT L2) id = k := by
    refine posS_eq (by rw [keys_len, hl2]; exact hk1) (fun a ha hak => ?_) (fun hk => ?_)
    · rw [keys_len, hl2] at ha
      obtain ⟨hl, _, h5⟩ := hR2.at_ ha
      rw [keys_get L2 hl, h5]
      exact hk2 a ha hak
    · rw [keys_len, hl2] at hk
      obtain ⟨hl, _, h5⟩ := hR2.at_ hk
      rw [keys_get L2 hl, h5]
      exact hk3 hk
  refine ⟨L2.take k ++ (id, frS id now) :: L2.drop k, ?_, ?_, fun p hp => ?_⟩
  · rw [reg_mapX]
    unfold regS newS
    rw [hL2, get_mapX, show getT L id = none by (unfold getT; rw [if_neg hni])]
    unfold putT
    rw [if_neg hni2, if_neg (by omega), hpos]
    rfl
  · exact (hR2.take k).app ((hR2.drop k).cons rfl rfl)
  · rcases List.mem_append.1 hp with hp | hp
    · exact .inr (hsub p (List.mem_of_mem_take hp))
    · rcases List.mem_cons.1 hp with rfl | hp
      · exact .inl rfl
      · exact .inr (hsub p (List.mem_of_mem_drop hp))
end Go.Sx
namespace Go.Sx
open Go Go.Proofs Go.RowKit
theorem OwnS.over {M : Mem} {v : Value} {ys : List Ses} {hr : Hp} (h : OwnS M v ys hr) {i : Nat} (hi : i < ys.length) : ∃ b cap, ∃ l : List Value, v = .slice (some ⟨b, 0, none⟩) ys.length cap ∧ hr = [(b, .cells l.toArray 43 (0, 0))] ∧ ys.length ≤ cap ∧ ys.length * 4 ≤ l.length ∧
    (∀ (q : Nat) u, (seC ys[i].x)[q]? = some u → l[i * 4 + q]? = some u) ∧
    ∀ (q : Nat) (u : Value) (y : Ses) (M' : Mem), q < 4 → seC y.x = (seC ys[i].x).set q u → M.le M' → y.ok M' → OwnS M' v (ys.set i y) [(b, .cells (l.set (i * 4 + q) u).toArray 43 (0, 0))] := by
  obtain ⟨b, cap, l, h1, h2, h3, h4, h5, h6⟩ := h.1.atS (by omega)
  refine ⟨b, cap, l, h1, h2, h3, h4, fun q u hq => take_get h5 (sesC_get hi hq), fun q u y M' hq hc hM hy => ⟨?_, fun x hx => ?_⟩⟩
  · rw [List.length_set, sesC_set hi hq hc, ← take_set h5]
    exact h6 _ (by rw [List.length_set])
  · rcases List.mem_or_eq_of_mem_set hx with hx | rfl
    · exact (h.2 x hx).mono hM
    · exact hy
theorem OwnS.mono {M M' : Mem} {v : Value} {ys : List Ses} {hr : Hp} (hM : M.le M') (h : OwnS M v ys hr) : OwnS M' v ys hr := ⟨h.1, fun y hy => (h.2 y hy).mono hM⟩
structure XrX where
  i : Nat
  ii : Int
  gv : Value
  gh : Hp
  v : Value
  hp : Hp
attribute [local irreducible] C R Fin K Own OwnT Rd Pl Ok KOf RetOk OpsOf RP KP Res NoPanic KV KE Tab RTab RdB RY KY
variable {M M' : Mem} {H H1 H2 : Hp}
theorem find_KO {rb : Nat} {v : Value} {ys : List Ses} {hr : Hp} {most life id : Int} (ho : OwnS M v ys hr) (hH : Ln hr (rb, rsB v most life) H H1) : K Try.prog 50 [.pointer (some ⟨rb, 0, none⟩), .int .u64 id] M H fun v' M' H' => v' = .int .i64 (findI ys id) ∧ M' = M ∧ H' = H := by
  obtain ⟨A, c, rfl, h3, h4⟩ := ho.1.form
  unfold maxLen at h4
  exact K.lendT hH fun hx M2 hM2 hin => findF_K (ho.1.plIn hin) h3 (by omega) hx
theorem rExpire_K {rb : Nat} {v : Value} {ys : List Ses} {hr : Hp} {most life now : Int} (ho : OwnS M v ys hr) (hb : ∀ s ∈ ys, 0 ≤ s.x.us ∧ s.x.us ≤ 18446744073709551615) (hn : ys.length ≤ 1000) (hnow : 0 ≤ now ∧ now ≤ 18446744073709551615) : K Try.prog 36 [.pointer (some ⟨rb, 0, none⟩), .int .u64 now] M ((rb, rsB v most life) :: (hr ++ H)) fun v' M' H' => ∃ gh v2 hr2, Own 26 1 v' ((ys.filter (fun s => oldD now life s.d)).map (fun s => s.x.id)).length (((ys.filter (fun s => oldD now life s.d)).map (fun s => s.x.id)).map uV) gh ∧ OwnS M' v2 (ys.filter (fun s => !oldD now life s.d)) hr2 ∧ M.le M' ∧ H' = gh ++ ((rb, rsB v2 most life) :: (hr2 ++ H)) := by
  refine K.enterK Try.func36 rfl rfl rfl ?_
  intro Q hNP hQ
  apply C.ice (hp := hr) (H1 := (rb, rsB v most life) :: H) (by (exact a_arr))
  intro M1 hM1 hin
  obtain ⟨A, c, rfl, g1, g2, g3, g4⟩ := ho.pl hM1 hin
  clear ho hin
  unfold rsB
  (repeat' (first | (apply R.step; (exact a_ok); exact rfl) | (first | (with_reducible first | apply R.nil | apply C.ret | apply C.block | apply C.skip | apply C.exit | apply Fin.thenRet | apply Fin.thenExit | apply Fin.blockNormal | apply Fin.blockRet | apply Fin.blockExit) | (with_reducible apply Fin.thenK; assumption) | (with_reducible apply C.seqK; intro _ _) | (with_reducible apply C.regionK; intro _ _) | (with_reducible apply Fin.blockOther; exact rfl)) | (first | (apply R.store; exact rfl; exact rfl; exact rfl; (exact a_at); (exact a_blit); exact rfl; (focus (simp [Value.oneCell']; done))) | (apply R.buildSlice0; exact rfl; intro bz) | (apply R.box; exact rfl; (simp only [Value.cells]; rfl); exact rfl; intro bx) | (apply R.alloc; (simp only [Value.cells]; rfl); exact rfl; intro ba) | (apply R.buildSlice; (exact a_prt); exact rfl; exact rfl; (exact a_fills); exact rfl; intro bl)) | (first | (apply R.guardT; assumption; exact rfl; exact rfl; exact rfl) | (apply R.guardF; assumption; exact rfl; exact rfl; exact rfl; exact rfl; exact rfl) | (apply R.guardU; assumption; exact rfl; exact rfl; exact rfl; exact rfl) | (apply R.guardDec; assumption; exact rfl; exact rfl; (intro h; skip; rotate_left; intro h; skip; rotate_left)) | (apply R.guardBeq; assumption; exact rfl; exact rfl; (intro h; skip; rotate_left; intro h; skip; rotate_left)) | (apply R.guardBne; assumption; exact rfl; exact rfl; (intro h; skip; rotate_left; intro h; skip; rotate_left)) | (apply R.guardNDec; assumption; exact rfl; exact rfl; (intro h; skip; rotate_left; intro h; skip; rotate_left)) | (apply R.guardNot; assumption; exact rfl; exact rfl; (intro h; skip; rotate_left; intro h; skip; rotate_left)) | (apply R.guardC; assumption; exact rfl; exact rfl; (intro h; skip; rotate_left; intro h; skip; rotate_left))) | (first | (apply C.condT; exact rfl) | (apply C.condF; exact rfl) | (apply C.condDec; exact rfl; (intro h; skip; rotate_left; intro h; skip; rotate_left)) | (apply C.condBeq; exact rfl; (intro h; skip; rotate_left; intro h; skip; rotate_left)) | (apply C.condBne; exact rfl; (intro h; skip; rotate_left; intro h; skip; rotate_left)) | (apply C.condNDec; exact rfl; (intro h; skip; rotate_left; intro h; skip; rotate_left)) | (apply C.condNot; exact rfl; (intro h; skip; rotate_left; intro h; skip; rotate_left)) | (apply C.cond; exact rfl; (intro h; skip; rotate_left; intro h; skip; rotate_left)))))
  apply C.loop (fun y : XrX => (y.i : Int) = y.ii ∧ y.i ≤ ys.length ∧ Own 26 1 y.gv (((ys.take y.i).filter (fun s => oldD now life s.d)).map (fun s => s.x.id)).length ((((ys.take y.i).filter (fun s => oldD now life s.d)).map (fun s => s.x.id)).map uV) y.gh ∧ Own 43 4 y.v ((ys.take y.i).filter (fun s => !oldD now life s.d)).length (sesC ((ys.take y.i).filter (fun s => !oldD now life s.d))) y.hp)
    (fun y => [(0, .pointer (some ⟨rb, 0, none⟩)), (1, .int .u64 now), (5, y.gv), (6, y.v), (7, .int .i64 y.ii)]) (fun _ => M1) (fun y => (rb, .cells [.slice A ys.length c, .int .i64 most, .int .u64 life].toArray 58 (0, 0)) :: (y.gh ++ (y.hp ++ H))) (fun y => ys.length - y.i) ⟨0, 0, .slice none 0 0, [], .slice none 0 0, []⟩
  · exact ⟨rfl, Nat.zero_le _, Own.nil _ _, Own.nil _ _⟩
  · (exact a_subs)
  · exact rfl
  · exact rfl
  rintro ⟨i, ii, gv, gh, ov, hov⟩ ⟨hii, hin, hg, ho⟩
  dsimp only at hii hin hg ho ⊢
  obtain ⟨Ag, cg, rfl, _, _⟩ := hg.form
  obtain ⟨Ao, co, rfl, _, _⟩ := ho.form
  have hl1 : ((ys.take i).filter (fun s => oldD now life s.d)).length ≤ 1000 := by
    have h1 := List.length_filter_le (fun s : Ses => oldD now life s.d) (ys.take i)
    rw [List.length_take] at h1
    omega
  have hl2 : ((ys.take i).filter (fun s => !oldD now life s.d)).length ≤ 1000 := by
    have h1 := List.length_filter_le (fun s : Ses => !oldD now life s.d) (ys.take i)
    rw [List.length_take] at h1
    omega
  (repeat' (first | (apply R.step; (exact a_ok); exact rfl) | (first | (with_reducible first | apply R.nil | apply C.ret | apply C.block | apply C.skip | apply C.exit | apply Fin.thenRet | apply Fin.thenExit | apply Fin.blockNormal | apply Fin.blockRet | apply Fin.blockExit) | (with_reducible apply Fin.thenK; assumption) | (with_reducible apply C.seqK; intro _ _) | (with_reducible apply C.regionK; intro _ _) | (with_reducible apply Fin.blockOther; exact rfl)) | (first | (apply R.store; exact rfl; exact rfl; exact rfl; (exact a_at); (exact a_blit); exact rfl; (focus (simp [Value.oneCell']; done))) | (apply R.buildSlice0; exact rfl; intro bz) | (apply R.box; exact rfl; (simp only [Value.cells]; rfl); exact rfl; intro bx) | (apply R.alloc; (simp only [Value.cells]; rfl); exact rfl; intro ba) | (apply R.buildSlice; (exact a_prt); exact rfl; exact rfl; (exact a_fills); exact rfl; intro bl)) | (first | (apply R.guardT; assumption; exact rfl; exact rfl; exact rfl) | (apply R.guardF; assumption; exact rfl; exact rfl; exact rfl; exact rfl; exact rfl) | (apply R.guardU; assumption; exact rfl; exact rfl; exact rfl; exact rfl) | (apply R.guardDec; assumption; exact rfl; exact rfl; (intro h; skip; rotate_left; intro h; skip; rotate_left)) | (apply R.guardBeq; assumption; exact rfl; exact rfl; (intro h; skip; rotate_left; intro h; skip; rotate_left)) | (apply R.guardBne; assumption; exact rfl; exact rfl; (intro h; skip; rotate_left; intro h; skip; rotate_left)) | (apply R.guardNDec; assumption; exact rfl; exact rfl; (intro h; skip; rotate_left; intro h; skip; rotate_left)) | (apply R.guardNot; assumption; exact rfl; exact rfl; (intro h; skip; rotate_left; intro h; skip; rotate_left)) | (apply R.guardC; assumption; exact rfl; exact rfl; (intro h; skip; rotate_left; intro h; skip; rotate_left))) | (first | (apply C.condT; exact rfl) | (apply C.condF; exact rfl) | (apply C.condDec; exact rfl; (intro h; skip; rotate_left; intro h; skip; rotate_left)) | (apply C.condBeq; exact rfl; (intro h; skip; rotate_left; intro h; skip; rotate_left)) | (apply C.condBne; exact rfl; (intro h; skip; rotate_left; intro h; skip; rotate_left)) | (apply C.condNDec; exact rfl; (intro h; skip; rotate_left; intro h; skip; rotate_left)) | (apply C.condNot; exact rfl; (intro h; skip; rotate_left; intro h; skip; rotate_left)) | (apply C.cond; exact rfl; (intro h; skip; rotate_left; intro h; skip; rotate_left)))))
  · have hlt : ii < (ys.length : Int) := by assumption
    have hix : i < ys.length := by omega
    have hxb := hb _ (List.getElem_mem hix)
    have htk := List.take_succ_eq_append_getElem hix
    obtain ⟨b0, o0, c0, e0, f0, rfl, hMb, hc⟩ := ses_at g3 hix
    have hst : ∀ q u, (seC ys[i].x)[q]? = some u → c0[o0 + ii.toNat * 4 + q]? = some u := fun q u hq => by
      rw [show ii.toNat = i by omega]
      exact hc q u hq
    clear hc g4
    obtain ⟨s, hse⟩ : ∃ s, s = ys[i]'hix := ⟨_, rfl⟩
    rw [← hse] at hst hxb htk
    clear hse
    have hyes : oldD now life s.d = true → (ys.take (i + 1)).filter (fun s => oldD now life s.d) = (ys.take i).filter (fun s => oldD now life s.d) ++ [s] ∧ (ys.take (i + 1)).filter (fun s => !oldD now life s.d) = (ys.take i).filter (fun s => !oldD now life s.d) := fun h => by
      rw [htk, List.filter_append, List.filter_append]
      simp [h]
    have hno : oldD now life s.d = false → (ys.take (i + 1)).filter (fun s => oldD now life s.d) = (ys.take i).filter (fun s => oldD now life s.d) ∧ (ys.take (i + 1)).filter (fun s => !oldD now life s.d) = (ys.take i).filter (fun s => !oldD now life s.d) ++ [s] := fun h => by
      rw [htk, List.filter_append, List.filter_append]
      simp [h]
    have hold : oldD now life s.d = (decide (s.x.us < now) && decide (life < now - s.x.us)) := rfl
    rw [hold] at hyes hno
    clear hold htk
    generalize (ys.take i).filter (fun s => oldD now life s.d) = gs at hg hyes hno hl1 ⊢
    generalize (ys.take i).filter (fun s => !oldD now life s.d) = rs at ho hyes hno hl2 ⊢
    unfold seC uV SeV.kv at hst
    have hst0 := hst 0 _ rfl
    have hst2 := hst 2 _ rfl
    (apply C.regionO (ks := [1, 1, 1, 1, 1, 1, 1, 1, 1, 1, 1, 1, 1, 1, 1, 1, 1, 1, 1, 1, 1, 1, 1, 1, 1, 1, 1]) (is := [0, 1, 2, 3, 4, 5, 6, 7, 8, 9, 10, 11, 12, 13, 14, 15, 16, 17, 18, 19, 20, 21, 22, 23, 24, 25, 26]) (Hs := [(rb, .cells #[.slice (some ⟨b0, o0, none⟩) ys.length c, .int .i64 most, .int .u64 life] 58 (0, 0))]); exact Mix.h; (first | exact Arr.all _ | (exact a_arr)); (exact a_np); (exact a_picked); kernel_rfl; intro _ e; subst e)
    (repeat' (first | (first | (apply RP.step; intro _ _ _; (exact a_ok); exact rfl) | (apply RP.stepT; exact rfl; exact rfl; exact rfl; intro _ _ _; (exact a_ok); exact rfl) | (apply RP.stepF; exact rfl; exact rfl; exact rfl; exact rfl; exact rfl) | (apply RP.effF; exact rfl; exact rfl; exact rfl; exact rfl; exact rfl)) | (apply RP.callQ; (exact a_evs); exact rfl)))
    by_cases c1 : s.x.us < now
    · rw [decide_eq_true c1]
      (repeat' (first | (first | (apply RP.step; intro _ _ _; (exact a_ok); exact rfl) | (apply RP.stepT; exact rfl; exact rfl; exact rfl; intro _ _ _; (exact a_ok); exact rfl) | (apply RP.stepF; exact rfl; exact rfl; exact rfl; exact rfl; exact rfl) | (apply RP.effF; exact rfl; exact rfl; exact rfl; exact rfl; exact rfl)) | (apply RP.callQ; (exact a_evs); exact rfl)))
      (first | apply RP.nil0 | apply RP.nil)
      (repeat' (first | (apply R.step; (exact a_ok); exact rfl) | (first | (with_reducible first | apply R.nil | apply C.ret | apply C.block | apply C.skip | apply C.exit | apply Fin.thenRet | apply Fin.thenExit | apply Fin.blockNormal | apply Fin.blockRet | apply Fin.blockExit) | (with_reducible apply Fin.thenK; assumption) | (with_reducible apply C.seqK; intro _ _) | (with_reducible apply C.regionK; intro _ _) | (with_reducible apply Fin.blockOther; exact rfl)) | (first | (apply R.store; exact rfl; exact rfl; exact rfl; (exact a_at); (exact a_blit); exact rfl; (focus (simp [Value.oneCell']; done))) | (apply R.buildSlice0; exact rfl; intro bz) | (apply R.box; exact rfl; (simp only [Value.cells]; rfl); exact rfl; intro bx) | (apply R.alloc; (simp only [Value.cells]; rfl); exact rfl; intro ba) | (apply R.buildSlice; (exact a_prt); exact rfl; exact rfl; (exact a_fills); exact rfl; intro bl)) | (first | (apply R.guardT; assumption; exact rfl; exact rfl; exact rfl) | (apply R.guardF; assumption; exact rfl; exact rfl; exact rfl; exact rfl; exact rfl) | (apply R.guardU; assumption; exact rfl; exact rfl; exact rfl; exact rfl) | (apply R.guardDec; assumption; exact rfl; exact rfl; (intro h; skip; rotate_left; intro h; skip; rotate_left)) | (apply R.guardBeq; assumption; exact rfl; exact rfl; (intro h; skip; rotate_left; intro h; skip; rotate_left)) | (apply R.guardBne; assumption; exact rfl; exact rfl; (intro h; skip; rotate_left; intro h; skip; rotate_left)) | (apply R.guardNDec; assumption; exact rfl; exact rfl; (intro h; skip; rotate_left; intro h; skip; rotate_left)) | (apply R.guardNot; assumption; exact rfl; exact rfl; (intro h; skip; rotate_left; intro h; skip; rotate_left)) | (apply R.guardC; assumption; exact rfl; exact rfl; (intro h; skip; rotate_left; intro h; skip; rotate_left))) | (first | (apply C.condT; exact rfl) | (apply C.condF; exact rfl) | (apply C.condDec; exact rfl; (intro h; skip; rotate_left; intro h; skip; rotate_left)) | (apply C.condBeq; exact rfl; (intro h; skip; rotate_left; intro h; skip; rotate_left)) | (apply C.condBne; exact rfl; (intro h; skip; rotate_left; intro h; skip; rotate_left)) | (apply C.condNDec; exact rfl; (intro h; skip; rotate_left; intro h; skip; rotate_left)) | (apply C.condNot; exact rfl; (intro h; skip; rotate_left; intro h; skip; rotate_left)) | (apply C.cond; exact rfl; (intro h; skip; rotate_left; intro h; skip; rotate_left)))))
      · have c2 : life < now - s.x.us := by assumption
        have hy := hyes (by rw [decide_eq_true c1, decide_eq_true c2]; rfl)
        (apply R.append (news := [.int .u64 s.x.id]) (k := 1); exact rfl; exact rfl; exact hg; (exact a_tk); exact Rd.at_ (l := [.int .u64 s.x.id]) (by (exact a_at)) (fun j x h => by rw [Nat.zero_add]; exact h); exact rfl; (intro u hu; rw [List.mem_singleton] at hu; rw [hu]; rfl); (rw [List.length_map]; omega); exact rfl; decide; decide; exact rfl; rintro v3 hp3 ho3)
        obtain ⟨A3, c3, rfl, _, _⟩ := ho3.form
        (repeat' (first | (apply R.step; (exact a_ok); exact rfl) | (first | (with_reducible first | apply R.nil | apply C.ret | apply C.block | apply C.skip | apply C.exit | apply Fin.thenRet | apply Fin.thenExit | apply Fin.blockNormal | apply Fin.blockRet | apply Fin.blockExit) | (with_reducible apply Fin.thenK; assumption) | (with_reducible apply C.seqK; intro _ _) | (with_reducible apply C.regionK; intro _ _) | (with_reducible apply Fin.blockOther; exact rfl)) | (first | (apply R.store; exact rfl; exact rfl; exact rfl; (exact a_at); (exact a_blit); exact rfl; (focus (simp [Value.oneCell']; done))) | (apply R.buildSlice0; exact rfl; intro bz) | (apply R.box; exact rfl; (simp only [Value.cells]; rfl); exact rfl; intro bx) | (apply R.alloc; (simp only [Value.cells]; rfl); exact rfl; intro ba) | (apply R.buildSlice; (exact a_prt); exact rfl; exact rfl; (exact a_fills); exact rfl; intro bl)) | (first | (apply R.guardT; assumption; exact rfl; exact rfl; exact rfl) | (apply R.guardF; assumption; exact rfl; exact rfl; exact rfl; exact rfl; exact rfl) | (apply R.guardU; assumption; exact rfl; exact rfl; exact rfl; exact rfl) | (apply R.guardDec; assumption; exact rfl; exact rfl; (intro h; skip; rotate_left; intro h; skip; rotate_left)) | (apply R.guardBeq; assumption; exact rfl; exact rfl; (intro h; skip; rotate_left; intro h; skip; rotate_left)) | (apply R.guardBne; assumption; exact rfl; exact rfl; (intro h; skip; rotate_left; intro h; skip; rotate_left)) | (apply R.guardNDec; assumption; exact rfl; exact rfl; (intro h; skip; rotate_left; intro h; skip; rotate_left)) | (apply R.guardNot; assumption; exact rfl; exact rfl; (intro h; skip; rotate_left; intro h; skip; rotate_left)) | (apply R.guardC; assumption; exact rfl; exact rfl; (intro h; skip; rotate_left; intro h; skip; rotate_left))) | (first | (apply C.condT; exact rfl) | (apply C.condF; exact rfl) | (apply C.condDec; exact rfl; (intro h; skip; rotate_left; intro h; skip; rotate_left)) | (apply C.condBeq; exact rfl; (intro h; skip; rotate_left; intro h; skip; rotate_left)) | (apply C.condBne; exact rfl; (intro h; skip; rotate_left; intro h; skip; rotate_left)) | (apply C.condNDec; exact rfl; (intro h; skip; rotate_left; intro h; skip; rotate_left)) | (apply C.condNot; exact rfl; (intro h; skip; rotate_left; intro h; skip; rotate_left)) | (apply C.cond; exact rfl; (intro h; skip; rotate_left; intro h; skip; rotate_left)))))
        apply Fin.arr (H2 := (rb, .cells [.slice (some ⟨b0, o0, none⟩) ys.length c, .int .i64 most, .int .u64 life].toArray 58 (0, 0)) :: (hp3 ++ (hov ++ H))) (by ((try simp only [List.append_assoc, List.cons_append, List.nil_append, List.append_nil]); exact a_arr))
        refine Fin.again (⟨i + 1, ii + 1, .slice A3 ((gs.map (fun s => s.x.id)).length + 1) c3, hp3, .slice Ao rs.length co, hov⟩ : XrX) ⟨by dsimp only; omega, by dsimp only; omega, by dsimp only; rw [hy.1, List.map_append, List.map_append, List.length_append]; exact ho3, by dsimp only; rw [hy.2]; exact ho⟩ (by dsimp only; omega) ?_ rfl rfl
        (exact a_subs)
      · have c2 : ¬ life < now - s.x.us := by assumption
        have hy := hno (by rw [decide_eq_true c1, decide_eq_false c2]; rfl)
        (apply R.append (news := seC s.x) (k := 1); exact rfl; exact rfl; exact ho; (exact a_tk); exact Rd.at_ (l := seC s.x) (by (exact a_at)) (fun j x h => by rw [Nat.zero_add]; exact h); exact rfl; exact seC_one _; omega; exact rfl; decide; decide; exact rfl; rintro v3 hp3 ho3)
        obtain ⟨A3, c3, rfl, _, _⟩ := ho3.form
        (repeat' (first | (apply R.step; (exact a_ok); exact rfl) | (first | (with_reducible first | apply R.nil | apply C.ret | apply C.block | apply C.skip | apply C.exit | apply Fin.thenRet | apply Fin.thenExit | apply Fin.blockNormal | apply Fin.blockRet | apply Fin.blockExit) | (with_reducible apply Fin.thenK; assumption) | (with_reducible apply C.seqK; intro _ _) | (with_reducible apply C.regionK; intro _ _) | (with_reducible apply Fin.blockOther; exact rfl)) | (first | (apply R.store; exact rfl; exact rfl; exact rfl; (exact a_at); (exact a_blit); exact rfl; (focus (simp [Value.oneCell']; done))) | (apply R.buildSlice0; exact rfl; intro bz) | (apply R.box; exact rfl; (simp only [Value.cells]; rfl); exact rfl; intro bx) | (apply R.alloc; (simp only [Value.cells]; rfl); exact rfl; intro ba) | (apply R.buildSlice; (exact a_prt); exact rfl; exact rfl; (exact a_fills); exact rfl; intro bl)) | (first | (apply R.guardT; assumption; exact rfl; exact rfl; exact rfl) | (apply R.guardF; assumption; exact rfl; exact rfl; exact rfl; exact rfl; exact rfl) | (apply R.guardU; assumption; exact rfl; exact rfl; exact rfl; exact rfl) | (apply R.guardDec; assumption; exact rfl; exact rfl; (intro h; skip; rotate_left; intro h; skip; rotate_left)) | (apply R.guardBeq; assumption; exact rfl; exact rfl; (intro h; skip; rotate_left; intro h; skip; rotate_left)) | (apply R.guardBne; assumption; exact rfl; exact rfl; (intro h; skip; rotate_left; intro h; skip; rotate_left)) | (apply R.guardNDec; assumption; exact rfl; exact rfl; (intro h; skip; rotate_left; intro h; skip; rotate_left)) | (apply R.guardNot; assumption; exact rfl; exact rfl; (intro h; skip; rotate_left; intro h; skip; rotate_left)) | (apply R.guardC; assumption; exact rfl; exact rfl; (intro h; skip; rotate_left; intro h; skip; rotate_left))) | (first | (apply C.condT; exact rfl) | (apply C.condF; exact rfl) | (apply C.condDec; exact rfl; (intro h; skip; rotate_left; intro h; skip; rotate_left)) | (apply C.condBeq; exact rfl; (intro h; skip; rotate_left; intro h; skip; rotate_left)) | (apply C.condBne; exact rfl; (intro h; skip; rotate_left; intro h; skip; rotate_left)) | (apply C.condNDec; exact rfl; (intro h; skip; rotate_left; intro h; skip; rotate_left)) | (apply C.condNot; exact rfl; (intro h; skip; rotate_left; intro h; skip; rotate_left)) | (apply C.cond; exact rfl; (intro h; skip; rotate_left; intro h; skip; rotate_left)))))
        apply Fin.arr (H2 := (rb, .cells [.slice (some ⟨b0, o0, none⟩) ys.length c, .int .i64 most, .int .u64 life].toArray 58 (0, 0)) :: (gh ++ (hp3 ++ H))) (by ((try simp only [List.append_assoc, List.cons_append, List.nil_append, List.append_nil]); exact a_arr))
        refine Fin.again (⟨i + 1, ii + 1, .slice Ag (gs.map (fun s => s.x.id)).length cg, gh, .slice A3 (rs.length + 1) c3, hp3⟩ : XrX) ⟨by dsimp only; omega, by dsimp only; omega, by dsimp only; rw [hy.1]; exact hg, by dsimp only; rw [hy.2, sesC_app, List.length_append]; exact ho3⟩ (by dsimp only; omega) ?_ rfl rfl
        (exact a_subs)
    · rw [decide_eq_false c1]
      (repeat' (first | (first | (apply RP.step; intro _ _ _; (exact a_ok); exact rfl) | (apply RP.stepT; exact rfl; exact rfl; exact rfl; intro _ _ _; (exact a_ok); exact rfl) | (apply RP.stepF; exact rfl; exact rfl; exact rfl; exact rfl; exact rfl) | (apply RP.effF; exact rfl; exact rfl; exact rfl; exact rfl; exact rfl)) | (apply RP.callQ; (exact a_evs); exact rfl)))
      (first | apply RP.nil0 | apply RP.nil)
      (repeat' (first | (apply R.step; (exact a_ok); exact rfl) | (first | (with_reducible first | apply R.nil | apply C.ret | apply C.block | apply C.skip | apply C.exit | apply Fin.thenRet | apply Fin.thenExit | apply Fin.blockNormal | apply Fin.blockRet | apply Fin.blockExit) | (with_reducible apply Fin.thenK; assumption) | (with_reducible apply C.seqK; intro _ _) | (with_reducible apply C.regionK; intro _ _) | (with_reducible apply Fin.blockOther; exact rfl)) | (first | (apply R.store; exact rfl; exact rfl; exact rfl; (exact a_at); (exact a_blit); exact rfl; (focus (simp [Value.oneCell']; done))) | (apply R.buildSlice0; exact rfl; intro bz) | (apply R.box; exact rfl; (simp only [Value.cells]; rfl); exact rfl; intro bx) | (apply R.alloc; (simp only [Value.cells]; rfl); exact rfl; intro ba) | (apply R.buildSlice; (exact a_prt); exact rfl; exact rfl; (exact a_fills); exact rfl; intro bl)) | (first | (apply R.guardT; assumption; exact rfl; exact rfl; exact rfl) | (apply R.guardF; assumption; exact rfl; exact rfl; exact rfl; exact rfl; exact rfl) | (apply R.guardU; assumption; exact rfl; exact rfl; exact rfl; exact rfl) | (apply R.guardDec; assumption; exact rfl; exact rfl; (intro h; skip; rotate_left; intro h; skip; rotate_left)) | (apply R.guardBeq; assumption; exact rfl; exact rfl; (intro h; skip; rotate_left; intro h; skip; rotate_left)) | (apply R.guardBne; assumption; exact rfl; exact rfl; (intro h; skip; rotate_left; intro h; skip; rotate_left)) | (apply R.guardNDec; assumption; exact rfl; exact rfl; (intro h; skip; rotate_left; intro h; skip; rotate_left)) | (apply R.guardNot; assumption; exact rfl; exact rfl; (intro h; skip; rotate_left; intro h; skip; rotate_left)) | (apply R.guardC; assumption; exact rfl; exact rfl; (intro h; skip; rotate_left; intro h; skip; rotate_left))) | (first | (apply C.condT; exact rfl) | (apply C.condF; exact rfl) | (apply C.condDec; exact rfl; (intro h; skip; rotate_left; intro h; skip; rotate_left)) | (apply C.condBeq; exact rfl; (intro h; skip; rotate_left; intro h; skip; rotate_left)) | (apply C.condBne; exact rfl; (intro h; skip; rotate_left; intro h; skip; rotate_left)) | (apply C.condNDec; exact rfl; (intro h; skip; rotate_left; intro h; skip; rotate_left)) | (apply C.condNot; exact rfl; (intro h; skip; rotate_left; intro h; skip; rotate_left)) | (apply C.cond; exact rfl; (intro h; skip; rotate_left; intro h; skip; rotate_left)))))
      have hy := hno (by rw [decide_eq_false c1]; rfl)
      (apply R.append (news := seC s.x) (k := 1); exact rfl; exact rfl; exact ho; (exact a_tk); exact Rd.at_ (l := seC s.x) (by (exact a_at)) (fun j x h => by rw [Nat.zero_add]; exact h); exact rfl; exact seC_one _; omega; exact rfl; decide; decide; exact rfl; rintro v3 hp3 ho3)
      obtain ⟨A3, c3, rfl, _, _⟩ := ho3.form
      (repeat' (first | (apply R.step; (exact a_ok); exact rfl) | (first | (with_reducible first | apply R.nil | apply C.ret | apply C.block | apply C.skip | apply C.exit | apply Fin.thenRet | apply Fin.thenExit | apply Fin.blockNormal | apply Fin.blockRet | apply Fin.blockExit) | (with_reducible apply Fin.thenK; assumption) | (with_reducible apply C.seqK; intro _ _) | (with_reducible apply C.regionK; intro _ _) | (with_reducible apply Fin.blockOther; exact rfl)) | (first | (apply R.store; exact rfl; exact rfl; exact rfl; (exact a_at); (exact a_blit); exact rfl; (focus (simp [Value.oneCell']; done))) | (apply R.buildSlice0; exact rfl; intro bz) | (apply R.box; exact rfl; (simp only [Value.cells]; rfl); exact rfl; intro bx) | (apply R.alloc; (simp only [Value.cells]; rfl); exact rfl; intro ba) | (apply R.buildSlice; (exact a_prt); exact rfl; exact rfl; (exact a_fills); exact rfl; intro bl)) | (first | (apply R.guardT; assumption; exact rfl; exact rfl; exact rfl) | (apply R.guardF; assumption; exact rfl; exact rfl; exact rfl; exact rfl; exact rfl) | (apply R.guardU; assumption; exact rfl; exact rfl; exact rfl; exact rfl) | (apply R.guardDec; assumption; exact rfl; exact rfl; (intro h; skip; rotate_left; intro h; skip; rotate_left)) | (apply R.guardBeq; assumption; exact rfl; exact rfl; (intro h; skip; rotate_left; intro h; skip; rotate_left)) | (apply R.guardBne; assumption; exact rfl; exact rfl; (intro h; skip; rotate_left; intro h; skip; rotate_left)) | (apply R.guardNDec; assumption; exact rfl; exact rfl; (intro h; skip; rotate_left; intro h; skip; rotate_left)) | (apply R.guardNot; assumption; exact rfl; exact rfl; (intro h; skip; rotate_left; intro h; skip; rotate_left)) | (apply R.guardC; assumption; exact rfl; exact rfl; (intro h; skip; rotate_left; intro h; skip; rotate_left))) | (first | (apply C.condT; exact rfl) | (apply C.condF; exact rfl) | (apply C.condDec; exact rfl; (intro h; skip; rotate_left; intro h; skip; rotate_left)) | (apply C.condBeq; exact rfl; (intro h; skip; rotate_left; intro h; skip; rotate_left)) | (apply C.condBne; exact rfl; (intro h; skip; rotate_left; intro h; skip; rotate_left)) | (apply C.condNDec; exact rfl; (intro h; skip; rotate_left; intro h; skip; rotate_left)) | (apply C.condNot; exact rfl; (intro h; skip; rotate_left; intro h; skip; rotate_left)) | (apply C.cond; exact rfl; (intro h; skip; rotate_left; intro h; skip; rotate_left)))))
      apply Fin.arr (H2 := (rb, .cells [.slice (some ⟨b0, o0, none⟩) ys.length c, .int .i64 most, .int .u64 life].toArray 58 (0, 0)) :: (gh ++ (hp3 ++ H))) (by ((try simp only [List.append_assoc, List.cons_append, List.nil_append, List.append_nil]); exact a_arr))
      refine Fin.again (⟨i + 1, ii + 1, .slice Ag (gs.map (fun s => s.x.id)).length cg, gh, .slice A3 (rs.length + 1) c3, hp3⟩ : XrX) ⟨by dsimp only; omega, by dsimp only; omega, by dsimp only; rw [hy.1]; exact hg, by dsimp only; rw [hy.2, sesC_app, List.length_append]; exact ho3⟩ (by dsimp only; omega) ?_ rfl rfl
      (exact a_subs)
  · have hie : i = ys.length := by omega
    subst hie
    rw [List.take_length] at hg ho ⊢
    (apply Fin.returnA (H2 := gh ++ ((rb, rsB (.slice Ao (ys.filter (fun s => !oldD now life s.d)).length co) most life) :: (hov ++ H))); assumption; exact .inl rfl; exact rfl; (exact a_res); (simp only [retv]; rfl); (exact a_arr))
    exact ⟨gh, _, hov, hg, ⟨ho, fun y hy => g4 y (List.mem_filter.1 hy).1⟩, hM1, rfl⟩
end Go.Sx
namespace Go.Sx
open Go Go.Proofs Go.RowKit
theorem sesC_take (ys : List Ses) (k : Nat) : (sesC ys).take (k * 4) = sesC (ys.take k) := by
  unfold sesC
  rw [rows_take (n := 4) (sesC_four ys), List.map_take]
theorem sesC_drop (ys : List Ses) (k : Nat) : (sesC ys).drop (k * 4) = sesC (ys.drop k) := by
  unfold sesC
  rw [rows_drop (n := 4) (sesC_four ys), List.map_drop]
theorem sesC_one (ys : List Ses) : ∀ u ∈ sesC ys, u.oneCell' = true := by
  intro u hu
  obtain ⟨l, hl, hu⟩ := List.mem_flatten.1 hu
  obtain ⟨y, _, rfl⟩ := List.mem_map.1 hl
  exact seC_one _ u hu
structure LsX where
  i : Nat
  ii : Int
  m : Nat
  mm : Int
structure RnX where
  A : Option Addr
  c : Nat
  ys : List Ses
  M : Mem
structure PsX where
  v : Value
  b : Nat
  hp : Hp
attribute [local irreducible] C R Fin K Own OwnT Rd Pl Ok KOf RetOk OpsOf RP KP Res NoPanic KV KE Tab RTab RdB RY KY
variable {M M' : Mem} {H H1 H2 : Hp}
theorem rRegBad_K {rb : Nat} {id now : Int} (hid : ¬ numb id) : K Try.prog 37 [.pointer (some ⟨rb, 0, none⟩), .int .u64 id, .int .u64 now] M H fun v' M' H' => v' = .int .i64 1 ∧ M' = M ∧ H' = H := by
  unfold numb at hid
  refine K.enterK Try.func37 rfl rfl rfl ?_
  intro Q hNP hQ
  (repeat' (first | (apply R.step; (exact a_ok); exact rfl) | (first | (with_reducible first | apply R.nil | apply C.ret | apply C.block | apply C.skip | apply C.exit | apply Fin.thenRet | apply Fin.thenExit | apply Fin.blockNormal | apply Fin.blockRet | apply Fin.blockExit) | (with_reducible apply Fin.thenK; assumption) | (with_reducible apply C.seqK; intro _ _) | (with_reducible apply C.regionK; intro _ _) | (with_reducible apply Fin.blockOther; exact rfl)) | (first | (apply R.store; exact rfl; exact rfl; exact rfl; (exact a_at); (exact a_blit); exact rfl; (focus (simp [Value.oneCell']; done))) | (apply R.buildSlice0; exact rfl; intro bz) | (apply R.box; exact rfl; (simp only [Value.cells]; rfl); exact rfl; intro bx) | (apply R.alloc; (simp only [Value.cells]; rfl); exact rfl; intro ba) | (apply R.buildSlice; (exact a_prt); exact rfl; exact rfl; (exact a_fills); exact rfl; intro bl)) | (first | (apply R.guardT; assumption; exact rfl; exact rfl; exact rfl) | (apply R.guardF; assumption; exact rfl; exact rfl; exact rfl; exact rfl; exact rfl) | (apply R.guardU; assumption; exact rfl; exact rfl; exact rfl; exact rfl) | (apply R.guardDec; assumption; exact rfl; exact rfl; (intro h; skip; rotate_left; intro h; skip; rotate_left)) | (apply R.guardBeq; assumption; exact rfl; exact rfl; (intro h; skip; rotate_left; intro h; skip; rotate_left)) | (apply R.guardBne; assumption; exact rfl; exact rfl; (intro h; skip; rotate_left; intro h; skip; rotate_left)) | (apply R.guardNDec; assumption; exact rfl; exact rfl; (intro h; skip; rotate_left; intro h; skip; rotate_left)) | (apply R.guardNot; assumption; exact rfl; exact rfl; (intro h; skip; rotate_left; intro h; skip; rotate_left)) | (apply R.guardC; assumption; exact rfl; exact rfl; (intro h; skip; rotate_left; intro h; skip; rotate_left))) | (first | (apply C.condT; exact rfl) | (apply C.condF; exact rfl) | (apply C.condDec; exact rfl; (intro h; skip; rotate_left; intro h; skip; rotate_left)) | (apply C.condBeq; exact rfl; (intro h; skip; rotate_left; intro h; skip; rotate_left)) | (apply C.condBne; exact rfl; (intro h; skip; rotate_left; intro h; skip; rotate_left)) | (apply C.condNDec; exact rfl; (intro h; skip; rotate_left; intro h; skip; rotate_left)) | (apply C.condNot; exact rfl; (intro h; skip; rotate_left; intro h; skip; rotate_left)) | (apply C.cond; exact rfl; (intro h; skip; rotate_left; intro h; skip; rotate_left)))))
  · (apply Fin.returnA (H2 := H); assumption; exact .inl rfl; exact rfl; (exact a_res); (simp only [retv]; rfl); (exact a_arr))
    exact ⟨rfl, rfl, rfl⟩
  · (apply Fin.returnA (H2 := H); assumption; exact .inl rfl; exact rfl; (exact a_res); (simp only [retv]; rfl); (exact a_arr))
    exact ⟨rfl, rfl, rfl⟩
  · exfalso
    omega
theorem rRegIn_K {rb : Nat} {v : Value} {ys : List Ses} {hr : Hp} {most life id now : Int} {i : Nat} (ho : OwnS M v ys hr) (hid : numb id) (hi : i < ys.length) (hfi : findI ys id = (i : Int)) (hn : ys.length ≤ 1000) : K Try.prog 37 [.pointer (some ⟨rb, 0, none⟩), .int .u64 id, .int .u64 now] M ((rb, rsB v most life) :: (hr ++ H)) fun v' M' H' => v' = .int .i64 0 ∧ ∃ hr2, OwnS M v (ys.set i ⟨{ ys[i].x with us := now }, ys[i].ks⟩) hr2 ∧ M' = M ∧ H' = (rb, rsB v most life) :: (hr2 ++ H) := by
  unfold numb at hid
  refine K.enterK Try.func37 rfl rfl rfl ?_
  intro Q hNP hQ
  (repeat' (first | (apply R.step; (exact a_ok); exact rfl) | (first | (with_reducible first | apply R.nil | apply C.ret | apply C.block | apply C.skip | apply C.exit | apply Fin.thenRet | apply Fin.thenExit | apply Fin.blockNormal | apply Fin.blockRet | apply Fin.blockExit) | (with_reducible apply Fin.thenK; assumption) | (with_reducible apply C.seqK; intro _ _) | (with_reducible apply C.regionK; intro _ _) | (with_reducible apply Fin.blockOther; exact rfl)) | (first | (apply R.store; exact rfl; exact rfl; exact rfl; (exact a_at); (exact a_blit); exact rfl; (focus (simp [Value.oneCell']; done))) | (apply R.buildSlice0; exact rfl; intro bz) | (apply R.box; exact rfl; (simp only [Value.cells]; rfl); exact rfl; intro bx) | (apply R.alloc; (simp only [Value.cells]; rfl); exact rfl; intro ba) | (apply R.buildSlice; (exact a_prt); exact rfl; exact rfl; (exact a_fills); exact rfl; intro bl)) | (first | (apply R.guardT; assumption; exact rfl; exact rfl; exact rfl) | (apply R.guardF; assumption; exact rfl; exact rfl; exact rfl; exact rfl; exact rfl) | (apply R.guardU; assumption; exact rfl; exact rfl; exact rfl; exact rfl) | (apply R.guardDec; assumption; exact rfl; exact rfl; (intro h; skip; rotate_left; intro h; skip; rotate_left)) | (apply R.guardBeq; assumption; exact rfl; exact rfl; (intro h; skip; rotate_left; intro h; skip; rotate_left)) | (apply R.guardBne; assumption; exact rfl; exact rfl; (intro h; skip; rotate_left; intro h; skip; rotate_left)) | (apply R.guardNDec; assumption; exact rfl; exact rfl; (intro h; skip; rotate_left; intro h; skip; rotate_left)) | (apply R.guardNot; assumption; exact rfl; exact rfl; (intro h; skip; rotate_left; intro h; skip; rotate_left)) | (apply R.guardC; assumption; exact rfl; exact rfl; (intro h; skip; rotate_left; intro h; skip; rotate_left))) | (first | (apply C.condT; exact rfl) | (apply C.condF; exact rfl) | (apply C.condDec; exact rfl; (intro h; skip; rotate_left; intro h; skip; rotate_left)) | (apply C.condBeq; exact rfl; (intro h; skip; rotate_left; intro h; skip; rotate_left)) | (apply C.condBne; exact rfl; (intro h; skip; rotate_left; intro h; skip; rotate_left)) | (apply C.condNDec; exact rfl; (intro h; skip; rotate_left; intro h; skip; rotate_left)) | (apply C.condNot; exact rfl; (intro h; skip; rotate_left; intro h; skip; rotate_left)) | (apply C.cond; exact rfl; (intro h; skip; rotate_left; intro h; skip; rotate_left)))))
  · exfalso
    omega
  · exfalso
    omega
  (apply R.call; (exact a_evs); exact rfl; exact find_KO (id := id) ho a_ln; rintro _ _ _ ⟨rfl, e1_, e2_⟩; replace e1_ := e1_.symm; subst e1_; replace e2_ := e2_.symm; subst e2_)
  rw [hfi]
  obtain ⟨b, cap, l, rfl, rfl, g3, g4, hcell, hover⟩ := ho.over hi
  unfold rsB
  (repeat' (first | (apply R.step; (exact a_ok); exact rfl) | (first | (with_reducible first | apply R.nil | apply C.ret | apply C.block | apply C.skip | apply C.exit | apply Fin.thenRet | apply Fin.thenExit | apply Fin.blockNormal | apply Fin.blockRet | apply Fin.blockExit) | (with_reducible apply Fin.thenK; assumption) | (with_reducible apply C.seqK; intro _ _) | (with_reducible apply C.regionK; intro _ _) | (with_reducible apply Fin.blockOther; exact rfl)) | (first | (apply R.store; exact rfl; exact rfl; exact rfl; (exact a_at); (exact a_blit); exact rfl; (focus (simp [Value.oneCell']; done))) | (apply R.buildSlice0; exact rfl; intro bz) | (apply R.box; exact rfl; (simp only [Value.cells]; rfl); exact rfl; intro bx) | (apply R.alloc; (simp only [Value.cells]; rfl); exact rfl; intro ba) | (apply R.buildSlice; (exact a_prt); exact rfl; exact rfl; (exact a_fills); exact rfl; intro bl)) | (first | (apply R.guardT; assumption; exact rfl; exact rfl; exact rfl) | (apply R.guardF; assumption; exact rfl; exact rfl; exact rfl; exact rfl; exact rfl) | (apply R.guardU; assumption; exact rfl; exact rfl; exact rfl; exact rfl) | (apply R.guardDec; assumption; exact rfl; exact rfl; (intro h; skip; rotate_left; intro h; skip; rotate_left)) | (apply R.guardBeq; assumption; exact rfl; exact rfl; (intro h; skip; rotate_left; intro h; skip; rotate_left)) | (apply R.guardBne; assumption; exact rfl; exact rfl; (intro h; skip; rotate_left; intro h; skip; rotate_left)) | (apply R.guardNDec; assumption; exact rfl; exact rfl; (intro h; skip; rotate_left; intro h; skip; rotate_left)) | (apply R.guardNot; assumption; exact rfl; exact rfl; (intro h; skip; rotate_left; intro h; skip; rotate_left)) | (apply R.guardC; assumption; exact rfl; exact rfl; (intro h; skip; rotate_left; intro h; skip; rotate_left))) | (first | (apply C.condT; exact rfl) | (apply C.condF; exact rfl) | (apply C.condDec; exact rfl; (intro h; skip; rotate_left; intro h; skip; rotate_left)) | (apply C.condBeq; exact rfl; (intro h; skip; rotate_left; intro h; skip; rotate_left)) | (apply C.condBne; exact rfl; (intro h; skip; rotate_left; intro h; skip; rotate_left)) | (apply C.condNDec; exact rfl; (intro h; skip; rotate_left; intro h; skip; rotate_left)) | (apply C.condNot; exact rfl; (intro h; skip; rotate_left; intro h; skip; rotate_left)) | (apply C.cond; exact rfl; (intro h; skip; rotate_left; intro h; skip; rotate_left)))))
  · (apply R.storeI (v := .int .u64 now); exact rfl; exact rfl; exact rfl; (exact a_at); omega; exact rfl)
    rw [show 0 + ((i : Nat) : Int).toNat * 4 + 2 = i * 4 + 2 by omega]
    have hw := hover 2 (.int .u64 now) ⟨{ ys[i].x with us := now }, ys[i].ks⟩ M (by omega) rfl (Mem.le_refl _) (ho.2 ys[i] (List.getElem_mem hi) : ys[i].ok M)
    (repeat' (first | (apply R.step; (exact a_ok); exact rfl) | (first | (with_reducible first | apply R.nil | apply C.ret | apply C.block | apply C.skip | apply C.exit | apply Fin.thenRet | apply Fin.thenExit | apply Fin.blockNormal | apply Fin.blockRet | apply Fin.blockExit) | (with_reducible apply Fin.thenK; assumption) | (with_reducible apply C.seqK; intro _ _) | (with_reducible apply C.regionK; intro _ _) | (with_reducible apply Fin.blockOther; exact rfl)) | (first | (apply R.store; exact rfl; exact rfl; exact rfl; (exact a_at); (exact a_blit); exact rfl; (focus (simp [Value.oneCell']; done))) | (apply R.buildSlice0; exact rfl; intro bz) | (apply R.box; exact rfl; (simp only [Value.cells]; rfl); exact rfl; intro bx) | (apply R.alloc; (simp only [Value.cells]; rfl); exact rfl; intro ba) | (apply R.buildSlice; (exact a_prt); exact rfl; exact rfl; (exact a_fills); exact rfl; intro bl)) | (first | (apply R.guardT; assumption; exact rfl; exact rfl; exact rfl) | (apply R.guardF; assumption; exact rfl; exact rfl; exact rfl; exact rfl; exact rfl) | (apply R.guardU; assumption; exact rfl; exact rfl; exact rfl; exact rfl) | (apply R.guardDec; assumption; exact rfl; exact rfl; (intro h; skip; rotate_left; intro h; skip; rotate_left)) | (apply R.guardBeq; assumption; exact rfl; exact rfl; (intro h; skip; rotate_left; intro h; skip; rotate_left)) | (apply R.guardBne; assumption; exact rfl; exact rfl; (intro h; skip; rotate_left; intro h; skip; rotate_left)) | (apply R.guardNDec; assumption; exact rfl; exact rfl; (intro h; skip; rotate_left; intro h; skip; rotate_left)) | (apply R.guardNot; assumption; exact rfl; exact rfl; (intro h; skip; rotate_left; intro h; skip; rotate_left)) | (apply R.guardC; assumption; exact rfl; exact rfl; (intro h; skip; rotate_left; intro h; skip; rotate_left))) | (first | (apply C.condT; exact rfl) | (apply C.condF; exact rfl) | (apply C.condDec; exact rfl; (intro h; skip; rotate_left; intro h; skip; rotate_left)) | (apply C.condBeq; exact rfl; (intro h; skip; rotate_left; intro h; skip; rotate_left)) | (apply C.condBne; exact rfl; (intro h; skip; rotate_left; intro h; skip; rotate_left)) | (apply C.condNDec; exact rfl; (intro h; skip; rotate_left; intro h; skip; rotate_left)) | (apply C.condNot; exact rfl; (intro h; skip; rotate_left; intro h; skip; rotate_left)) | (apply C.cond; exact rfl; (intro h; skip; rotate_left; intro h; skip; rotate_left)))))
    (apply Fin.returnA (H2 := (rb, rsB (.slice (some ⟨b, 0, none⟩) ys.length cap) most life) :: ([(b, .cells (l.set (i * 4 + 2) (.int .u64 now)).toArray 43 (0, 0))] ++ H)); assumption; exact .inl rfl; exact rfl; (exact a_res); (simp only [retv]; rfl); (exact a_arr))
    exact ⟨rfl, _, hw, rfl, rfl⟩
  all_goals (exfalso; omega)
theorem rRegNew_K {rb : Nat} {v : Value} {ys : List Ses} {hr : Hp} {most life id now : Int} (ho : OwnS M v ys hr) (hid : numb id) (hfi : findI ys id = -1) (hn : ys.length ≤ 1000) (hm : 1 ≤ most) : K Try.prog 37 [.pointer (some ⟨rb, 0, none⟩), .int .u64 id, .int .u64 now] M ((rb, rsB v most life) :: (hr ++ H)) fun v' M' H' => v' = .int .i64 0 ∧ ∃ ys2 k v2 hr2,
    ((¬ most ≤ (ys.length : Int) ∧ ys2 = ys) ∨ (most ≤ (ys.length : Int) ∧ ∃ i, ∃ hi : i < ys.length, eldO (sxL ys) = some (ys[i].x.id, ys[i].x.us) ∧ ys2 = ys.take i ++ ys.drop (i + 1))) ∧
    k ≤ ys2.length ∧ (∀ (j : Nat) (hj : j < ys2.length), j < k → ys2[j].x.id < id) ∧ (∀ hk : k < ys2.length, ¬ ys2[k].x.id < id) ∧ OwnS M' v2 (insS ys2 k id now) hr2 ∧ M.le M' ∧ H' = (rb, rsB v2 most life) :: (hr2 ++ H) := by
  unfold numb at hid
  refine K.enterK Try.func37 rfl rfl rfl ?_
  intro Q hNP hQ
  (repeat' (first | (apply R.step; (exact a_ok); exact rfl) | (first | (with_reducible first | apply R.nil | apply C.ret | apply C.block | apply C.skip | apply C.exit | apply Fin.thenRet | apply Fin.thenExit | apply Fin.blockNormal | apply Fin.blockRet | apply Fin.blockExit) | (with_reducible apply Fin.thenK; assumption) | (with_reducible apply C.seqK; intro _ _) | (with_reducible apply C.regionK; intro _ _) | (with_reducible apply Fin.blockOther; exact rfl)) | (first | (apply R.store; exact rfl; exact rfl; exact rfl; (exact a_at); (exact a_blit); exact rfl; (focus (simp [Value.oneCell']; done))) | (apply R.buildSlice0; exact rfl; intro bz) | (apply R.box; exact rfl; (simp only [Value.cells]; rfl); exact rfl; intro bx) | (apply R.alloc; (simp only [Value.cells]; rfl); exact rfl; intro ba) | (apply R.buildSlice; (exact a_prt); exact rfl; exact rfl; (exact a_fills); exact rfl; intro bl)) | (first | (apply R.guardT; assumption; exact rfl; exact rfl; exact rfl) | (apply R.guardF; assumption; exact rfl; exact rfl; exact rfl; exact rfl; exact rfl) | (apply R.guardU; assumption; exact rfl; exact rfl; exact rfl; exact rfl) | (apply R.guardDec; assumption; exact rfl; exact rfl; (intro h; skip; rotate_left; intro h; skip; rotate_left)) | (apply R.guardBeq; assumption; exact rfl; exact rfl; (intro h; skip; rotate_left; intro h; skip; rotate_left)) | (apply R.guardBne; assumption; exact rfl; exact rfl; (intro h; skip; rotate_left; intro h; skip; rotate_left)) | (apply R.guardNDec; assumption; exact rfl; exact rfl; (intro h; skip; rotate_left; intro h; skip; rotate_left)) | (apply R.guardNot; assumption; exact rfl; exact rfl; (intro h; skip; rotate_left; intro h; skip; rotate_left)) | (apply R.guardC; assumption; exact rfl; exact rfl; (intro h; skip; rotate_left; intro h; skip; rotate_left))) | (first | (apply C.condT; exact rfl) | (apply C.condF; exact rfl) | (apply C.condDec; exact rfl; (intro h; skip; rotate_left; intro h; skip; rotate_left)) | (apply C.condBeq; exact rfl; (intro h; skip; rotate_left; intro h; skip; rotate_left)) | (apply C.condBne; exact rfl; (intro h; skip; rotate_left; intro h; skip; rotate_left)) | (apply C.condNDec; exact rfl; (intro h; skip; rotate_left; intro h; skip; rotate_left)) | (apply C.condNot; exact rfl; (intro h; skip; rotate_left; intro h; skip; rotate_left)) | (apply C.cond; exact rfl; (intro h; skip; rotate_left; intro h; skip; rotate_left)))))
  · exfalso
    omega
  · exfalso
    omega
  (apply R.call; (exact a_evs); exact rfl; exact find_KO (id := id) ho a_ln; rintro _ _ _ ⟨rfl, e1_, e2_⟩; replace e1_ := e1_.symm; subst e1_; replace e2_ := e2_.symm; subst e2_)
  rw [hfi]
  (repeat' (first | (apply R.step; (exact a_ok); exact rfl) | (first | (with_reducible first | apply R.nil | apply C.ret | apply C.block | apply C.skip | apply C.exit | apply Fin.thenRet | apply Fin.thenExit | apply Fin.blockNormal | apply Fin.blockRet | apply Fin.blockExit) | (with_reducible apply Fin.thenK; assumption) | (with_reducible apply C.seqR; intro _ _) | (with_reducible apply C.regionK; intro _ _) | (with_reducible apply Fin.blockOther; exact rfl)) | (first | (apply R.store; exact rfl; exact rfl; exact rfl; (exact a_at); (exact a_blit); exact rfl; (focus (simp [Value.oneCell']; done))) | (apply R.buildSlice0; exact rfl; intro bz) | (apply R.box; exact rfl; (simp only [Value.cells]; rfl); exact rfl; intro bx) | (apply R.alloc; (simp only [Value.cells]; rfl); exact rfl; intro ba) | (apply R.buildSlice; (exact a_prt); exact rfl; exact rfl; (exact a_fills); exact rfl; intro bl)) | (first | (apply R.guardT; assumption; exact rfl; exact rfl; exact rfl) | (apply R.guardF; assumption; exact rfl; exact rfl; exact rfl; exact rfl; exact rfl) | (apply R.guardU; assumption; exact rfl; exact rfl; exact rfl; exact rfl) | (apply R.guardDec; assumption; exact rfl; exact rfl; (intro h; skip; rotate_left; intro h; skip; rotate_left)) | (apply R.guardBeq; assumption; exact rfl; exact rfl; (intro h; skip; rotate_left; intro h; skip; rotate_left)) | (apply R.guardBne; assumption; exact rfl; exact rfl; (intro h; skip; rotate_left; intro h; skip; rotate_left)) | (apply R.guardNDec; assumption; exact rfl; exact rfl; (intro h; skip; rotate_left; intro h; skip; rotate_left)) | (apply R.guardNot; assumption; exact rfl; exact rfl; (intro h; skip; rotate_left; intro h; skip; rotate_left)) | (apply R.guardC; assumption; exact rfl; exact rfl; (intro h; skip; rotate_left; intro h; skip; rotate_left)))))
  (apply C.condF; exact rfl)
  (repeat' (first | (apply R.step; (exact a_ok); exact rfl) | (first | (with_reducible first | apply R.nil | apply C.ret | apply C.block | apply C.skip | apply C.exit | apply Fin.thenRet | apply Fin.thenExit | apply Fin.blockNormal | apply Fin.blockRet | apply Fin.blockExit) | (with_reducible apply Fin.thenK; assumption) | (with_reducible apply C.seqR; intro _ _) | (with_reducible apply C.regionK; intro _ _) | (with_reducible apply Fin.blockOther; exact rfl)) | (first | (apply R.store; exact rfl; exact rfl; exact rfl; (exact a_at); (exact a_blit); exact rfl; (focus (simp [Value.oneCell']; done))) | (apply R.buildSlice0; exact rfl; intro bz) | (apply R.box; exact rfl; (simp only [Value.cells]; rfl); exact rfl; intro bx) | (apply R.alloc; (simp only [Value.cells]; rfl); exact rfl; intro ba) | (apply R.buildSlice; (exact a_prt); exact rfl; exact rfl; (exact a_fills); exact rfl; intro bl)) | (first | (apply R.guardT; assumption; exact rfl; exact rfl; exact rfl) | (apply R.guardF; assumption; exact rfl; exact rfl; exact rfl; exact rfl; exact rfl) | (apply R.guardU; assumption; exact rfl; exact rfl; exact rfl; exact rfl) | (apply R.guardDec; assumption; exact rfl; exact rfl; (intro h; skip; rotate_left; intro h; skip; rotate_left)) | (apply R.guardBeq; assumption; exact rfl; exact rfl; (intro h; skip; rotate_left; intro h; skip; rotate_left)) | (apply R.guardBne; assumption; exact rfl; exact rfl; (intro h; skip; rotate_left; intro h; skip; rotate_left)) | (apply R.guardNDec; assumption; exact rfl; exact rfl; (intro h; skip; rotate_left; intro h; skip; rotate_left)) | (apply R.guardNot; assumption; exact rfl; exact rfl; (intro h; skip; rotate_left; intro h; skip; rotate_left)) | (apply R.guardC; assumption; exact rfl; exact rfl; (intro h; skip; rotate_left; intro h; skip; rotate_left)))))
  apply C.ice (hp := hr) (H1 := (rb, rsB v most life) :: H) (by (exact a_arr))
  intro M1 hM1 hin
  have hop := ho.pl hM1 hin
  clear ho hin
  have hop2 := hop
  obtain ⟨A, c, rfl, g1, g2, g3, g4⟩ := hop2
  unfold rsB
  apply C.seqCut (fun y : RnX => PlS y.M (.slice y.A y.ys.length y.c) y.ys ∧ M1.le y.M ∧ y.ys.length ≤ 1000 ∧ ((¬ most ≤ (ys.length : Int) ∧ y.ys = ys) ∨ (most ≤ (ys.length : Int) ∧ ∃ i, ∃ hi : i < ys.length, eldO (sxL ys) = some (ys[i].x.id, ys[i].x.us) ∧ y.ys = ys.take i ++ ys.drop (i + 1))))
    (fun y => [(0, .pointer (some ⟨rb, 0, none⟩)), (1, .int .u64 id), (2, .int .u64 now)]) (fun y => y.M) (fun y => (rb, .cells [.slice y.A y.ys.length y.c, .int .i64 most, .int .u64 life].toArray 58 (0, 0)) :: H)
  · (repeat' (first | (apply R.step; (exact a_ok); exact rfl) | (first | (with_reducible first | apply R.nil | apply C.ret | apply C.block | apply C.skip | apply C.exit | apply Fin.thenRet | apply Fin.thenExit | apply Fin.blockNormal | apply Fin.blockRet | apply Fin.blockExit) | (with_reducible apply Fin.thenK; assumption) | (with_reducible apply C.seqK; intro _ _) | (with_reducible apply C.regionK; intro _ _) | (with_reducible apply Fin.blockOther; exact rfl)) | (first | (apply R.store; exact rfl; exact rfl; exact rfl; (exact a_at); (exact a_blit); exact rfl; (focus (simp [Value.oneCell']; done))) | (apply R.buildSlice0; exact rfl; intro bz) | (apply R.box; exact rfl; (simp only [Value.cells]; rfl); exact rfl; intro bx) | (apply R.alloc; (simp only [Value.cells]; rfl); exact rfl; intro ba) | (apply R.buildSlice; (exact a_prt); exact rfl; exact rfl; (exact a_fills); exact rfl; intro bl)) | (first | (apply R.guardT; assumption; exact rfl; exact rfl; exact rfl) | (apply R.guardF; assumption; exact rfl; exact rfl; exact rfl; exact rfl; exact rfl) | (apply R.guardU; assumption; exact rfl; exact rfl; exact rfl; exact rfl) | (apply R.guardDec; assumption; exact rfl; exact rfl; (intro h; skip; rotate_left; intro h; skip; rotate_left)) | (apply R.guardBeq; assumption; exact rfl; exact rfl; (intro h; skip; rotate_left; intro h; skip; rotate_left)) | (apply R.guardBne; assumption; exact rfl; exact rfl; (intro h; skip; rotate_left; intro h; skip; rotate_left)) | (apply R.guardNDec; assumption; exact rfl; exact rfl; (intro h; skip; rotate_left; intro h; skip; rotate_left)) | (apply R.guardNot; assumption; exact rfl; exact rfl; (intro h; skip; rotate_left; intro h; skip; rotate_left)) | (apply R.guardC; assumption; exact rfl; exact rfl; (intro h; skip; rotate_left; intro h; skip; rotate_left))) | (first | (apply C.condT; exact rfl) | (apply C.condF; exact rfl) | (apply C.condDec; exact rfl; (intro h; skip; rotate_left; intro h; skip; rotate_left)) | (apply C.condBeq; exact rfl; (intro h; skip; rotate_left; intro h; skip; rotate_left)) | (apply C.condBne; exact rfl; (intro h; skip; rotate_left; intro h; skip; rotate_left)) | (apply C.condNDec; exact rfl; (intro h; skip; rotate_left; intro h; skip; rotate_left)) | (apply C.condNot; exact rfl; (intro h; skip; rotate_left; intro h; skip; rotate_left)) | (apply C.cond; exact rfl; (intro h; skip; rotate_left; intro h; skip; rotate_left)))))
    (apply C.regionO (ks := [1, 1, 1, 1, 1, 1, 1, 1, 1, 1]) (is := [0, 1, 2, 3, 4, 5, 6, 7, 8, 9]) (Hs := _); exact Mix.h; exact Arr.self; (exact a_np); (exact a_picked); kernel_rfl; intro _ e; subst e)
    (repeat' (first | (first | (apply RP.step; intro _ _ _; (exact a_ok); exact rfl) | (apply RP.stepT; exact rfl; exact rfl; exact rfl; intro _ _ _; (exact a_ok); exact rfl) | (apply RP.stepF; exact rfl; exact rfl; exact rfl; exact rfl; exact rfl) | (apply RP.effF; exact rfl; exact rfl; exact rfl; exact rfl; exact rfl)) | (apply RP.callQ; (exact a_evs); exact rfl)))
    (first | apply RP.nil0 | apply RP.nil)
    (repeat' (first | (apply R.step; (exact a_ok); exact rfl) | (first | (with_reducible first | apply R.nil | apply C.ret | apply C.block | apply C.skip | apply C.exit | apply Fin.thenRet | apply Fin.thenExit | apply Fin.blockNormal | apply Fin.blockRet | apply Fin.blockExit) | (with_reducible apply Fin.thenK; assumption) | (with_reducible apply C.seqK; intro _ _) | (with_reducible apply C.regionK; intro _ _) | (with_reducible apply Fin.blockOther; exact rfl)) | (first | (apply R.store; exact rfl; exact rfl; exact rfl; (exact a_at); (exact a_blit); exact rfl; (focus (simp [Value.oneCell']; done))) | (apply R.buildSlice0; exact rfl; intro bz) | (apply R.box; exact rfl; (simp only [Value.cells]; rfl); exact rfl; intro bx) | (apply R.alloc; (simp only [Value.cells]; rfl); exact rfl; intro ba) | (apply R.buildSlice; (exact a_prt); exact rfl; exact rfl; (exact a_fills); exact rfl; intro bl)) | (first | (apply R.guardT; assumption; exact rfl; exact rfl; exact rfl) | (apply R.guardF; assumption; exact rfl; exact rfl; exact rfl; exact rfl; exact rfl) | (apply R.guardU; assumption; exact rfl; exact rfl; exact rfl; exact rfl) | (apply R.guardDec; assumption; exact rfl; exact rfl; (intro h; skip; rotate_left; intro h; skip; rotate_left)) | (apply R.guardBeq; assumption; exact rfl; exact rfl; (intro h; skip; rotate_left; intro h; skip; rotate_left)) | (apply R.guardBne; assumption; exact rfl; exact rfl; (intro h; skip; rotate_left; intro h; skip; rotate_left)) | (apply R.guardNDec; assumption; exact rfl; exact rfl; (intro h; skip; rotate_left; intro h; skip; rotate_left)) | (apply R.guardNot; assumption; exact rfl; exact rfl; (intro h; skip; rotate_left; intro h; skip; rotate_left)) | (apply R.guardC; assumption; exact rfl; exact rfl; (intro h; skip; rotate_left; intro h; skip; rotate_left))) | (first | (apply C.condT; exact rfl) | (apply C.condF; exact rfl) | (apply C.condDec; exact rfl; (intro h; skip; rotate_left; intro h; skip; rotate_left)) | (apply C.condBeq; exact rfl; (intro h; skip; rotate_left; intro h; skip; rotate_left)) | (apply C.condBne; exact rfl; (intro h; skip; rotate_left; intro h; skip; rotate_left)) | (apply C.condNDec; exact rfl; (intro h; skip; rotate_left; intro h; skip; rotate_left)) | (apply C.condNot; exact rfl; (intro h; skip; rotate_left; intro h; skip; rotate_left)) | (apply C.cond; exact rfl; (intro h; skip; rotate_left; intro h; skip; rotate_left)))))
    · have hfull : most ≤ (ys.length : Int) := by assumption
      obtain ⟨b0, o0, c0, e0, f0, hA, hMb, _⟩ := ses_at g3 (by omega : 0 < ys.length)
      subst hA
      have hcell : ∀ (j : Nat) (hj : j < ys.length) (q : Nat) u, (seC ys[j].x)[q]? = some u → c0[o0 + j * 4 + q]? = some u := fun j hj q u hq => by
        obtain ⟨b1, o1, c1, e1, f1, hA, hM1b, hc1⟩ := ses_at g3 hj
        cases hA
        rw [hMb] at hM1b
        cases hM1b
        exact hc1 q u hq
      apply C.loop (fun y : LsX => (y.i : Int) = y.ii ∧ (y.m : Int) = y.mm ∧ 1 ≤ y.i ∧ y.i ≤ ys.length ∧ y.m < y.i ∧ ∃ h : y.m < ys.length, eldO (sxL (ys.take y.i)) = some (ys[y.m].x.id, ys[y.m].x.us))
        (fun y => [(0, .pointer (some ⟨rb, 0, none⟩)), (1, .int .u64 id), (2, .int .u64 now), (8, .int .i64 y.mm), (9, .int .i64 y.ii)]) (fun _ => M1) (fun _ => (rb, .cells [.slice (some ⟨b0, o0, none⟩) ys.length c, .int .i64 most, .int .u64 life].toArray 58 (0, 0)) :: H) (fun y => ys.length - y.i) ⟨1, 1, 0, 0⟩
      · exact ⟨rfl, rfl, Nat.le_refl _, by dsimp only; omega, by dsimp only; omega, by dsimp only; omega, by dsimp only; rw [sxL_take ys (by omega : 0 < ys.length)]; rfl⟩
      · (exact a_subs)
      · exact rfl
      · exact rfl
      rintro ⟨i, ii, m, mm⟩ ⟨hii, hmm, hi1, hin2, hmi, hml, he⟩
      dsimp only at hii hmm hi1 hin2 hmi hml he ⊢
      (repeat' (first | (apply R.step; (exact a_ok); exact rfl) | (first | (with_reducible first | apply R.nil | apply C.ret | apply C.block | apply C.skip | apply C.exit | apply Fin.thenRet | apply Fin.thenExit | apply Fin.blockNormal | apply Fin.blockRet | apply Fin.blockExit) | (with_reducible apply Fin.thenK; assumption) | (with_reducible apply C.seqK; intro _ _) | (with_reducible apply C.regionK; intro _ _) | (with_reducible apply Fin.blockOther; exact rfl)) | (first | (apply R.store; exact rfl; exact rfl; exact rfl; (exact a_at); (exact a_blit); exact rfl; (focus (simp [Value.oneCell']; done))) | (apply R.buildSlice0; exact rfl; intro bz) | (apply R.box; exact rfl; (simp only [Value.cells]; rfl); exact rfl; intro bx) | (apply R.alloc; (simp only [Value.cells]; rfl); exact rfl; intro ba) | (apply R.buildSlice; (exact a_prt); exact rfl; exact rfl; (exact a_fills); exact rfl; intro bl)) | (first | (apply R.guardT; assumption; exact rfl; exact rfl; exact rfl) | (apply R.guardF; assumption; exact rfl; exact rfl; exact rfl; exact rfl; exact rfl) | (apply R.guardU; assumption; exact rfl; exact rfl; exact rfl; exact rfl) | (apply R.guardDec; assumption; exact rfl; exact rfl; (intro h; skip; rotate_left; intro h; skip; rotate_left)) | (apply R.guardBeq; assumption; exact rfl; exact rfl; (intro h; skip; rotate_left; intro h; skip; rotate_left)) | (apply R.guardBne; assumption; exact rfl; exact rfl; (intro h; skip; rotate_left; intro h; skip; rotate_left)) | (apply R.guardNDec; assumption; exact rfl; exact rfl; (intro h; skip; rotate_left; intro h; skip; rotate_left)) | (apply R.guardNot; assumption; exact rfl; exact rfl; (intro h; skip; rotate_left; intro h; skip; rotate_left)) | (apply R.guardC; assumption; exact rfl; exact rfl; (intro h; skip; rotate_left; intro h; skip; rotate_left))) | (first | (apply C.condT; exact rfl) | (apply C.condF; exact rfl) | (apply C.condDec; exact rfl; (intro h; skip; rotate_left; intro h; skip; rotate_left)) | (apply C.condBeq; exact rfl; (intro h; skip; rotate_left; intro h; skip; rotate_left)) | (apply C.condBne; exact rfl; (intro h; skip; rotate_left; intro h; skip; rotate_left)) | (apply C.condNDec; exact rfl; (intro h; skip; rotate_left; intro h; skip; rotate_left)) | (apply C.condNot; exact rfl; (intro h; skip; rotate_left; intro h; skip; rotate_left)) | (apply C.cond; exact rfl; (intro h; skip; rotate_left; intro h; skip; rotate_left)))))
      · have hlt : ii < (ys.length : Int) := by assumption
        have hix : i < ys.length := by omega
        have hs0 : c0[o0 + ii.toNat * 4 + 2]? = some (.int .u64 ys[i].x.us) := by
          rw [show ii.toNat = i by omega]
          exact hcell i hix 2 _ rfl
        have hs1 : c0[o0 + mm.toNat * 4 + 2]? = some (.int .u64 ys[m].x.us) := by
          rw [show mm.toNat = m by omega]
          exact hcell m hml 2 _ rfl
        have hstep := sxL_take ys hix
        rw [he] at hstep
        unfold eldF at hstep
        dsimp only at hstep
        (apply C.regionO (ks := [1, 1, 1, 1, 1, 1, 1, 1, 1, 1, 1, 1, 1, 1, 1, 1, 1]) (is := [0, 1, 2, 3, 4, 5, 6, 7, 8, 9, 10, 11, 12, 13, 14, 15, 16]) (Hs := _); exact Mix.h; exact Arr.self; (exact a_np); (exact a_picked); kernel_rfl; intro _ e; subst e)
        (repeat' (first | (first | (apply RP.step; intro _ _ _; (exact a_ok); exact rfl) | (apply RP.stepT; exact rfl; exact rfl; exact rfl; intro _ _ _; (exact a_ok); exact rfl) | (apply RP.stepF; exact rfl; exact rfl; exact rfl; exact rfl; exact rfl) | (apply RP.effF; exact rfl; exact rfl; exact rfl; exact rfl; exact rfl)) | (apply RP.callQ; (exact a_evs); exact rfl)))
        (first | apply RP.nil0 | apply RP.nil)
        (repeat' (first | (apply R.step; (exact a_ok); exact rfl) | (first | (with_reducible first | apply R.nil | apply C.ret | apply C.block | apply C.skip | apply C.exit | apply Fin.thenRet | apply Fin.thenExit | apply Fin.blockNormal | apply Fin.blockRet | apply Fin.blockExit) | (with_reducible apply Fin.thenK; assumption) | (with_reducible apply C.seqK; intro _ _) | (with_reducible apply C.regionK; intro _ _) | (with_reducible apply Fin.blockOther; exact rfl)) | (first | (apply R.store; exact rfl; exact rfl; exact rfl; (exact a_at); (exact a_blit); exact rfl; (focus (simp [Value.oneCell']; done))) | (apply R.buildSlice0; exact rfl; intro bz) | (apply R.box; exact rfl; (simp only [Value.cells]; rfl); exact rfl; intro bx) | (apply R.alloc; (simp only [Value.cells]; rfl); exact rfl; intro ba) | (apply R.buildSlice; (exact a_prt); exact rfl; exact rfl; (exact a_fills); exact rfl; intro bl)) | (first | (apply R.guardT; assumption; exact rfl; exact rfl; exact rfl) | (apply R.guardF; assumption; exact rfl; exact rfl; exact rfl; exact rfl; exact rfl) | (apply R.guardU; assumption; exact rfl; exact rfl; exact rfl; exact rfl) | (apply R.guardDec; assumption; exact rfl; exact rfl; (intro h; skip; rotate_left; intro h; skip; rotate_left)) | (apply R.guardBeq; assumption; exact rfl; exact rfl; (intro h; skip; rotate_left; intro h; skip; rotate_left)) | (apply R.guardBne; assumption; exact rfl; exact rfl; (intro h; skip; rotate_left; intro h; skip; rotate_left)) | (apply R.guardNDec; assumption; exact rfl; exact rfl; (intro h; skip; rotate_left; intro h; skip; rotate_left)) | (apply R.guardNot; assumption; exact rfl; exact rfl; (intro h; skip; rotate_left; intro h; skip; rotate_left)) | (apply R.guardC; assumption; exact rfl; exact rfl; (intro h; skip; rotate_left; intro h; skip; rotate_left))) | (first | (apply C.condT; exact rfl) | (apply C.condF; exact rfl) | (apply C.condDec; exact rfl; (intro h; skip; rotate_left; intro h; skip; rotate_left)) | (apply C.condBeq; exact rfl; (intro h; skip; rotate_left; intro h; skip; rotate_left)) | (apply C.condBne; exact rfl; (intro h; skip; rotate_left; intro h; skip; rotate_left)) | (apply C.condNDec; exact rfl; (intro h; skip; rotate_left; intro h; skip; rotate_left)) | (apply C.condNot; exact rfl; (intro h; skip; rotate_left; intro h; skip; rotate_left)) | (apply C.cond; exact rfl; (intro h; skip; rotate_left; intro h; skip; rotate_left)))))
        · have hu : ys[i].x.us < ys[m].x.us := by assumption
          rw [if_pos hu] at hstep
          refine Fin.again (⟨i + 1, ii + 1, i, ii⟩ : LsX) ⟨by dsimp only; omega, hii, by dsimp only; omega, by dsimp only; omega, by dsimp only; omega, hix, hstep⟩ (by dsimp only; omega) ?_ rfl rfl
          (exact a_subs)
        · have hu : ¬ ys[i].x.us < ys[m].x.us := by assumption
          rw [if_neg hu] at hstep
          refine Fin.again (⟨i + 1, ii + 1, m, mm⟩ : LsX) ⟨by dsimp only; omega, hmm, by dsimp only; omega, by dsimp only; omega, by dsimp only; omega, hml, hstep⟩ (by dsimp only; omega) ?_ rfl rfl
          (exact a_subs)
      have hie : i = ys.length := by omega
      rw [hie, List.take_length] at he
      (apply C.regionE (isA := [0, 2, 3, 4, 5, 6, 7, 9, 10, 11, 12, 13, 14, 15, 1, 8, 16]) (ksA := [true, true, true, true, true, true, true, true, true, true, true, true, true, true, false, false, false]) (isB := [17, 18, 19]) (ksB := [1, 1, 0]) (Hs := [(rb, .cells [.slice (some ⟨b0, o0, none⟩) ys.length c, .int .i64 most, .int .u64 life].toArray 58 (0, 0))]); exact Mix.h; (first | exact Arr.all _ | (exact a_arr)); (exact a_np); (exact a_picked); (exact a_picked); kernel_rfl; intro _ e; subst e)
      (repeat' (first | (apply RQ.step; intro _ _ _; (first | (apply Ok.sliceHi; exact rfl; exact rfl; omega; omega) | (apply Ok.sliceLo; exact rfl; exact rfl; omega; omega)); exact rfl) | (apply RQ.step; intro _ _ _; (exact a_ok); exact rfl) | (apply RQ.stepT; exact rfl; exact rfl; exact rfl; intro _ _ _; (exact a_ok); exact rfl) | (apply RQ.stepF; exact rfl; exact rfl; exact rfl; exact rfl; exact rfl)))
      rw [show mm.toNat = m by omega, show (mm + 1).toNat = m + 1 by omega]
      (apply RQ.eff; intro Kc hKc ops0)
      (first | (apply R.store; exact rfl; exact rfl; exact rfl; (exact a_at); (exact a_blit); exact rfl; (focus (simp [Value.oneCell']; done))) | (apply R.buildSlice0; exact rfl; intro bz) | (apply R.box; exact rfl; (simp only [Value.cells]; rfl); exact rfl; intro bx) | (apply R.alloc; (simp only [Value.cells]; rfl); exact rfl; intro ba) | (apply R.buildSlice; (exact a_prt); exact rfl; exact rfl; (exact a_fills); exact rfl; intro bl))
      (apply R.nil; apply Fin.kq hKc (Hx := (bz, .cells #[] 43 (0, 0)) :: H); exact Mem.le_refl _; (exact a_arr))
      (apply RQ.eff; intro Kc hKc ops0)
      (apply R.append (news := sesC (ys.take m)) (k := m); exact rfl; exact rfl; exact Own.empty; (exact a_tk); exact Pl.rd (by rw [← sesC_take]; exact g3.take _); (rw [sesC_len, List.length_take]; omega); exact sesC_one _; omega; exact rfl; decide; decide; exact rfl; rintro v1 hp1 ho1)
      rw [Nat.zero_add, List.nil_append] at ho1
      obtain ⟨A1, c1, rfl, hc1, hc2⟩ := ho1.form
      (apply R.nil; apply Fin.kq hKc (Hx := hp1 ++ H); exact Mem.le_refl _; (exact a_arr))
      (apply RQ.eff; intro Kc hKc ops0)
      (apply R.append (news := sesC (ys.drop (m + 1))) (k := ys.length - (m + 1)); exact rfl; exact rfl; exact ho1; (exact a_tk); exact Pl.rd (by rw [← sesC_drop]; exact g3.cut (by rw [sesC_len]; omega)); (rw [sesC_len, List.length_drop]); exact sesC_one _; omega; exact rfl; decide; decide; exact rfl; rintro v2 hp2 ho2)
      obtain ⟨A2, c2, rfl, hc3, hc4⟩ := ho2.form
      (apply R.nil; apply Fin.kq hKc (Hx := hp2 ++ H); exact Mem.le_refl _; (exact a_arr))
      apply RQ.nil
      (repeat' (first | (first | (apply RP.step; intro _ _ _; (exact a_ok); exact rfl) | (apply RP.stepT; exact rfl; exact rfl; exact rfl; intro _ _ _; (exact a_ok); exact rfl) | (apply RP.stepF; exact rfl; exact rfl; exact rfl; exact rfl; exact rfl) | (apply RP.effF; exact rfl; exact rfl; exact rfl; exact rfl; exact rfl)) | (apply RP.callQ; (exact a_evs); exact rfl)))
      (apply RP.eff; intro Kc hKc ops0)
      (first | (apply R.store; exact rfl; exact rfl; exact rfl; (exact a_at); (exact a_blit); exact rfl; (focus (simp [Value.oneCell']; done))) | (apply R.buildSlice0; exact rfl; intro bz) | (apply R.box; exact rfl; (simp only [Value.cells]; rfl); exact rfl; intro bx) | (apply R.alloc; (simp only [Value.cells]; rfl); exact rfl; intro ba) | (apply R.buildSlice; (exact a_prt); exact rfl; exact rfl; (exact a_fills); exact rfl; intro bl))
      (apply R.nil; apply Fin.kp hKc; exact Mem.le_refl _; (exact a_arr))
      (first | apply RP.nil0 | apply RP.nil)
      apply Fin.ice (hp := hp2) (H1 := (rb, .cells [.slice A2 (m + (ys.length - (m + 1))) c2, .int .i64 most, .int .u64 life].toArray 58 (0, 0)) :: H) (by ((try simp only [List.append_assoc, List.cons_append, List.nil_append, List.append_nil]); exact a_arr))
      intro M2 hM2 hin5
      rw [← sesC_app] at ho2
      have hl5 : m + (ys.length - (m + 1)) = (ys.take m ++ ys.drop (m + 1)).length := by rw [List.length_append, List.length_take, List.length_drop]; omega
      have hpl5 := ho2.plIn hin5
      rw [hl5] at hc3 ⊢
      unfold maxLen at hc4
      exact Fin.join (⟨A2, c2, ys.take m ++ ys.drop (m + 1), M2⟩ : RnX) ⟨⟨A2, c2, rfl, hc3, by omega, hpl5, fun y hy => by
        rcases List.mem_append.1 hy with hy | hy
        · exact (g4 y (List.mem_of_mem_take hy)).mono hM2
        · exact (g4 y (List.mem_of_mem_drop hy)).mono hM2⟩, hM2, by dsimp only; omega, .inr ⟨hfull, m, hml, he, rfl⟩⟩ (by (exact a_subs)) rfl rfl
    · have hfull : ¬ most ≤ (ys.length : Int) := by assumption
      exact Fin.join (⟨A, c, ys, M1⟩ : RnX) ⟨hop, Mem.le_refl _, hn, .inl ⟨hfull, rfl⟩⟩ (by (exact a_subs)) rfl rfl
  rintro ⟨A5, c5, ys5, M5⟩ ⟨hop5, hM5, hn5, h2⟩
  dsimp only at hop5 hM5 hn5 h2 ⊢
  obtain ⟨_, _, hv5, q1, q2, q3, q4⟩ := hop5
  injection hv5 with e1 _ e3
  subst e1 e3
  (repeat' (first | (apply R.step; (exact a_ok); exact rfl) | (first | (with_reducible first | apply R.nil | apply C.ret | apply C.block | apply C.skip | apply C.exit | apply Fin.thenRet | apply Fin.thenExit | apply Fin.blockNormal | apply Fin.blockRet | apply Fin.blockExit) | (with_reducible apply Fin.thenK; assumption) | (with_reducible apply C.seqK; intro _ _) | (with_reducible apply C.regionK; intro _ _) | (with_reducible apply Fin.blockOther; exact rfl)) | (first | (apply R.store; exact rfl; exact rfl; exact rfl; (exact a_at); (exact a_blit); exact rfl; (focus (simp [Value.oneCell']; done))) | (apply R.buildSlice0; exact rfl; intro bz) | (apply R.box; exact rfl; (simp only [Value.cells]; rfl); exact rfl; intro bx) | (apply R.alloc; (simp only [Value.cells]; rfl); exact rfl; intro ba) | (apply R.buildSlice; (exact a_prt); exact rfl; exact rfl; (exact a_fills); exact rfl; intro bl)) | (first | (apply R.guardT; assumption; exact rfl; exact rfl; exact rfl) | (apply R.guardF; assumption; exact rfl; exact rfl; exact rfl; exact rfl; exact rfl) | (apply R.guardU; assumption; exact rfl; exact rfl; exact rfl; exact rfl) | (apply R.guardDec; assumption; exact rfl; exact rfl; (intro h; skip; rotate_left; intro h; skip; rotate_left)) | (apply R.guardBeq; assumption; exact rfl; exact rfl; (intro h; skip; rotate_left; intro h; skip; rotate_left)) | (apply R.guardBne; assumption; exact rfl; exact rfl; (intro h; skip; rotate_left; intro h; skip; rotate_left)) | (apply R.guardNDec; assumption; exact rfl; exact rfl; (intro h; skip; rotate_left; intro h; skip; rotate_left)) | (apply R.guardNot; assumption; exact rfl; exact rfl; (intro h; skip; rotate_left; intro h; skip; rotate_left)) | (apply R.guardC; assumption; exact rfl; exact rfl; (intro h; skip; rotate_left; intro h; skip; rotate_left))) | (first | (apply C.condT; exact rfl) | (apply C.condF; exact rfl) | (apply C.condDec; exact rfl; (intro h; skip; rotate_left; intro h; skip; rotate_left)) | (apply C.condBeq; exact rfl; (intro h; skip; rotate_left; intro h; skip; rotate_left)) | (apply C.condBne; exact rfl; (intro h; skip; rotate_left; intro h; skip; rotate_left)) | (apply C.condNDec; exact rfl; (intro h; skip; rotate_left; intro h; skip; rotate_left)) | (apply C.condNot; exact rfl; (intro h; skip; rotate_left; intro h; skip; rotate_left)) | (apply C.cond; exact rfl; (intro h; skip; rotate_left; intro h; skip; rotate_left)))))
  apply C.cutB (hk := by assumption) (I := fun y : SmX => (y.i : Int) = y.ii ∧ y.i ≤ ys5.length ∧ (∀ (j : Nat) (hj : j < ys5.length), j < y.i → ys5[j].x.id < id) ∧ ∀ hk : y.i < ys5.length, ¬ ys5[y.i].x.id < id) (Lf := fun y => [(0, .pointer (some ⟨rb, 0, none⟩)), (1, .int .u64 id), (2, .int .u64 now), (10, .int .i64 y.ii)]) (Mf := fun _ => M5) (Hf := fun _ => (rb, .cells [.slice A5 ys5.length c5, .int .i64 most, .int .u64 life].toArray 58 (0, 0)) :: H)
  · apply C.loop (fun y : SmX => (y.i : Int) = y.ii ∧ y.i ≤ ys5.length ∧ ∀ (j : Nat) (hj : j < ys5.length), j < y.i → ys5[j].x.id < id) (fun y => [(0, .pointer (some ⟨rb, 0, none⟩)), (1, .int .u64 id), (2, .int .u64 now), (10, .int .i64 y.ii)]) (fun _ => M5) (fun _ => (rb, .cells [.slice A5 ys5.length c5, .int .i64 most, .int .u64 life].toArray 58 (0, 0)) :: H) (fun y => ys5.length - y.i) ⟨0, 0⟩
    · exact ⟨rfl, Nat.zero_le _, fun j hj h => absurd h (Nat.not_lt_zero _)⟩
    · (exact a_subs)
    · exact rfl
    · exact rfl
    rintro ⟨k, kk⟩ ⟨hkk, hkn, hall⟩
    dsimp only at hkk hkn hall ⊢
    by_cases hkl : k < ys5.length
    · obtain ⟨b5, o5, c6, e6, f6, hA, hMb, hc⟩ := ses_at q3 hkl
      subst hA
      have hst0 : c6[o5 + kk.toNat * 4 + 0]? = some (.int .u64 ys5[k].x.id) := by
        rw [show kk.toNat = k by omega]
        exact hc 0 _ rfl
      clear hc
      (repeat' (first | (apply R.step; (exact a_ok); exact rfl) | (first | (with_reducible first | apply R.nil | apply C.ret | apply C.block | apply C.skip | apply C.exit | apply Fin.thenRet | apply Fin.thenExit | apply Fin.blockNormal | apply Fin.blockRet | apply Fin.blockExit) | (with_reducible apply Fin.thenK; assumption) | (with_reducible apply C.seqK; intro _ _) | (with_reducible apply C.regionK; intro _ _) | (with_reducible apply Fin.blockOther; exact rfl)) | (first | (apply R.store; exact rfl; exact rfl; exact rfl; (exact a_at); (exact a_blit); exact rfl; (focus (simp [Value.oneCell']; done))) | (apply R.buildSlice0; exact rfl; intro bz) | (apply R.box; exact rfl; (simp only [Value.cells]; rfl); exact rfl; intro bx) | (apply R.alloc; (simp only [Value.cells]; rfl); exact rfl; intro ba) | (apply R.buildSlice; (exact a_prt); exact rfl; exact rfl; (exact a_fills); exact rfl; intro bl)) | (first | (apply R.guardT; assumption; exact rfl; exact rfl; exact rfl) | (apply R.guardF; assumption; exact rfl; exact rfl; exact rfl; exact rfl; exact rfl) | (apply R.guardU; assumption; exact rfl; exact rfl; exact rfl; exact rfl) | (apply R.guardDec; assumption; exact rfl; exact rfl; (intro h; skip; rotate_left; intro h; skip; rotate_left)) | (apply R.guardBeq; assumption; exact rfl; exact rfl; (intro h; skip; rotate_left; intro h; skip; rotate_left)) | (apply R.guardBne; assumption; exact rfl; exact rfl; (intro h; skip; rotate_left; intro h; skip; rotate_left)) | (apply R.guardNDec; assumption; exact rfl; exact rfl; (intro h; skip; rotate_left; intro h; skip; rotate_left)) | (apply R.guardNot; assumption; exact rfl; exact rfl; (intro h; skip; rotate_left; intro h; skip; rotate_left)) | (apply R.guardC; assumption; exact rfl; exact rfl; (intro h; skip; rotate_left; intro h; skip; rotate_left))) | (first | (apply C.condT; exact rfl) | (apply C.condF; exact rfl) | (apply C.condDec; exact rfl; (intro h; skip; rotate_left; intro h; skip; rotate_left)) | (apply C.condBeq; exact rfl; (intro h; skip; rotate_left; intro h; skip; rotate_left)) | (apply C.condBne; exact rfl; (intro h; skip; rotate_left; intro h; skip; rotate_left)) | (apply C.condNDec; exact rfl; (intro h; skip; rotate_left; intro h; skip; rotate_left)) | (apply C.condNot; exact rfl; (intro h; skip; rotate_left; intro h; skip; rotate_left)) | (apply C.cond; exact rfl; (intro h; skip; rotate_left; intro h; skip; rotate_left)))))
      · have hlt : ys5[k].x.id < id := by assumption
        refine Fin.again (⟨k + 1, kk + 1⟩ : SmX) ⟨by dsimp only; omega, by dsimp only; omega, fun j hj hjk => ?_⟩ (by dsimp only; omega) ?_ rfl rfl
        · rcases Nat.lt_or_ge j k with h7 | h7
          · exact hall j hj h7
          · have hje : j = k := by dsimp only at hjk; omega
            subst hje
            exact hlt
        · (exact a_subs)
      · have hlt : ¬ ys5[k].x.id < id := by assumption
        exact Fin.join (⟨k, kk⟩ : SmX) ⟨hkk, hkn, hall, fun _ => hlt⟩ (by (exact a_subs)) rfl rfl
      · exfalso
        omega
    · (repeat' (first | (apply R.step; (exact a_ok); exact rfl) | (first | (with_reducible first | apply R.nil | apply C.ret | apply C.block | apply C.skip | apply C.exit | apply Fin.thenRet | apply Fin.thenExit | apply Fin.blockNormal | apply Fin.blockRet | apply Fin.blockExit) | (with_reducible apply Fin.thenK; assumption) | (with_reducible apply C.seqK; intro _ _) | (with_reducible apply C.regionK; intro _ _) | (with_reducible apply Fin.blockOther; exact rfl)) | (first | (apply R.store; exact rfl; exact rfl; exact rfl; (exact a_at); (exact a_blit); exact rfl; (focus (simp [Value.oneCell']; done))) | (apply R.buildSlice0; exact rfl; intro bz) | (apply R.box; exact rfl; (simp only [Value.cells]; rfl); exact rfl; intro bx) | (apply R.alloc; (simp only [Value.cells]; rfl); exact rfl; intro ba) | (apply R.buildSlice; (exact a_prt); exact rfl; exact rfl; (exact a_fills); exact rfl; intro bl)) | (first | (apply R.guardT; assumption; exact rfl; exact rfl; exact rfl) | (apply R.guardF; assumption; exact rfl; exact rfl; exact rfl; exact rfl; exact rfl) | (apply R.guardU; assumption; exact rfl; exact rfl; exact rfl; exact rfl) | (apply R.guardDec; assumption; exact rfl; exact rfl; (intro h; skip; rotate_left; intro h; skip; rotate_left)) | (apply R.guardBeq; assumption; exact rfl; exact rfl; (intro h; skip; rotate_left; intro h; skip; rotate_left)) | (apply R.guardBne; assumption; exact rfl; exact rfl; (intro h; skip; rotate_left; intro h; skip; rotate_left)) | (apply R.guardNDec; assumption; exact rfl; exact rfl; (intro h; skip; rotate_left; intro h; skip; rotate_left)) | (apply R.guardNot; assumption; exact rfl; exact rfl; (intro h; skip; rotate_left; intro h; skip; rotate_left)) | (apply R.guardC; assumption; exact rfl; exact rfl; (intro h; skip; rotate_left; intro h; skip; rotate_left))) | (first | (apply C.condT; exact rfl) | (apply C.condF; exact rfl) | (apply C.condDec; exact rfl; (intro h; skip; rotate_left; intro h; skip; rotate_left)) | (apply C.condBeq; exact rfl; (intro h; skip; rotate_left; intro h; skip; rotate_left)) | (apply C.condBne; exact rfl; (intro h; skip; rotate_left; intro h; skip; rotate_left)) | (apply C.condNDec; exact rfl; (intro h; skip; rotate_left; intro h; skip; rotate_left)) | (apply C.condNot; exact rfl; (intro h; skip; rotate_left; intro h; skip; rotate_left)) | (apply C.cond; exact rfl; (intro h; skip; rotate_left; intro h; skip; rotate_left)))))
      · exfalso
        omega
      · exact Fin.join (⟨k, kk⟩ : SmX) ⟨hkk, hkn, hall, fun h => absurd h hkl⟩ (by (exact a_subs)) rfl rfl
  · rintro ⟨k, kk⟩ ⟨hkk, hkn, hk2, hk3⟩
    dsimp only at hkk hkn hk2 hk3 ⊢
    (repeat' (first | (apply R.step; (exact a_ok); exact rfl) | (first | (with_reducible first | apply R.nil | apply C.ret | apply C.block | apply C.skip | apply C.exit | apply Fin.thenRet | apply Fin.thenExit | apply Fin.blockNormal | apply Fin.blockRet | apply Fin.blockExit) | (with_reducible apply Fin.thenK; assumption) | (with_reducible apply C.seqK; intro _ _) | (with_reducible apply C.regionK; intro _ _) | (with_reducible apply Fin.blockOther; exact rfl)) | (first | (apply R.store; exact rfl; exact rfl; exact rfl; (exact a_at); (exact a_blit); exact rfl; (focus (simp [Value.oneCell']; done))) | (apply R.buildSlice0; exact rfl; intro bz) | (apply R.box; exact rfl; (simp only [Value.cells]; rfl); exact rfl; intro bx) | (apply R.alloc; (simp only [Value.cells]; rfl); exact rfl; intro ba) | (apply R.buildSlice; (exact a_prt); exact rfl; exact rfl; (exact a_fills); exact rfl; intro bl)) | (first | (apply R.guardT; assumption; exact rfl; exact rfl; exact rfl) | (apply R.guardF; assumption; exact rfl; exact rfl; exact rfl; exact rfl; exact rfl) | (apply R.guardU; assumption; exact rfl; exact rfl; exact rfl; exact rfl) | (apply R.guardDec; assumption; exact rfl; exact rfl; (intro h; skip; rotate_left; intro h; skip; rotate_left)) | (apply R.guardBeq; assumption; exact rfl; exact rfl; (intro h; skip; rotate_left; intro h; skip; rotate_left)) | (apply R.guardBne; assumption; exact rfl; exact rfl; (intro h; skip; rotate_left; intro h; skip; rotate_left)) | (apply R.guardNDec; assumption; exact rfl; exact rfl; (intro h; skip; rotate_left; intro h; skip; rotate_left)) | (apply R.guardNot; assumption; exact rfl; exact rfl; (intro h; skip; rotate_left; intro h; skip; rotate_left)) | (apply R.guardC; assumption; exact rfl; exact rfl; (intro h; skip; rotate_left; intro h; skip; rotate_left))) | (first | (apply C.condT; exact rfl) | (apply C.condF; exact rfl) | (apply C.condDec; exact rfl; (intro h; skip; rotate_left; intro h; skip; rotate_left)) | (apply C.condBeq; exact rfl; (intro h; skip; rotate_left; intro h; skip; rotate_left)) | (apply C.condBne; exact rfl; (intro h; skip; rotate_left; intro h; skip; rotate_left)) | (apply C.condNDec; exact rfl; (intro h; skip; rotate_left; intro h; skip; rotate_left)) | (apply C.condNot; exact rfl; (intro h; skip; rotate_left; intro h; skip; rotate_left)) | (apply C.cond; exact rfl; (intro h; skip; rotate_left; intro h; skip; rotate_left)))))
    (apply C.regionY (isA := [0, 1, 2, 3, 4, 5, 6, 7, 9, 10, 11, 14, 15, 16, 17, 18, 19, 8, 12, 13, 20]) (ksA := [1, 1, 1, 1, 1, 1, 1, 1, 1, 1, 1, 1, 1, 1, 1, 1, 1, 2, 2, 0, 0]) (isB := [21, 22, 23]) (ksB := [1, 1, 0]) (Hs := [(rb, .cells [.slice A5 ys5.length c5, .int .i64 most, .int .u64 life].toArray 58 (0, 0))]); exact Mix.h; (first | exact Arr.all _ | (exact a_arr)); (exact a_np); (exact a_picked); (exact a_picked); kernel_rfl; intro _ e; subst e)
    (repeat' (first | (apply RY.step; intro _ _ _; (first | (apply Ok.sliceHi; exact rfl; exact rfl; omega; omega) | (apply Ok.sliceLo; exact rfl; exact rfl; omega; omega)); exact rfl) | (apply RY.step; intro _ _ _; (exact a_ok); exact rfl) | (apply RY.stepT; exact rfl; exact rfl; exact rfl; intro _ _ _; (exact a_ok); exact rfl) | (apply RY.stepF; exact rfl; exact rfl; exact rfl; exact rfl; exact rfl)))
    rw [show kk.toNat = k by omega]
    apply RY.pair (I := fun y : PsX => Own 43 4 y.v k (sesC (ys5.take k)) y.hp) (Lf := fun y => [(116, y.v), (120, .slice (some ⟨y.b, 0, none⟩) 1 1), (127, .slice (adv A5 k 4 c5) (ys5.length - k) (c5 - k)), (108, .pointer (some ⟨rb, 0, none⟩))]) (Mf := fun _ => M5) (Hf := fun y => y.hp ++ ((y.b, .cells [.int .u64 id, .int .u64 0, .int .u64 now, .slice none 0 0].toArray 43 (0, 0)) :: H))
    · intro Kc hKc ops0
      (apply R.append (news := sesC (ys5.take k)) (k := k); exact rfl; exact rfl; exact Own.nil _ _; exact Tk.none _; exact Pl.rd (by rw [← sesC_take]; exact q3.take _); (rw [sesC_len, List.length_take]; omega); exact sesC_one _; omega; exact rfl; decide; decide; exact rfl; rintro v' hp' ho')
      rw [Nat.zero_add, List.nil_append] at ho'
      apply R.nil
      apply Fin.ke hKc (Hx := hp' ++ H) (Mem.le_refl _) (by (exact a_arr))
      intro ops1
      (apply R.buildSlice; (exact a_prt); exact rfl; exact rfl; (exact a_fills); exact rfl; intro bl)
      apply R.nil
      apply Fin.meet (⟨v', bl, hp'⟩ : PsX) ho' (Mem.le_refl _) ?_ rfl (by (exact a_arr))
      dsimp only
      (exact a_subs)
    · intro Kc hKc ops0
      (apply R.buildSlice; (exact a_prt); exact rfl; exact rfl; (exact a_fills); exact rfl; intro bl)
      apply R.nil
      apply Fin.ke hKc (Hx := (bl, .cells [.int .u64 id, .int .u64 0, .int .u64 now, .slice none 0 0].toArray 43 (0, 0)) :: H) (Mem.le_refl _) (by (exact a_arr))
      intro ops1
      (apply R.append (news := sesC (ys5.take k)) (k := k); exact rfl; exact rfl; exact Own.nil _ _; exact Tk.none _; exact Pl.rd (by rw [← sesC_take]; exact q3.take _); (rw [sesC_len, List.length_take]; omega); exact sesC_one _; omega; exact rfl; decide; decide; exact rfl; rintro v' hp' ho')
      rw [Nat.zero_add, List.nil_append] at ho'
      apply R.nil
      apply Fin.meet (⟨v', bl, hp'⟩ : PsX) ho' (Mem.le_refl _) ?_ rfl (by (exact a_arr))
      dsimp only
      (exact a_subs)
    rintro ⟨v', bl, hp'⟩ ho'
    dsimp only at ho' ⊢
    obtain ⟨A6, c6, rfl, _, _⟩ := ho'.form
    (apply RY.eff; intro Kc hKc ops0)
    (apply R.append (news := seC (frS id now).x) (k := 1); exact rfl; exact rfl; exact ho'; (exact a_tk); exact Rd.at_ (l := seC (frS id now).x) (by (exact a_at)) (fun j x h => by rw [Nat.zero_add]; exact h); exact rfl; exact seC_one _; omega; exact rfl; decide; decide; exact rfl; rintro v3 hp3 ho3)
    obtain ⟨A7, c7, rfl, _, _⟩ := ho3.form
    (apply R.nil; apply Fin.ky hKc (Hx := hp3 ++ H); exact Mem.le_refl _; (exact a_arr))
    (apply RY.eff; intro Kc hKc ops0)
    (apply R.append (news := sesC (ys5.drop k)) (k := ys5.length - k); exact rfl; exact rfl; exact ho3; (exact a_tk); exact Pl.rd (by rw [← sesC_drop]; exact q3.cut (by rw [sesC_len]; omega)); (rw [sesC_len, List.length_drop]); exact sesC_one _; omega; exact rfl; decide; decide; exact rfl; rintro v4 hp4 ho4)
    obtain ⟨A8, c8, rfl, _, _⟩ := ho4.form
    (apply R.nil; apply Fin.ky hKc (Hx := hp4 ++ H); exact Mem.le_refl _; (exact a_arr))
    apply RY.nil
    (repeat' (first | (first | (apply RP.step; intro _ _ _; (exact a_ok); exact rfl) | (apply RP.stepT; exact rfl; exact rfl; exact rfl; intro _ _ _; (exact a_ok); exact rfl) | (apply RP.stepF; exact rfl; exact rfl; exact rfl; exact rfl; exact rfl) | (apply RP.effF; exact rfl; exact rfl; exact rfl; exact rfl; exact rfl)) | (apply RP.callQ; (exact a_evs); exact rfl)))
    (apply RP.eff; intro Kc hKc ops0)
    (first | (apply R.store; exact rfl; exact rfl; exact rfl; (exact a_at); (exact a_blit); exact rfl; (focus (simp [Value.oneCell']; done))) | (apply R.buildSlice0; exact rfl; intro bz) | (apply R.box; exact rfl; (simp only [Value.cells]; rfl); exact rfl; intro bx) | (apply R.alloc; (simp only [Value.cells]; rfl); exact rfl; intro ba) | (apply R.buildSlice; (exact a_prt); exact rfl; exact rfl; (exact a_fills); exact rfl; intro bl))
    (apply R.nil; apply Fin.kp hKc; exact Mem.le_refl _; (exact a_arr))
    (first | apply RP.nil0 | apply RP.nil)
    (repeat' (first | (apply R.step; (exact a_ok); exact rfl) | (first | (with_reducible first | apply R.nil | apply C.ret | apply C.block | apply C.skip | apply C.exit | apply Fin.thenRet | apply Fin.thenExit | apply Fin.blockNormal | apply Fin.blockRet | apply Fin.blockExit) | (with_reducible apply Fin.thenK; assumption) | (with_reducible apply C.seqK; intro _ _) | (with_reducible apply C.regionK; intro _ _) | (with_reducible apply Fin.blockOther; exact rfl)) | (first | (apply R.store; exact rfl; exact rfl; exact rfl; (exact a_at); (exact a_blit); exact rfl; (focus (simp [Value.oneCell']; done))) | (apply R.buildSlice0; exact rfl; intro bz) | (apply R.box; exact rfl; (simp only [Value.cells]; rfl); exact rfl; intro bx) | (apply R.alloc; (simp only [Value.cells]; rfl); exact rfl; intro ba) | (apply R.buildSlice; (exact a_prt); exact rfl; exact rfl; (exact a_fills); exact rfl; intro bl)) | (first | (apply R.guardT; assumption; exact rfl; exact rfl; exact rfl) | (apply R.guardF; assumption; exact rfl; exact rfl; exact rfl; exact rfl; exact rfl) | (apply R.guardU; assumption; exact rfl; exact rfl; exact rfl; exact rfl) | (apply R.guardDec; assumption; exact rfl; exact rfl; (intro h; skip; rotate_left; intro h; skip; rotate_left)) | (apply R.guardBeq; assumption; exact rfl; exact rfl; (intro h; skip; rotate_left; intro h; skip; rotate_left)) | (apply R.guardBne; assumption; exact rfl; exact rfl; (intro h; skip; rotate_left; intro h; skip; rotate_left)) | (apply R.guardNDec; assumption; exact rfl; exact rfl; (intro h; skip; rotate_left; intro h; skip; rotate_left)) | (apply R.guardNot; assumption; exact rfl; exact rfl; (intro h; skip; rotate_left; intro h; skip; rotate_left)) | (apply R.guardC; assumption; exact rfl; exact rfl; (intro h; skip; rotate_left; intro h; skip; rotate_left))) | (first | (apply C.condT; exact rfl) | (apply C.condF; exact rfl) | (apply C.condDec; exact rfl; (intro h; skip; rotate_left; intro h; skip; rotate_left)) | (apply C.condBeq; exact rfl; (intro h; skip; rotate_left; intro h; skip; rotate_left)) | (apply C.condBne; exact rfl; (intro h; skip; rotate_left; intro h; skip; rotate_left)) | (apply C.condNDec; exact rfl; (intro h; skip; rotate_left; intro h; skip; rotate_left)) | (apply C.condNot; exact rfl; (intro h; skip; rotate_left; intro h; skip; rotate_left)) | (apply C.cond; exact rfl; (intro h; skip; rotate_left; intro h; skip; rotate_left)))))
    (apply Fin.returnA (H2 := (rb, rsB (.slice A8 (k + 1 + (ys5.length - k)) c8) most life) :: (hp4 ++ H)); assumption; exact .inl rfl; exact rfl; (exact a_res); (simp only [retv]; rfl); (exact a_arr))
    refine ⟨rfl, ys5, k, _, hp4, h2, hkn, hk2, hk3, ⟨?_, ?_⟩, hM1.trans_ hM5, rfl⟩
    · have hl : (insS ys5 k id now).length = k + 1 + (ys5.length - k) := by
        unfold insS
        rw [List.length_append, List.length_take, List.length_cons, List.length_drop]
        omega
      have hcc : sesC (insS ys5 k id now) = sesC (ys5.take k) ++ seC (frS id now).x ++ sesC (ys5.drop k) := by
        unfold insS
        rw [sesC_app, List.append_assoc]
        rfl
      rw [hl, hcc]
      exact ho4
    · intro y hy
      rcases List.mem_append.1 hy with hy | hy
      · exact q4 y (List.mem_of_mem_take hy)
      · rcases List.mem_cons.1 hy with rfl | hy
        · exact ⟨rfl, Nat.le_refl _, Nat.zero_le _, Pl.nil⟩
        · exact q4 y (List.mem_of_mem_drop hy)
end Go.Sx
