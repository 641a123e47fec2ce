/- The disk: one file, to which is appended. -/
import Derived.Test.YtmimdoggljemjaaD10s
import Derived.Test.YtmimdoggljemjaaSxX
namespace Go.Sx
open Go Go.Proofs Go.RowKit
def onF (n : Txt) : Option Txt → Fs
  | none => []
  | some b => [(n, b)]
theorem onF_get (n : Txt) (x : Option Txt) : getS (onF n x) n = x := by
  cases x with
  | none => rfl
  | some b => simp [onF, getS]
theorem onF_put (n : Txt) (x : Option Txt) (b : Txt) : putS (onF n x) n b = onF n (some b) := by
  cases x with
  | none => simp [onF, putS, keyS]
  | some c => simp [onF, putS, keyS]
theorem onF_app (n : Txt) (x : Option Txt) (b : Txt) : doF (onF n x) (.app n b) = onF n (some (x.getD [] ++ b)) := by
  show putS (onF n x) n (fileD (onF n x) n ++ b) = _
  unfold fileD
  rw [onF_get, onF_put]
def catO (x : Option Txt) : List Txt → Option Txt
  | [] => x
  | b :: bs => catO (some (x.getD [] ++ b)) bs
theorem onF_apps (n : Txt) : ∀ (ls : List Txt) (x : Option Txt), (ls.map (De.app n)).foldl doF (onF n x) = onF n (catO x ls)
  | [], _ => rfl
  | b :: ls, x => by
    rw [List.map_cons, List.foldl_cons, onF_app]
    exact onF_apps n ls _
theorem catO_getD : ∀ (ls : List Txt) (x : Option Txt), (catO x ls).getD [] = x.getD [] ++ ls.flatten
  | [], x => by rw [List.flatten_nil, List.append_nil]; rfl
  | b :: ls, x => by
    show (catO (some (x.getD [] ++ b)) ls).getD [] = _
    rw [catO_getD ls, List.flatten_cons, ← List.append_assoc]
    rfl
theorem catO_some : ∀ (ls : List Txt) (b : Txt), catO (some b) ls = some (b ++ ls.flatten)
  | [], b => by rw [List.flatten_nil, List.append_nil]; rfl
  | c :: ls, b => by
    show catO (some (b ++ c)) ls = _
    rw [catO_some ls, List.flatten_cons, List.append_assoc]
theorem catO_isSome (ls : List Txt) (x : Option Txt) : (catO x ls).isSome = (x.isSome || decide (0 < ls.length)) := by
  cases ls with
  | nil => cases x <;> rfl
  | cons b ls =>
    show (catO (some (x.getD [] ++ b)) ls).isSome = _
    rw [catO_some]
    cases x <;> simp
theorem onF_sum (n : Txt) (x : Option Txt) : sumF (onF n x) = (x.getD []).length := by
  cases x with
  | none => rfl
  | some b => simp [onF, sumF]
theorem onF_len (n : Txt) (x : Option Txt) : (onF n x).length ≤ 1 := by
  cases x <;> simp [onF]
/-- a disk of one file, to which something was appended since -/
def onD (room : Int) (n : Txt) (x : Option Txt) (ls : List Txt) : Dk := ⟨room, onF n x, ls.map (De.app n), -1, false⟩
theorem onD_now (room : Int) (n : Txt) (x : Option Txt) (ls : List Txt) : (onD room n x ls).now = onF n (catO x ls) := onF_apps n ls x
theorem onD_free (room : Int) (n : Txt) (x : Option Txt) (ls : List Txt) : ¬ stopD (onD room n x ls) := by
  rintro (h | h)
  · cases h
  · exact absurd h (show ¬ ((-1 : Int) = 0) by decide)
theorem onD_cnt (room : Int) (n : Txt) (x : Option Txt) (ls : List Txt) : cntD (onD room n x ls) = onD room n x ls := if_neg (onD_free room n x ls)
theorem onD_op (room : Int) (n : Txt) (x : Option Txt) (ls : List Txt) (b : Txt) : opD 0 (onD room n x ls) (.app n b) = onD room n x (ls ++ [b]) := by
  show { cntD (onD room n x ls) with ps := (onD room n x ls).ps ++ [De.app n b] } = _
  rw [onD_cnt]
  unfold onD
  rw [List.map_append]
  rfl
theorem onD_app {room : Int} {n : Txt} {x : Option Txt} {ls : List Txt} {b : Txt} (hn : namedB n = true) (hr : ((x.getD []).length + ls.flatten.length + b.length : Nat) ≤ room) : appE (onD room n x ls) n b = 0 := by
  refine (if_neg (onD_free room n x ls)).trans ((if_neg (by rw [hn]; decide)).trans (if_neg ?_))
  rw [onD_now, onF_sum, catO_getD, List.length_append]
  rintro (h | ⟨_, h⟩)
  · change room < _ at h
    omega
  · have := onF_len n (catO x ls)
    omega
theorem onD_syn (room : Int) (n : Txt) (x : Option Txt) (ls : List Txt) : synE (onD room n x ls) = 0 ∧ synD (onD room n x ls) = onD room n (catO x ls) [] := by
  refine ⟨if_neg (onD_free room n x ls), (if_neg (onD_free room n x ls)).trans ?_⟩
  rw [onD_cnt, onD_now]
  rfl
theorem onD_read (room : Int) (n : Txt) (x : Option Txt) (ls : List Txt) : readD (onD room n x ls) n = catO x ls := by
  unfold readD
  rw [onD_now, onF_get]
  rfl
theorem onD_take (n : Txt) (x : Option Txt) (ls : List Txt) (k : Nat) : ((ls.map (De.app n)).take k).foldl doF (onF n x) = onF n (catO x (ls.take k)) := by
  rw [← List.map_take, onF_apps]
def keepN (ls : List Txt) (keep : Int) : Nat := (keep % (ls.length + 1 : Nat)).toNat
/-- what a crash leaves of a file -/
def tornO (x : Option Txt) (b : Txt) (torn : Int) : Option Txt := if 0 < b.length ∧ 0 < (torn % (b.length : Int)).toNat then some (x.getD [] ++ b.take (torn % (b.length : Int)).toNat) else x
def crashO (x : Option Txt) (ls : List Txt) (keep torn : Int) : Option Txt := match ls[keepN ls keep]? with
  | some b => tornO (catO x (ls.take (keepN ls keep))) b torn
  | none => catO x (ls.take (keepN ls keep))
theorem onD_keep (room : Int) (n : Txt) (x : Option Txt) (ls : List Txt) (keep : Int) : keepD (onD room n x ls) keep = keepN ls keep := by
  unfold keepD keepN
  rw [show (onD room n x ls).ps.length = ls.length from List.length_map ..]
theorem onD_crash (room : Int) (n : Txt) (x : Option Txt) (ls : List Txt) (keep torn : Int) : crashD (onD room n x ls) keep torn = onD room n (crashO x ls keep torn) [] := by
  unfold crashD
  have h : crashF (onD room n x ls) keep torn = onF n (crashO x ls keep torn) := by
    unfold crashF crashO
    rw [onD_keep, show (onD room n x ls).ps = ls.map (De.app n) from rfl, show (onD room n x ls).S = onF n x from rfl, onD_take, List.getElem?_map]
    cases ls[keepN ls keep]? with
    | none => rfl
    | some b =>
      show tornF (onF n (catO x (ls.take (keepN ls keep)))) (.app n b) torn = onF n (tornO _ b torn)
      unfold tornF tornO
      dsimp only
      split
      · rw [onF_app]
      · rfl
  rw [h]
  rfl
theorem new_onD (n : Txt) (room : Int) : newD room = onD room n none [] := rfl
end Go.Sx
