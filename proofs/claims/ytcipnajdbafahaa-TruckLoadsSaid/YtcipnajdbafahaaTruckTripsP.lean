/- Trips, in plain Lean. -/
import Derived.Test.YtcipnajdbafahaaTruckOpt
namespace Go.Proofs.Ytcipnajdbafahaa.Tk
set_option linter.unusedVariables false
set_option linter.unusedSimpArgs false

def picks (best : List Int) (b : Bool) : Nat → List Int → List Int
  | _, [] => []
  | k, x :: r => if best.contains (k : Int) = b then x :: picks best b (k + 1) r else picks best b (k + 1) r
def parOf (l : List Par) (left : List Int) : List Par := left.map fun i => l.getD i.toNat (0, 0, 0)
def tripsGo (l : List Par) (W V : Int) : Nat → List Int → List (List Int)
  | 0, _ => []
  | n + 1, left => if bestOf (parOf l left) W V = [] then [] else picks (bestOf (parOf l left) W V) true 0 left :: tripsGo l W V n (picks (bestOf (parOf l left) W V) false 0 left)
def upto (n : Nat) : List Int := (List.range n).map fun (k : Nat) => (k : Int)
def tripsOf (l : List Par) (W V : Int) : List (List Int) := tripsGo l W V (l.length + 1) (upto l.length)
def tripsRes (l : List Par) (W V : Int) : List (List Int) × Int := if checkOf l W V = 0 then (tripsOf l W V, 0) else ([], checkOf l W V)

theorem picks_snoc (best : List Int) (b : Bool) : ∀ (l : List Int) (k : Nat) (x : Int), picks best b k (l ++ [x]) = picks best b k l ++ (if best.contains ((k + l.length : Nat) : Int) = b then [x] else [])
  | [], k, x => by simp [picks]
  | y :: l, k, x => by
    simp only [List.cons_append, picks]
    rw [picks_snoc best b l (k + 1) x, List.length_cons, show k + 1 + l.length = k + (l.length + 1) from by omega]
    split <;> simp
theorem picks_len (best : List Int) : ∀ (l : List Int) (k : Nat), (picks best true k l).length + (picks best false k l).length = l.length
  | [], _ => rfl
  | x :: l, k => by
    have := picks_len best l (k + 1)
    simp only [picks]
    cases best.contains (k : Int) <;> simp <;> omega
theorem picks_len_le (best : List Int) (b : Bool) (l : List Int) (k : Nat) : (picks best b k l).length ≤ l.length := by
  have := picks_len best l k
  cases b <;> omega
theorem picks_mem (best : List Int) (b : Bool) : ∀ (l : List Int) (k : Nat) (x : Int), x ∈ picks best b k l → x ∈ l
  | [], _, _, h => by simp [picks] at h
  | y :: l, k, x, h => by
    simp only [picks] at h
    split at h
    · rcases List.mem_cons.1 h with h | h
      · exact List.mem_cons.2 (Or.inl h)
      · exact List.mem_cons.2 (Or.inr (picks_mem best b l (k + 1) x h))
    · exact List.mem_cons.2 (Or.inr (picks_mem best b l (k + 1) x h))
theorem picks_pos (best : List Int) (m : Nat) (hm : (m : Int) ∈ best) : ∀ (l : List Int) (k : Nat), k ≤ m → m < k + l.length → picks best true k l ≠ []
  | [], k, h1, h2 => by simp at h2; omega
  | x :: l, k, h1, h2 => by
    simp only [picks]
    by_cases e : k = m
    · subst e
      rw [if_pos (by simpa using hm)]; simp
    · split
      · simp
      · exact picks_pos best m hm l (k + 1) (by omega) (by simp at h2; omega)

theorem parOf_good {l : List Par} (hg : Good l) {left : List Int} (h : ∀ x ∈ left, ∃ m : Nat, x = (m : Int) ∧ m < l.length) : Good (parOf l left) := by
  intro k hk
  have hk' : k < left.length := by simpa [parOf] using hk
  obtain ⟨m, e, hm⟩ := h left[k] (List.getElem_mem _)
  have : (parOf l left).getD k (0, 0, 0) = l.getD m (0, 0, 0) := by
    simp [parOf, hk', e]
  rw [this]
  exact hg m hm
theorem best_pos {l : List Par} (hg : Good l) {W V : Int} (hW : 0 ≤ W) (hV : 0 ≤ V) {left : List Int} (h : ∀ x ∈ left, ∃ m : Nat, x = (m : Int) ∧ m < l.length) (hne : bestOf (parOf l left) W V ≠ []) :
    picks (bestOf (parOf l left) W V) true 0 left ≠ [] := by
  have hb := bestOf_isBest (parOf_good hg h) hW hV
  obtain ⟨ha, _⟩ := hb
  generalize bestOf (parOf l left) W V = best at *
  cases best with
  | nil => exact absurd rfl hne
  | cons x r =>
    obtain ⟨m, e, _, hm, _⟩ := ha
    subst e
    exact picks_pos _ m (by simp) left 0 (by omega) (by simpa [parOf] using hm)
theorem rest_lt {l : List Par} (hg : Good l) {W V : Int} (hW : 0 ≤ W) (hV : 0 ≤ V) {left : List Int} (h : ∀ x ∈ left, ∃ m : Nat, x = (m : Int) ∧ m < l.length) (hne : bestOf (parOf l left) W V ≠ []) :
    (picks (bestOf (parOf l left) W V) false 0 left).length < left.length := by
  have h1 := best_pos hg hW hV h hne
  have h2 := picks_len (bestOf (parOf l left) W V) left 0
  have h3 : 0 < (picks (bestOf (parOf l left) W V) true 0 left).length := List.length_pos_iff.2 h1
  omega
theorem upto_mem (n : Nat) : ∀ x ∈ upto n, ∃ m : Nat, x = (m : Int) ∧ m < n := by
  intro x hx
  obtain ⟨m, hm, rfl⟩ := List.mem_map.1 hx
  exact ⟨m, rfl, by simpa using hm⟩
theorem upto_len (n : Nat) : (upto n).length = n := by simp [upto]
theorem upto_snoc (n : Nat) : upto (n + 1) = upto n ++ [(n : Int)] := by simp [upto, List.range_succ]
theorem take_snoc' (l : List Int) (k : Nat) (h : k < l.length) : l.take (k + 1) = l.take k ++ [l[k]] := List.take_succ_eq_append_getElem h
theorem parOf_snoc (l : List Par) (a : List Int) (m : Nat) (h : m < l.length) : parOf l (a ++ [(m : Int)]) = parOf l a ++ [l[m]] := by
  simp [parOf, h]
theorem good_of_all {l : List Par} (h : l.all inP = true) : Good l := by
  intro k hk
  have : l.getD k (0, 0, 0) = l[k] := by simp [hk]
  rw [this]; exact small_at h k hk
theorem inP_of_small {p : Par} (h : Small 1000000000000 p) : inP p = true := by
  obtain ⟨a1, a2, a3, a4, a5, a6⟩ := h
  unfold inP inR
  simp [a1, a2, a3, a4, a5, a6]
theorem check_of_good {l : List Par} {W V : Int} (hg : Good l) (h16 : l.length ≤ 16) (hW : inR W = true) (hV : inR V = true) : checkOf l W V = 0 := by
  refine check_ok l W V (by omega) hW hV ?_
  rw [List.all_eq_true]
  intro p hp
  obtain ⟨k, hk, rfl⟩ := List.getElem_of_mem hp
  have := hg k hk
  rw [show l.getD k (0, 0, 0) = l[k] from by simp [hk]] at this
  exact inP_of_small this
end Go.Proofs.Ytcipnajdbafahaa.Tk
