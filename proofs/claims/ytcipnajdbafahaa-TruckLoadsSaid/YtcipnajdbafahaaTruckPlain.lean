/- Plain Lean functions for package truck: checks, sums, the best load, trips. -/
import Derived.Test.YtcipnajdbafahaaKit
namespace Go.Proofs.Ytcipnajdbafahaa.Tk
set_option linter.unusedVariables false
set_option linter.unusedSimpArgs false

abbrev Par := Int × Int × Int
def parEnc (p : Par) : List Value := [.int .i64 p.1, .int .i64 p.2.1, .int .i64 p.2.2]
def intEnc (n : Int) : List Value := [.int .i64 n]
theorem parEnc_len (p : Par) : (parEnc p).length = 3 := rfl
theorem intEnc_len (n : Int) : (intEnc n).length = 1 := rfl

def inR (n : Int) : Bool := decide (0 ≤ n) && decide (n ≤ 1000000000000)
def inP (p : Par) : Bool := inR p.1 && inR p.2.1 && inR p.2.2
def checkOf (l : List Par) (W V : Int) : Int := if 16 < l.length then 4 else if !(inR W && inR V) then 9 else if l.all inP then 0 else 9

theorem inR_true {n : Int} (h : inR n = true) : 0 ≤ n ∧ n ≤ 1000000000000 := by unfold inR at h; simpa using h

theorem sl3 {w : World} {hi : Nat} {v : Value} {l : List Par} (h : Kit.Sl 3 parEnc w hi v l) (k : Nat) (hk : k < l.length) :
    ∃ b off, (∃ cap, v = .slice (some ⟨b, off, none⟩) l.length cap) ∧ b < hi ∧ w.cell? ⟨b, off + k * 3, none⟩ = some (.int .i64 l[k].1) ∧ w.cell? ⟨b, off + k * 3 + 1, none⟩ = some (.int .i64 l[k].2.1) ∧ w.cell? ⟨b, off + k * 3 + 2, none⟩ = some (.int .i64 l[k].2.2) := by
  obtain ⟨ad, cap, rfl, hc, h⟩ := h
  rcases h with h | ⟨b, off, rfl, hlt, h⟩
  · subst h; simp at hk
  · exact ⟨b, off, ⟨cap, rfl⟩, hlt, h k 0 l[k] (by simp [hk]) (by omega), h k 1 l[k] (by simp [hk]) (by omega), h k 2 l[k] (by simp [hk]) (by omega)⟩
theorem sl1 {w : World} {hi : Nat} {v : Value} {l : List Int} (h : Kit.Sl 1 intEnc w hi v l) (k : Nat) (hk : k < l.length) :
    ∃ b off, (∃ cap, v = .slice (some ⟨b, off, none⟩) l.length cap) ∧ b < hi ∧ w.cell? ⟨b, off + k, none⟩ = some (.int .i64 l[k]) := by
  obtain ⟨ad, cap, rfl, hc, h⟩ := h
  rcases h with h | ⟨b, off, rfl, hlt, h⟩
  · subst h; simp at hk
  · have := h k 0 l[k] (by simp [hk]) (by omega)
    exact ⟨b, off, ⟨cap, rfl⟩, hlt, by simpa [intEnc] using this⟩
theorem check_bad (l : List Par) (W V : Int) (k : Nat) (hk : k < l.length) (h16 : ¬ 16 < l.length) (hW : inR W = true) (hV : inR V = true) (h : inP l[k] = false) : checkOf l W V = 9 := by
  unfold checkOf
  have : l.all inP = false := by
    rw [List.all_eq_false]
    exact ⟨l[k], List.getElem_mem _, by simp [h]⟩
  rw [if_neg h16, hW, hV, this]; rfl
theorem check_ok (l : List Par) (W V : Int) (h16 : ¬ 16 < l.length) (hW : inR W = true) (hV : inR V = true) (h : l.all inP = true) : checkOf l W V = 0 := by
  unfold checkOf
  rw [if_neg h16, hW, hV, h]; rfl
theorem all_snoc (l : List Par) (k : Nat) (hk : k < l.length) (h : (l.take k).all inP = true) (hp : inP l[k] = true) : (l.take (k + 1)).all inP = true := by
  rw [List.take_succ_eq_append_getElem hk, List.all_append, h]
  simp [hp]

def addP (a b : Par) : Par := (a.1 + b.1, a.2.1 + b.2.1, a.2.2 + b.2.2)
def sumGo (l : List Par) : List Int → Int → Par → Par × Int
  | [], _, s => (s, 0)
  | i :: r, last, s => if i < 0 ∨ (l.length : Int) ≤ i then ((0, 0, 0), 9) else if i ≤ last then ((0, 0, 0), 11) else sumGo l r i (addP s (l.getD i.toNat (0, 0, 0)))
def sumOf (l : List Par) (at' : List Int) : Par × Int := if checkOf l 0 0 = 0 then sumGo l at' (-1) (0, 0, 0) else ((0, 0, 0), checkOf l 0 0)
def Small (m : Int) (p : Par) : Prop := 0 ≤ p.1 ∧ p.1 ≤ m ∧ 0 ≤ p.2.1 ∧ p.2.1 ≤ m ∧ 0 ≤ p.2.2 ∧ p.2.2 ≤ m
theorem check_zero {l : List Par} {W V : Int} (h : checkOf l W V = 0) : l.length ≤ 16 ∧ inR W = true ∧ inR V = true ∧ l.all inP = true := by
  unfold checkOf at h
  by_cases h1 : 16 < l.length
  · rw [if_pos h1] at h; simp at h
  · rw [if_neg h1] at h
    by_cases h2 : (!(inR W && inR V)) = true
    · rw [if_pos h2] at h; simp at h
    · rw [if_neg h2] at h
      by_cases h3 : l.all inP = true
      · simp at h2; exact ⟨by omega, h2.1, h2.2, h3⟩
      · rw [if_neg h3] at h; simp at h
theorem small_at {l : List Par} (h : l.all inP = true) (k : Nat) (hk : k < l.length) : Small 1000000000000 l[k] := by
  have := List.all_eq_true.1 h l[k] (List.getElem_mem _)
  unfold inP at this
  simp only [Bool.and_eq_true] at this
  have h1 := inR_true this.1.1; have h2 := inR_true this.1.2; have h3 := inR_true this.2
  exact ⟨h1.1, h1.2, h2.1, h2.2, h3.1, h3.2⟩

theorem drop_cons (q : List Int) (k : Nat) (h : k < q.length) : q.drop k = q[k] :: q.drop (k + 1) := List.drop_eq_getElem_cons h
theorem sumGo_low (l : List Par) (i : Int) (r : List Int) (last : Int) (s : Par) (h : i < 0 ∨ (l.length : Int) ≤ i) : sumGo l (i :: r) last s = ((0, 0, 0), 9) := by
  simp only [sumGo]; rw [if_pos h]
theorem sumGo_ord (l : List Par) (i : Int) (r : List Int) (last : Int) (s : Par) (h : ¬ (i < 0 ∨ (l.length : Int) ≤ i)) (h2 : i ≤ last) : sumGo l (i :: r) last s = ((0, 0, 0), 11) := by
  simp only [sumGo]; rw [if_neg h, if_pos h2]
theorem sumGo_go (l : List Par) (m : Nat) (r : List Int) (last : Int) (s : Par) (h : m < l.length) (h2 : last < (m : Int)) : sumGo l ((m : Int) :: r) last s = sumGo l r m (addP s l[m]) := by
  simp only [sumGo]; rw [if_neg (by omega), if_neg (by omega)]
  congr 2
  simp [h]
theorem small_add {m : Nat} {last : Int} {s p : Par} (h : last < (m : Int)) (h0 : -1 ≤ last) (hs : Small ((last + 1) * 1000000000000) s) (hp : Small 1000000000000 p) : Small (((m : Int) + 1) * 1000000000000) (addP s p) := by
  obtain ⟨a1, a2, a3, a4, a5, a6⟩ := hs
  obtain ⟨b1, b2, b3, b4, b5, b6⟩ := hp
  refine ⟨?_, ?_, ?_, ?_, ?_, ?_⟩ <;> simp only [addP] <;> omega

/-- a block of three cells -/
theorem blk3 {w : World} {g : Nat} {a b c : Value} {T : TypeId} (h : w.heap[g]? = some (.cells #[a, b, c] T (0, 0))) :
    w.cell? ⟨g, 0, none⟩ = some a ∧ w.cell? ⟨g, 1, none⟩ = some b ∧ w.cell? ⟨g, 2, none⟩ = some c ∧ ∀ j, w.frozen? ⟨g, j, none⟩ = false := by
  refine ⟨?_, ?_, ?_, ?_⟩
  · simp [World.cell?, h]
  · simp [World.cell?, h]
  · simp [World.cell?, h]
  · intro j; simp [World.frozen?, h]
theorem blk_new (w : World) (C : Array Value) (T : TypeId) : (w.alloc (.cells C T)).heap[w.heap.size]? = some (.cells C T (0, 0)) := by
  show (w.heap.push _)[w.heap.size]? = _
  simp
theorem blk_set {w : World} {g : Nat} {C : Array Value} {T : TypeId} (h : w.heap[g]? = some (.cells C T (0, 0))) (j : Nat) (v : Value) : (w.setCell ⟨g, j, none⟩ v).heap[g]? = some (.cells (C.setIfInBounds j v) T (0, 0)) := by
  simp only [World.setCell, Array.getElem?_modify, h]
  simp
theorem blk_other {w : World} {g g' : Nat} (hne : g ≠ g') (j : Nat) (v : Value) : (w.setCell ⟨g', j, none⟩ v).heap[g]? = w.heap[g]? := RowKit.Below.heap_setCell w _ v g hne
theorem blk_drew (w : World) (g : Nat) : w.drew.heap[g]? = w.heap[g]? := rfl
end Go.Proofs.Ytcipnajdbafahaa.Tk
