/- Opening arguments: slices and structs that came in, read as lists and tuples. Nothing here names a program. -/
import Derived.Test.YtgcbfpimfmkbmaaKit
import Derived.ProofKit
import Derived.OpenShut
import Derived.Deep.Slices
import Derived.Lib.SmallJoins
namespace Go.Proofs.Ytgcbfpimfmkbmaa.Kit
set_option linter.unusedVariables false
set_option linter.unusedSimpArgs false
open Go.RowKit

section
variable {H : Type} {de : TypeId × Value → H} {P : Program} {w : World}

theorem cells_get {a : Addr} {n : Nat} {cs : List Value} (h : w.cells? 0 a n = some cs) : cs.length = n ∧ ∀ j, j < n → w.cell? (a.add j) = cs[j]? := by
  unfold World.cells? at h
  rw [if_pos (Nat.zero_le _)] at h
  refine ⟨by simpa using mapM_some_length h, fun j hj => mapM_some_get h j j (by simp [hj])⟩

/-- A slice that came in: its elements, each read by 'el'. -/
theorem open_sl {α : Type} [Inhabited α] {t e : TypeId} {size fuel : Nat} {enc : α → List Value} {v : Value} {y : DataW H × List MemPlace} (ht : P.underlying t = some (.slice e)) (hc : P.cellsOf e = size) (hpos : 0 < size) (Q : α → Prop)
    (el : ∀ n cs z, DataW.trod de P w 0 (fun _ => true) true n e cs = some z → ∃ x : α, cs = enc x ∧ Q x)
    (h : DataW.trod de P w 0 (fun _ => true) true fuel t [v] = some y) : ∃ l : List α, Sl size enc w w.heap.size v l ∧ (∀ x ∈ l, Q x) ∧ l.length ≤ maxLen := by
  rcases Deep.open_slice ht h with ⟨hcs, _⟩ | ⟨a, len, cap, m, n, D, Pl, hcs, _, hl, hm, hmm, _, hx⟩
  · simp at hcs
    subst hcs
    exact ⟨[], ⟨none, 0, rfl, Nat.le_refl _, Or.inl rfl⟩, by simp, by simp⟩
  · simp at hcs
    subst hcs
    have hmm' : m = cap := by simpa using hmm
    subst hmm'
    obtain ⟨f, hf⟩ := Deep.choose_lt (α := α) (n := len) (p := fun i x => w.cells? 0 (a.add (i * P.cellsOf e)) (P.cellsOf e) = some (enc x) ∧ Q x) (fun i hi => by
      obtain ⟨cs', h1, h2⟩ := hx i (by omega)
      obtain ⟨x, h3, h4⟩ := el n cs' _ h2
      exact ⟨x, by rw [h1, h3], h4⟩)
    refine ⟨(List.range len).map f, ⟨some a, m, by simp, by simp; exact hl, ?_⟩, ?_, by simp; omega⟩
    · by_cases h0 : len = 0
      · left; subst h0; rfl
      · right
        obtain ⟨g1, g2⟩ := cells_get (hf 0 (by omega)).1
        rw [hc] at g1 g2
        have c0 := g2 0 hpos
        have e0 : (a.add (0 * size)).add 0 = a := by
          unfold Addr.add; simp
        rw [e0, List.getElem?_eq_getElem (by omega)] at c0
        have hsp : a.spot = none := by
          unfold World.cell? at c0
          split at c0
          · by_cases hs : a.spot.isSome
            · simp [hs] at c0
            · simpa using hs
          · simp at c0
        have ha : a = ⟨a.block, a.off, none⟩ := by cases a; simp at hsp; simp [hsp]
        refine ⟨a.block, a.off, congrArg some ha, World.block_lt_of_cell? w a c0, ?_⟩
        intro i j x hi hj
        have hil : i < len := by
          have := (List.getElem?_eq_some_iff.1 hi).1
          simpa using this
        have hxe : f i = x := by simpa [hil] using hi
        obtain ⟨g3, g4⟩ := cells_get (hf i hil).1
        rw [hc] at g3 g4
        have := g4 j hj
        rw [Deep.add_add, ha, addr_add, hxe] at this
        exact this
    · intro x hx'
      obtain ⟨i, hi, rfl⟩ := List.mem_map.1 hx'
      exact (hf i (by simpa using hi)).2

/-- A struct of one-cell fields in order: each cell read by its field's type. -/
theorem open_fields {t : TypeId} {fuel : Nat} {cs : List Value} {y : DataW H × List MemPlace} {fs : Array Field} (ht : P.underlying t = some (.struct fs)) (hk : P.cellsOf t = fs.size)
    (hone : ∀ (i : Nat) (f : Field), fs[i]? = some f → f.offset = i ∧ P.cellsOf f.type = 1) (h : DataW.trod de P w 0 (fun _ => true) true fuel t cs = some y) :
    cs.length = fs.size ∧ ∃ n, ∀ (i : Nat) (f : Field) (c : Value), fs[i]? = some f → cs[i]? = some c → ∃ z, DataW.trod de P w 0 (fun _ => true) true n f.type [c] = some z := by
  obtain ⟨xs, n, _, _, hl, hx, he⟩ := DataW.trod_struct ht h
  rw [hk] at hl
  refine ⟨hl, n, fun i f c hf hc => ?_⟩
  have hi : i < fs.size := (Array.getElem?_eq_some_iff.1 hf).1
  obtain ⟨h1, h2⟩ := hone i f hf
  have := he i f hf
  rw [h1, h2, List.getElem?_eq_getElem (by omega)] at this
  have e : (cs.drop i).take 1 = [c] := by
    have hci : i < cs.length := by omega
    rw [List.drop_eq_getElem_cons hci]
    have : cs[i] = c := by simpa [hci] using hc
    simp [this]
  rw [e] at this
  exact ⟨_, this⟩
end
end Go.Proofs.Ytgcbfpimfmkbmaa.Kit
