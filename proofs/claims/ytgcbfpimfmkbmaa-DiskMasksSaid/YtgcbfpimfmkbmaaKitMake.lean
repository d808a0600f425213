/- make([]T, n): a slice of the call's own that holds n zero elements. Nothing here names a program. -/
import Derived.Test.YtgcbfpimfmkbmaaKit
import Derived.OwnWalk
namespace Go.Proofs.Ytgcbfpimfmkbmaa.Kit
set_option linter.unusedVariables false
set_option linter.unusedSimpArgs false
open Go.RowKit

section
variable {α : Type} {P : Program} {t E : TypeId} {size bytes : Nat} {enc : α → List Value}

theorem made_flat (z : Array Value) (z0 : α) (hz : z.toList = enc z0) (hs : z.size = size) (hpos : 0 < size) : ∀ n, (madeCells z (n * size)).toList = (List.replicate n z0).flatMap enc := by
  intro n
  have hl : (enc z0).length = size := by rw [← hz]; simpa using hs
  refine List.ext_getElem? fun i => ?_
  by_cases hi : i < n * size
  · have hq : i / size < n := (Nat.div_lt_iff_lt_mul hpos).2 hi
    have hr : i % size < size := Nat.mod_lt _ hpos
    have e : i / size * size + i % size = i := by rw [Nat.mul_comm]; exact Nat.div_add_mod i size
    have h2 := flat_get (enc := fun _ : Unit => enc z0) (fun _ => hl) (List.replicate n ()) (i / size) (i % size) () (by simp [hq]) hr
    rw [e] at h2
    have e3 : (List.replicate n ()).flatMap (fun _ : Unit => enc z0) = (List.replicate n z0).flatMap enc := by
      clear h2 hq hi
      induction n with
      | zero => rfl
      | succ n ih => rw [List.replicate_succ, List.replicate_succ, List.flatMap_cons, List.flatMap_cons, ih]
    rw [e3] at h2
    rw [h2, ← hz]
    simp [madeCells, hi, hs, hr]
  · have h1 : ((List.replicate n z0).flatMap enc).length = n * size := by
      clear hi
      induction n with
      | zero => simp
      | succ n ih => rw [List.replicate_succ, List.flatMap_cons, List.length_append, ih, hl, Nat.add_mul]; omega
    rw [List.getElem?_eq_none (by simp [madeCells]; omega), List.getElem?_eq_none (by omega)]

theorem wp_make (T : SlTy P t E size bytes enc) (z0 : α) (hz : ∀ i z, P.info? E = some i → i.zero = some z → z.cells.toList = enc z0)
    {ops : Array Oper} {rest : List Oper} {o : Oper} {a : Act} {Q : Exit → Act → World → Prop} (w : World)
    (hg : o.guard = none) (l c : Operand) (hop : o.op = Op.makeSlice t l c) (B n : Nat) (hl : a.eval l = .int .i64 (n : Int)) (hc : a.eval c = .int .i64 (n : Int)) (b2 : bytes * n ≤ 281474976710656) (b3 : n ≤ maxLen) (b4 : B ≤ w.heap.size) (H : Nat) (hH : w.heap.size = H)
    (hK : ∀ w', Own E size enc w' B (.slice (some ⟨H, 0, none⟩) n n) (List.replicate n z0) → Below w.heap.size w w' → H < w'.heap.size → wpList P ops Q rest (a.put o.dst (.slice (some ⟨H, 0, none⟩) n n)) w') :
    wpList P ops Q (o :: rest) a w := by
  subst hH
  obtain ⟨i, z, hi, hz0, hz1, hz2, hz3⟩ := T.info
  refine wpList_make_full w hg l c t hop B E i z size T.und hi hz0 hz1 .i64 .i64 (n : Int) (n : Int) n hl hc rfl rfl (by rw [hz2]; exact b2) b3 b4 ?_
  intro w' h1 h2
  refine hK w' ?_ ⟨h2.os, h2.tape, h2.output, h2.size, fun k hk => h2.block k hk (by simp)⟩ ?_
  · unfold Own
    rw [List.length_replicate, ← made_flat z.cells z0 (hz i z hi hz0) hz3 T.pos]
    exact h1
  · rcases h1.2 with ⟨h, _⟩ | ⟨g, cap, cur, hv, _, hh, _⟩
    · simp at h
    · simp only [Value.slice.injEq, Option.some.injEq, Addr.mk.injEq] at hv
      obtain ⟨⟨rfl, _, _⟩, _, _⟩ := hv
      exact (Array.getElem?_eq_some_iff.1 hh).1
end
end Go.Proofs.Ytgcbfpimfmkbmaa.Kit
