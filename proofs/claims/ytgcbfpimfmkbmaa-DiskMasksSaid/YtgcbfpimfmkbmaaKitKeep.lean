/- What a call leaves alone: all blocks but those of a set. Nothing here names a program. -/
import Derived.Test.YtgcbfpimfmkbmaaKit
import Derived.Maps.OwnSet
namespace Go.Proofs.Ytgcbfpimfmkbmaa.Kit
set_option linter.unusedVariables false
set_option linter.unusedSimpArgs false
open Go.RowKit

/-- Of the blocks that were there only those of S may have changed. -/
structure Keeps (S : Nat → Prop) (w w' : World) : Prop where
  os : w'.os = w.os
  tape : w'.tape = w.tape
  output : w'.output = w.output
  size : w.heap.size ≤ w'.heap.size
  block : ∀ k, k < w.heap.size → ¬ S k → w'.heap[k]? = w.heap[k]?

section
variable {S : Nat → Prop} {w w' w'' : World}
theorem Keeps.refl (S : Nat → Prop) (w : World) : Keeps S w w := ⟨rfl, rfl, rfl, Nat.le_refl _, fun _ _ _ => rfl⟩
theorem Keeps.trans {S' : Nat → Prop} (h : Keeps S w w') (h' : Keeps S' w' w'') (hs : ∀ k, k < w.heap.size → S' k → S k) : Keeps S w w'' :=
  ⟨h'.os.trans h.os, h'.tape.trans h.tape, h'.output.trans h.output, Nat.le_trans h.size h'.size, fun k hk hn => (h'.block k (Nat.lt_of_lt_of_le hk h.size) (fun hc => hn (hs k hk hc))).trans (h.block k hk hn)⟩
theorem Keeps.trans' (h : Keeps S w w') (h' : Keeps S w' w'') : Keeps S w w'' := h.trans h' (fun _ _ h => h)
theorem Keeps.of_below (h : Below w.heap.size w w') : Keeps S w w' := ⟨h.os, h.tape, h.output, h.size, fun k hk _ => h.block k hk⟩
theorem Keeps.below (h : Keeps S w w') {B : Nat} (hB : ∀ k, k < B → k < w.heap.size ∧ ¬ S k) : Below B w w' := ⟨h.os, h.tape, h.output, h.size, fun k hk => h.block k (hB k hk).1 (hB k hk).2⟩
theorem Keeps.mono {S' : Nat → Prop} (h : Keeps S w w') (hs : ∀ k, S k → S' k) : Keeps S' w w' := ⟨h.os, h.tape, h.output, h.size, fun k hk hn => h.block k hk (fun hc => hn (hs k hc))⟩
theorem Keeps.drew (h : Keeps S w w') : Keeps S w w'.drew := ⟨h.os, h.tape, h.output, h.size, h.block⟩
theorem Keeps.alloc (h : Keeps S w w') (o : Obj) : Keeps S w (w'.alloc o) :=
  h.trans' (Keeps.of_below ((Below.refl _ _).alloc (Nat.le_refl _) _))
theorem Keeps.setCell (h : Keeps S w w') {p : Addr} (hp : S p.block ∨ w.heap.size ≤ p.block) (u : Value) : Keeps S w (w'.setCell p u) :=
  ⟨h.os, h.tape, h.output, by simpa [World.setCell] using h.size, fun k hk hn => by
    rw [Below.heap_setCell w' p u k (by rintro rfl; rcases hp with hp | hp; exact hn hp; omega)]
    exact h.block k hk hn⟩
theorem Keeps.grown (h : Keeps S w w') {row : Option Nat} (hg : w'.grownBy w'' row) (hr : ∀ k, row = some k → S k ∨ w.heap.size ≤ k) : Keeps S w w'' :=
  ⟨hg.os.trans h.os, hg.tape.trans h.tape, hg.output.trans h.output, Nat.le_trans h.size hg.size, fun k hk hn => by
    rw [hg.block k (Nat.lt_of_lt_of_le hk h.size) (fun e => by rcases hr k e.symm with hc | hc; exact hn hc; omega)]
    exact h.block k hk hn⟩
theorem Keeps.turned (h : Keeps S w w') {b : Nat} (hg : w'.mapTurned w'' b) (hr : S b) : Keeps S w w'' :=
  h.grown hg.grown (fun k hk => Or.inl (by cases hk; exact hr))
end

section
variable {α : Type} {E : TypeId} {size : Nat} {enc : α → List Value} {w w' : World}
theorem Own.keeps {S : Nat → Prop} {B : Nat} {v : Value} {l : List α} (h : Own E size enc w B v l) (hk : Keeps S w w') (hn : ∀ k, v.ownBlock = some k → ¬ S k) : Own E size enc w' B v l := by
  have hlt := fun k hk => (World.ownsRow.lt h k hk).2
  obtain ⟨h1, h2⟩ := h
  refine ⟨h1, ?_⟩
  rcases h2 with hn' | ⟨g, cap, cur, rfl, hg, hh, r⟩
  · exact Or.inl hn'
  · exact Or.inr ⟨g, cap, cur, rfl, hg, by rw [hk.block g (hlt g rfl) (hn g rfl)]; exact hh, r⟩
theorem Sl.keeps {S : Nat → Prop} {v : Value} {l : List α} (h : Sl size enc w w.heap.size v l) (hk : Keeps S w w') (hn : ∀ k, v.ownBlock = some k → l ≠ [] → ¬ S k) : Sl size enc w' w'.heap.size v l :=
  (h.other (fun k h1 h2 h3 => hk.block k h3 (hn k h1 h2))).mono hk.size
theorem blk_keeps {S : Nat → Prop} {g : Nat} {o : Obj} (h : w.heap[g]? = some o) (hk : Keeps S w w') (hn : ¬ S g) : w'.heap[g]? = some o := by
  rw [hk.block g (Array.getElem?_eq_some_iff.1 h).1 hn]; exact h
end
end Go.Proofs.Ytgcbfpimfmkbmaa.Kit
