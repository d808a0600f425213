/- General facts: a slice of the call's own that holds a list of elements; appending one element; reading. Nothing here names a program. -/
import Derived.WalkKit
import Derived.WalkSpells
import Derived.WalkLawsBesides
import Derived.Lib.Hide
import Derived.Deep.AppendLies
namespace Go.Proofs.Ytokkpocccgdilaa.Kit
set_option linter.unusedVariables false
set_option linter.unusedSimpArgs false
open Go.RowKit

/-- A slice type of the program: its element type, the cells and bytes an element takes, how an element is written in cells. -/
structure SlTy {α : Type} (P : Program) (t E : TypeId) (size bytes : Nat) (enc : α → List Value) : Prop where
  und : P.underlying t = some (.slice E)
  info : ∃ i z, P.info? E = some i ∧ i.zero = some z ∧ i.size = size ∧ i.bytes = bytes ∧ z.cells.size = size
  pos : 0 < size
  len : ∀ x, (enc x).length = size
  one : ∀ x u, u ∈ enc x → u.oneCell' = true

/-- The slice value v, in a row from block B on that the call itself made, holds the elements l. -/
def Own {α : Type} (E : TypeId) (size : Nat) (enc : α → List Value) (w : World) (B : Nat) (v : Value) (l : List α) : Prop :=
  w.ownsRow B E size v l.length (l.flatMap enc)

section
variable {α : Type} {P : Program} {t E : TypeId} {size bytes : Nat} {enc : α → List Value}

theorem Own.nil (w : World) (B : Nat) : Own E size enc w B (.slice none 0 0) ([] : List α) := World.ownsRow_nil w B E size

theorem addr_add (g o j : Nat) : (Addr.add ⟨g, o, none⟩ j) = ⟨g, o + j, none⟩ := by
  unfold Addr.add
  split
  · subst j; rfl
  · rfl

theorem Own.kept {w w' : World} {B : Nat} {v : Value} {l : List α} (h : Own E size enc w B v l) {row : Option Nat} (hg : w.grownBy w' row) (hne : v.ownBlock = none ∨ v.ownBlock ≠ row) : Own E size enc w' B v l :=
  World.ownsRow.kept h hg hne

theorem Own.alloc {w : World} {B : Nat} {v : Value} {l : List α} (h : Own E size enc w B v l) (o : Obj) : Own E size enc (w.alloc o) B v l := World.ownsRow.alloc h o

theorem Own.below {w w' : World} {B C : Nat} {v : Value} {l : List α} (h : Own E size enc w B v l) (hb : Below C w w') (hC : ∀ k, v.ownBlock = some k → k < C) : Own E size enc w' B v l := by
  obtain ⟨h1, h2⟩ := h
  refine ⟨h1, ?_⟩
  rcases h2 with hn | ⟨g, cap, cur, rfl, hg, hh, r⟩
  · exact Or.inl hn
  · exact Or.inr ⟨g, cap, cur, rfl, hg, by rw [hb.block g (hC g rfl)]; exact hh, r⟩

theorem Own.below' {w w' : World} {B : Nat} {v : Value} {l : List α} (h : Own E size enc w B v l) (hb : Below w.heap.size w w') : Own E size enc w' B v l :=
  h.below hb (fun k hk => (World.ownsRow.lt h k hk).2)

theorem Own.mono {w : World} {B B' : Nat} {v : Value} {l : List α} (h : Own E size enc w B v l) (hB : B' ≤ B) : Own E size enc w B' v l := by
  obtain ⟨h1, h2⟩ := h
  refine ⟨h1, ?_⟩
  rcases h2 with hn | ⟨g, cap, cur, rfl, hg, hh, r⟩
  · exact Or.inl hn
  · exact Or.inr ⟨g, cap, cur, rfl, by omega, hh, r⟩

/-- append(v, c): one element onto a slice of the call's own. -/
theorem wp_append1 (T : SlTy P t E size bytes enc) {ops : Array Oper} {rest : List Oper} {o : Oper} {a : Act} {Q : Exit → Act → World → Prop}
    (hg : o.guard = none) (s x : Operand) (hop : o.op = Op.call { callee := Callee.builtin Builtin.append, args := #[s, x], argTypes := #[t, t] })
    (wr : World) (B : Nat) (v : Value) (l : List α) (hs : a.eval s = v) (hown : Own E size enc wr B v l) (c : α) (C : Array Value) (TT : TypeId)
    (hx : a.eval x = .slice (some ⟨wr.heap.size, 0, none⟩) 1 1) (hC : C.toList = enc c) (hl : l.length + 1 ≤ maxLen) (hb : (l.length + 1) * bytes ≤ 140737488355328) (hB : B ≤ wr.heap.size)
    (hk : ∀ v' w', Own E size enc w' B v' (l ++ [c]) → Below B wr w' → wr.grownBy w' v.ownBlock → wr.heap.size < w'.heap.size → wpList P ops Q rest (a.put o.dst v') w') :
    wpList P ops Q (o :: rest) a (wr.alloc (.cells C TT)) := by
  obtain ⟨i, z, hi, hz0, hz1, hz2, hz3⟩ := T.info
  refine wpList_append_own _ hg s x t hop B E i z size bytes T.und hi hz0 hz1 hz2 hz3 T.pos v l.length (l.flatMap enc) hs (World.ownsRow.alloc hown _) ⟨wr.heap.size, 0, none⟩ 1 1 (enc c) hx (by rw [T.len]; omega) ?_ (T.one c) hl hb (by simp; omega) ?_
  · intro j u hj
    rw [addr_add, World.cell?_alloc_mark, ← Array.getElem?_toList, hC]
    simpa using hj
  · intro v' w' h1 h2 _
    have hgb : wr.grownBy w' v.ownBlock := ⟨h2.os, h2.tape, h2.output, by have := h2.size; simp at this; omega, fun k hk hne => by
      rw [h2.block k (by simp; omega) hne]
      exact Below.heap_alloc _ _ _ hk⟩
    refine hk v' w' ?_ ?_ hgb ?_
    · unfold Own
      simp only [List.length_append, List.length_cons, List.length_nil, Nat.zero_add, List.flatMap_append, List.flatMap_cons, List.flatMap_nil, List.append_nil]
      exact h1
    · exact (Below.refl _ _).grown hgb hB (fun k hk => (World.ownsRow.lt hown k hk).1)
    · have := h2.size; simp at this; omega

theorem flat_len (henc : ∀ x, (enc x).length = size) : ∀ l : List α, (l.flatMap enc).length = l.length * size
  | [] => by simp
  | x :: l => by rw [List.flatMap_cons, List.length_append, henc, flat_len henc l, List.length_cons, Nat.add_mul]; omega

theorem flat_get (henc : ∀ x, (enc x).length = size) : ∀ (l : List α) (i j : Nat) (x : α), l[i]? = some x → j < size → (l.flatMap enc)[i * size + j]? = (enc x)[j]?
  | [], i, j, x, h, _ => by simp at h
  | y :: l, 0, j, x, h, hj => by
    have e : y = x := by simpa using h
    subst e
    rw [List.flatMap_cons, Nat.zero_mul, Nat.zero_add, List.getElem?_append_left (by rw [henc]; exact hj)]
  | y :: l, i + 1, j, x, h, hj => by
    rw [List.flatMap_cons, List.getElem?_append_right (by rw [henc, Nat.add_mul]; omega), henc, show (i + 1) * size + j - size = i * size + j from by rw [Nat.add_mul]; omega]
    exact flat_get henc l i j x (by simpa using h) hj

/-- A slice value that reads as the list l, its cells in blocks below hi (or l is empty). -/
def Sl (size : Nat) (enc : α → List Value) (w : World) (hi : Nat) (v : Value) (l : List α) : Prop :=
  ∃ ad cap, v = .slice ad l.length cap ∧ l.length ≤ cap ∧ (l = [] ∨ ∃ b off, ad = some ⟨b, off, none⟩ ∧ b < hi ∧ ∀ (i j : Nat) (x : α), l[i]? = some x → j < size → w.cell? ⟨b, off + (i * size + j), none⟩ = (enc x)[j]?)

theorem Sl.below {w w' : World} {hi B : Nat} {v : Value} {l : List α} (h : Sl size enc w hi v l) (hb : Below B w w') (hB : hi ≤ B) : Sl size enc w' hi v l := by
  obtain ⟨ad, cap, hv, hc, h⟩ := h
  refine ⟨ad, cap, hv, hc, ?_⟩
  rcases h with h | ⟨b, off, ha, hlt, h⟩
  · exact Or.inl h
  · refine Or.inr ⟨b, off, ha, hlt, fun i j x h1 h2 => ?_⟩
    rw [hb.cell (p := ⟨b, off + (i * size + j), none⟩) (by show b < B; omega)]
    exact h i j x h1 h2

theorem Sl.mono {w : World} {hi hi' : Nat} {v : Value} {l : List α} (h : Sl size enc w hi v l) (hb : hi ≤ hi') : Sl size enc w hi' v l := by
  obtain ⟨ad, cap, hv, hc, h⟩ := h
  refine ⟨ad, cap, hv, hc, ?_⟩
  rcases h with h | ⟨b, off, ha, hlt, h⟩
  · exact Or.inl h
  · exact Or.inr ⟨b, off, ha, by omega, h⟩

theorem Own.sl {w : World} {B : Nat} {v : Value} {l : List α} (h : Own E size enc w B v l) (henc : ∀ x, (enc x).length = size) : Sl size enc w w.heap.size v l := by
  obtain ⟨h1, h2⟩ := h
  rcases h2 with ⟨rfl, hn⟩ | ⟨g, cap, cur, rfl, hg, hh, hc1, hc2, hc3, htk⟩
  · exact ⟨none, 0, by rw [hn], by omega, Or.inl (List.eq_nil_of_length_eq_zero hn)⟩
  · refine ⟨_, cap, rfl, hc1, Or.inr ⟨g, 0, rfl, (Array.getElem?_eq_some_iff.1 hh).1, fun i j x hx hj => ?_⟩⟩
    have hil : i < l.length := (List.getElem?_eq_some_iff.1 hx).1
    unfold World.cell?
    rw [hh]
    have hk : (cur.toList.take (l.length * size))[i * size + j]? = (enc x)[j]? := by rw [htk]; exact flat_get henc l i j x hx hj
    have hlt : i * size + j < l.length * size := by
      have : (i + 1) * size ≤ l.length * size := Nat.mul_le_mul_right _ hil
      rw [Nat.add_mul] at this; omega
    rw [List.getElem?_take_of_lt hlt, Array.getElem?_toList] at hk
    simpa using hk


/-- append(v, c), the new value written out: it lies in the old row or in the newest block. -/
theorem wp_push (T : SlTy P t E size bytes enc) {ops : Array Oper} {rest : List Oper} {o : Oper} {a : Act} {Q : Exit → Act → World → Prop}
    (hg : o.guard = none) (s x : Operand) (hop : o.op = Op.call { callee := Callee.builtin Builtin.append, args := #[s, x], argTypes := #[t, t] })
    (wr : World) (B : Nat) (v : Value) (l : List α) (hs : a.eval s = v) (hown : Own E size enc wr B v l) (c : α) (C : Array Value) (TT : TypeId) (H : Nat) (hH : wr.heap.size = H)
    (hx : a.eval x = .slice (some ⟨H, 0, none⟩) 1 1) (hC : C.toList = enc c) (hl : l.length + 1 ≤ maxLen) (hb : (l.length + 1) * bytes ≤ 140737488355328) (hB : B ≤ wr.heap.size)
    (hk : ∀ (g cap : Nat) (w' : World), Own E size enc w' B (.slice (some ⟨g, 0, none⟩) (l.length + 1) cap) (l ++ [c]) → Below B wr w' → wr.grownBy w' v.ownBlock → H < w'.heap.size → (v.ownBlock = some g ∨ g = H + 1) → g < w'.heap.size → B ≤ g → wpList P ops Q rest (a.put o.dst (.slice (some ⟨g, 0, none⟩) (l.length + 1) cap)) w') :
    wpList P ops Q (o :: rest) a (wr.alloc (.cells C TT)) := by
  subst hH
  obtain ⟨i, z, hi, hz0, hz1, hz2, hz3⟩ := T.info
  refine wpList_append_lies _ hg s x t hop B E i z size bytes T.und hi hz0 hz1 hz2 hz3 T.pos v l.length (l.flatMap enc) hs (World.ownsRow.alloc hown _) ⟨wr.heap.size, 0, none⟩ 1 1 (enc c) hx (by rw [T.len]; omega) ?_ (T.one c) (by omega) hl hb (by simp; omega) (wr.heap.size + 1) (by simp) ?_
  · intro j u hj
    rw [addr_add, World.cell?_alloc_mark, ← Array.getElem?_toList, hC]
    simpa using hj
  · intro g cap w' h1 h2 h3 h4
    have hgb : wr.grownBy w' v.ownBlock := ⟨h2.os, h2.tape, h2.output, by have := h2.size; simp at this; omega, fun k hk hne => by
      rw [h2.block k (by simp; omega) hne]
      exact Below.heap_alloc _ _ _ hk⟩
    refine hk g cap w' ?_ ?_ hgb ?_ h3 h4 ?_
    · unfold Own
      simp only [List.length_append, List.length_cons, List.length_nil, Nat.zero_add, List.flatMap_append, List.flatMap_cons, List.flatMap_nil, List.append_nil]
      exact h1
    · exact (Below.refl _ _).grown hgb hB (fun k hk => (World.ownsRow.lt hown k hk).1)
    · have := h2.size; simp at this; omega
    · rcases h3 with h3 | h3
      · exact (World.ownsRow.lt hown g h3).1
      · omega

/-- append(v, x...): the elements of a slice that reads as l2 onto a slice of the call's own. -/
theorem wp_appendN (T : SlTy P t E size bytes enc) {ops : Array Oper} {rest : List Oper} {o : Oper} {a : Act} {Q : Exit → Act → World → Prop}
    (hg : o.guard = none) (s x : Operand) (hop : o.op = Op.call { callee := Callee.builtin Builtin.append, args := #[s, x], argTypes := #[t, t] })
    (wr : World) (B : Nat) (v : Value) (l : List α) (hs : a.eval s = v) (hown : Own E size enc wr B v l) (l2 : List α) (ad : Addr) (c hi : Nat)
    (hx : a.eval x = .slice (some ad) l2.length c) (hsl : Sl size enc wr hi (.slice (some ad) l2.length c) l2) (hl : l.length + l2.length ≤ maxLen) (hb : (l.length + l2.length) * bytes ≤ 140737488355328) (hB : B ≤ wr.heap.size)
    (hk : ∀ v' w', Own E size enc w' B v' (l ++ l2) → Below B wr w' → wr.grownBy w' v.ownBlock → wpList P ops Q rest (a.put o.dst v') w') :
    wpList P ops Q (o :: rest) a wr := by
  obtain ⟨i, z, hi0, hz0, hz1, hz2, hz3⟩ := T.info
  refine wpList_append_own _ hg s x t hop B E i z size bytes T.und hi0 hz0 hz1 hz2 hz3 T.pos v l.length (l.flatMap enc) hs hown ad l2.length c (l2.flatMap enc) hx (flat_len T.len l2) ?_ ?_ hl hb hB ?_
  · intro j u hj
    obtain ⟨ad', cap', he, _, h⟩ := hsl
    simp only [Value.slice.injEq] at he
    rcases h with h | ⟨b, off, hbo, _, h⟩
    · subst h; simp at hj
    · obtain ⟨rfl, _, _⟩ := he
      simp only [Option.some.injEq] at hbo
      subst hbo
      have hjl : j < (l2.flatMap enc).length := (List.getElem?_eq_some_iff.1 hj).1
      rw [flat_len T.len] at hjl
      have hpos := T.pos
      have hq : j / size < l2.length := (Nat.div_lt_iff_lt_mul hpos).2 hjl
      have hr : j % size < size := Nat.mod_lt _ hpos
      have e : j / size * size + j % size = j := by rw [Nat.mul_comm]; exact Nat.div_add_mod j size
      have h1 := h (j / size) (j % size) l2[j / size] (by simp [hq]) hr
      have h2 := flat_get T.len l2 (j / size) (j % size) l2[j / size] (by simp [hq]) hr
      rw [e] at h1 h2
      rw [addr_add, h1, ← h2, hj]
  · intro u hu
    obtain ⟨y, _, hy⟩ := List.mem_flatMap.1 hu
    exact T.one y u hy
  · intro v' w' h1 h2 _
    refine hk v' w' ?_ ?_ h2
    · unfold Own
      rw [List.length_append, List.flatMap_append]
      exact h1
    · exact (Below.refl _ _).grown h2 hB (fun k hk => (World.ownsRow.lt hown k hk).1)

/-- v[:n] of a slice of the call's own. -/
theorem Own.take {w : World} {B : Nat} {g m cap : Nat} {l : List α} (henc : ∀ x, (enc x).length = size) (h : Own E size enc w B (.slice (some ⟨g, 0, none⟩) m cap) l) (n : Nat) (hn : n ≤ l.length) : Own E size enc w B (.slice (some ⟨g, 0, none⟩) n cap) (l.take n) := by
  obtain ⟨h1, h2⟩ := h
  have hlen : (l.take n).length = n := by rw [List.length_take]; omega
  refine ⟨flat_len henc _, Or.inr ?_⟩
  rcases h2 with ⟨h2, _⟩ | ⟨g', cap', cur, hv, hg, hh, hc1, hc2, hc3, htk⟩
  · simp at h2
  · simp only [Value.slice.injEq, Option.some.injEq, Addr.mk.injEq] at hv
    obtain ⟨⟨rfl, _, _⟩, rfl, rfl⟩ := hv
    refine ⟨g, cap, cur, by rw [hlen], hg, hh, by omega, hc2, hc3, ?_⟩
    rw [hlen]
    have e : cur.toList.take (n * size) = (cur.toList.take (l.length * size)).take (n * size) := by
      rw [List.take_take, Nat.min_eq_left (Nat.mul_le_mul_right _ hn)]
    rw [e, htk]
    have e2 : l.flatMap enc = (l.take n).flatMap enc ++ (l.drop n).flatMap enc := by rw [← List.flatMap_append, List.take_append_drop]
    rw [e2, List.take_left' (by rw [flat_len henc, hlen])]

theorem Own.form {w : World} {B : Nat} {v : Value} {l : List α} (h : Own E size enc w B v l) : (v = .slice none 0 0 ∧ l = []) ∨ ∃ g cap, v = .slice (some ⟨g, 0, none⟩) l.length cap ∧ B ≤ g ∧ g < w.heap.size ∧ l.length ≤ cap := by
  rcases h.2 with ⟨h1, h2⟩ | ⟨g, cap, cur, hv, hg, hh, hc1, _⟩
  · exact Or.inl ⟨h1, List.eq_nil_of_length_eq_zero h2⟩
  · exact Or.inr ⟨g, cap, hv, hg, (Array.getElem?_eq_some_iff.1 hh).1, hc1⟩

/-- A slice keeps its reading while only other blocks change. -/
theorem Sl.other {w w' : World} {hi : Nat} {v : Value} {l : List α} (h : Sl size enc w hi v l) (hk : ∀ k, v.ownBlock = some k → l ≠ [] → k < hi → w'.heap[k]? = w.heap[k]?) : Sl size enc w' hi v l := by
  obtain ⟨ad, cap, rfl, hc, h⟩ := h
  refine ⟨ad, cap, rfl, hc, ?_⟩
  rcases h with h | ⟨b, off, rfl, hlt, h⟩
  · exact Or.inl h
  · by_cases hl : l = []
    · exact Or.inl hl
    · refine Or.inr ⟨b, off, rfl, hlt, fun i j x h1 h2 => ?_⟩
      have e : w'.cell? ⟨b, off + (i * size + j), none⟩ = w.cell? ⟨b, off + (i * size + j), none⟩ := World.cell?_of_block (hk b rfl hl hlt)
      rw [e]; exact h i j x h1 h2
end

#print axioms wp_append1
end Go.Proofs.Ytokkpocccgdilaa.Kit
