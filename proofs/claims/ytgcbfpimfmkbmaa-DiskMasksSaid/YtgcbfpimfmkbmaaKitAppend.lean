/- append(v, x...) onto a slice of the call's own, whatever x is: nil, empty or not. Nothing here names a program. -/
import Derived.Test.YtgcbfpimfmkbmaaKit
import Derived.Maps.AppendAt
namespace Go.Proofs.Ytgcbfpimfmkbmaa.Kit
set_option linter.unusedVariables false
set_option linter.unusedSimpArgs false
open Go.RowKit

section
variable {α : Type} {P : Program} {t E : TypeId} {size bytes : Nat} {enc : α → List Value}

theorem run_append_none (w : World) (base : Nat) (ty : TypeId) (T : SlTy P t E size bytes enc) (v : Value) (l : List α) (hown : Own E size enc w base v l) (c : Nat) : (Builtin.append_ #[t, t] ty #[v, .slice none 0 c]).run P w = .ok v w := by
  obtain ⟨i, z, hi, hz0, hz1, hz2, hz3⟩ := T.info
  obtain ⟨h1, h2⟩ := hown
  rcases h2 with ⟨rfl, h0⟩ | ⟨g, cap, cur, rfl, hg, hh, hnc, _⟩
  · simp [Builtin.append_, run_underlying T.und, sizeOf, typeInfo, hi, Builtin.lenOf, Builtin.firstCells]
  · simp [Builtin.append_, run_underlying T.und, sizeOf, typeInfo, hi, Builtin.lenOf, Builtin.firstCells, hnc, storeCells]

/-- append(v, x...). -/
theorem wp_appendA (T : SlTy P t E size bytes enc) {ops : Array Oper} {rest : List Oper} {o : Oper} {a : Act} {Q : Exit → Act → World → Prop}
    (hg : o.guard = none) (s x : Operand) (hop : o.op = Op.call { callee := Callee.builtin Builtin.append, args := #[s, x], argTypes := #[t, t] })
    (wr : World) (B : Nat) (v : Value) (l : List α) (hs : a.eval s = v) (hown : Own E size enc wr B v l) (l2 : List α) (ad : Option Addr) (n2 c hi : Nat)
    (hx : a.eval x = .slice ad n2 c) (hsl : Sl size enc wr hi (.slice ad n2 c) l2) (hl : l.length + l2.length ≤ maxLen) (hb : (l.length + l2.length) * bytes ≤ 140737488355328) (hB : B ≤ wr.heap.size)
    (hk : ∀ v' w', Own E size enc w' B v' (l ++ l2) → Below B wr w' → wr.grownBy w' v.ownBlock → (v'.ownBlock = v.ownBlock ∨ v'.ownBlock = some wr.heap.size) → wpList P ops Q rest (a.put o.dst v') w') :
    wpList P ops Q (o :: rest) a wr := by
  have hn2 : n2 = l2.length := by obtain ⟨_, _, he, _⟩ := hsl; exact (Value.slice.inj he).2.1
  subst hn2
  cases ad with
  | none =>
    have h0 : l2 = [] := by
      obtain ⟨ad', cap', he, _, h⟩ := hsl
      rcases h with h | ⟨b, off, hbo, _⟩
      · exact h
      · rw [hbo] at he; simp at he
    subst h0
    refine wpList_plain hg fun K hK' => ?_
    have hrun := run_append_none wr B o.type T v l hown c
    unfold Oper.wp
    simp only [List.length_nil] at hx
    simp [execOp, hop, resolve, invoke, builtin, hs, hx, hrun, Result.andThen]
    exact hK' _ _ (hk v wr (by simpa using hown) (Below.refl _ _) (World.grownBy.refl wr _) (Or.inl rfl))
  | some ad =>
    obtain ⟨i, z, hi0, hz0, hz1, hz2, hz3⟩ := T.info
    refine wpList_append_own_at _ hg s x t hop B E i z size bytes T.und hi0 hz0 hz1 hz2 hz3 T.pos v l.length (l.flatMap enc) hs hown ad l2.length c (l2.flatMap enc) hx (flat_len T.len l2) ?_ ?_ hl hb hB ?_
    · intro j u hj
      obtain ⟨ad', cap', he, _, h⟩ := hsl
      simp only [Value.slice.injEq, Option.some.injEq] at he
      rcases h with h | ⟨b, off, hbo, _, h⟩
      · subst h; simp at hj
      · obtain ⟨rfl, _, _⟩ := he
        simp only [Option.some.injEq] at hbo
        subst hbo
        have hjl : j < (l2.flatMap enc).length := (List.getElem?_eq_some_iff.1 hj).1
        rw [flat_len T.len] at hjl
        have hpos := T.pos
        have hq : j / size < l2.length := (Nat.div_lt_iff_lt_mul hpos).2 hjl
        have hr : j % size < size := Nat.mod_lt _ hpos
        have e : j / size * size + j % size = j := by rw [Nat.mul_comm]; exact Nat.div_add_mod j size
        have h1 := h (j / size) (j % size) l2[j / size] (by simp [hq]) hr
        have h2 := flat_get T.len l2 (j / size) (j % size) l2[j / size] (by simp [hq]) hr
        rw [e] at h1 h2
        rw [addr_add, h1, ← h2, hj]
    · intro u hu
      obtain ⟨y, _, hy⟩ := List.mem_flatMap.1 hu
      exact T.one y u hy
    · intro v' w' h1 h2 _ h4
      refine hk v' w' ?_ ?_ h2 h4
      · unfold Own
        rw [List.length_append, List.flatMap_append]
        exact h1
      · exact (Below.refl _ _).grown h2 hB (fun k hk => (World.ownsRow.lt hown k hk).1)
end
end Go.Proofs.Ytgcbfpimfmkbmaa.Kit
