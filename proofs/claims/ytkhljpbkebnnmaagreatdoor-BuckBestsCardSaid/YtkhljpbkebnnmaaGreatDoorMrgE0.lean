/- Kit Ev1 Ev2 Ev3 Ev4 Ev5 Ev6 Ev7 Ev8 Ev10 Ev9 Ev11 Ev12 Ev13 Ev14 Ev15: texts laid together. -/
import Derived.WalkKit
import Derived.WalkSpells
import Derived.WalkLawsBesides
import Derived.Lib.Hide
import Derived.Deep.AppendLies
import Derived.IntWalk
import Derived.Deep.MidRow
import Derived.Laws.CopyRow
import Derived.Maps.AppendAt
import Derived.OwnWalk
import Derived.Great.FillDense
import Derived.Great.BuildSlice
import Derived.StillTail
import Derived.Laws.StructEq
/- General facts: a slice of the call's own that holds a list of elements; appending one element; reading. Nothing here names a program. -/
namespace Go.Proofs.YtkhljpbkebnnmaaGreatDoor.Kit
set_option linter.unusedVariables false
set_option linter.unusedSimpArgs false
open Go.RowKit
structure SlTy {α : Type} (P : Program) (t E : TypeId) (size bytes : Nat) (enc : α → List Value) : Prop where
  und : P.underlying t = some (.slice E)
  info : ∃ i z, P.info? E = some i ∧ i.zero = some z ∧ i.size = size ∧ i.bytes = bytes ∧ z.cells.size = size
  pos : 0 < size
  len : ∀ x, (enc x).length = size
  one : ∀ x u, u ∈ enc x → u.oneCell' = true
def Own {α : Type} (E : TypeId) (size : Nat) (enc : α → List Value) (w : World) (B : Nat) (v : Value) (l : List α) : Prop :=
  w.ownsRow B E size v l.length (l.flatMap enc)
section
variable {α : Type} {P : Program} {t E : TypeId} {size bytes : Nat} {enc : α → List Value}
theorem Own.nil (w : World) (B : Nat) : Own E size enc w B (.slice none 0 0) ([] : List α) := World.ownsRow_nil w B E size
theorem addr_add (g o j : Nat) : (Addr.add ⟨g, o, none⟩ j) = ⟨g, o + j, none⟩ := by
  unfold Addr.add
  split
  · subst j; rfl
  · rfl
theorem Own.alloc {w : World} {B : Nat} {v : Value} {l : List α} (h : Own E size enc w B v l) (o : Obj) : Own E size enc (w.alloc o) B v l := World.ownsRow.alloc h o
theorem Own.below {w w' : World} {B C : Nat} {v : Value} {l : List α} (h : Own E size enc w B v l) (hb : Below C w w') (hC : ∀ k, v.ownBlock = some k → k < C) : Own E size enc w' B v l := by
  obtain ⟨h1, h2⟩ := h
  refine ⟨h1, ?_⟩
  rcases h2 with hn | ⟨g, cap, cur, rfl, hg, hh, r⟩
  · exact Or.inl hn
  · exact Or.inr ⟨g, cap, cur, rfl, hg, by rw [hb.block g (hC g rfl)]; exact hh, r⟩
theorem Own.mono {w : World} {B B' : Nat} {v : Value} {l : List α} (h : Own E size enc w B v l) (hB : B' ≤ B) : Own E size enc w B' v l := by
  obtain ⟨h1, h2⟩ := h
  refine ⟨h1, ?_⟩
  rcases h2 with hn | ⟨g, cap, cur, rfl, hg, hh, r⟩
  · exact Or.inl hn
  · exact Or.inr ⟨g, cap, cur, rfl, by omega, hh, r⟩
theorem wp_append1 (T : SlTy P t E size bytes enc) {ops : Array Oper} {rest : List Oper} {o : Oper} {a : Act} {Q : Exit → Act → World → Prop}
    (hg : o.guard = none) (s x : Operand) (hop : o.op = Op.call { callee := Callee.builtin Builtin.append, args := #[s, x], argTypes := #[t, t] })
    (wr : World) (B : Nat) (v : Value) (l : List α) (hs : a.eval s = v) (hown : Own E size enc wr B v l) (c : α) (C : Array Value) (TT : TypeId)
    (hx : a.eval x = .slice (some ⟨wr.heap.size, 0, none⟩) 1 1) (hC : C.toList = enc c) (hl : l.length + 1 ≤ maxLen) (hb : (l.length + 1) * bytes ≤ 140737488355328) (hB : B ≤ wr.heap.size)
    (hk : ∀ v' w', Own E size enc w' B v' (l ++ [c]) → Below B wr w' → wr.grownBy w' v.ownBlock → wr.heap.size < w'.heap.size → wpList P ops Q rest (a.put o.dst v') w') :
    wpList P ops Q (o :: rest) a (wr.alloc (.cells C TT)) := by
  obtain ⟨i, z, hi, hz0, hz1, hz2, hz3⟩ := T.info
  refine wpList_append_own _ hg s x t hop B E i z size bytes T.und hi hz0 hz1 hz2 hz3 T.pos v l.length (l.flatMap enc) hs (World.ownsRow.alloc hown _) ⟨wr.heap.size, 0, none⟩ 1 1 (enc c) hx (by rw [T.len]; omega) ?_ (T.one c) hl hb (by simp; omega) ?_
  · intro j u hj
    rw [addr_add, World.cell?_alloc_mark, ← Array.getElem?_toList, hC]
    simpa using hj
  · intro v' w' h1 h2 _
    have hgb : wr.grownBy w' v.ownBlock := ⟨h2.os, h2.tape, h2.output, by have := h2.size; simp at this; omega, fun k hk hne => by
      rw [h2.block k (by simp; omega) hne]
      exact Below.heap_alloc _ _ _ hk⟩
    refine hk v' w' ?_ ?_ hgb ?_
    · unfold Own
      simp only [List.length_append, List.length_cons, List.length_nil, Nat.zero_add, List.flatMap_append, List.flatMap_cons, List.flatMap_nil, List.append_nil]
      exact h1
    · exact (Below.refl _ _).grown hgb hB (fun k hk => (World.ownsRow.lt hown k hk).1)
    · have := h2.size; simp at this; omega
theorem flat_len (henc : ∀ x, (enc x).length = size) : ∀ l : List α, (l.flatMap enc).length = l.length * size
  | [] => by simp
  | x :: l => by rw [List.flatMap_cons, List.length_append, henc, flat_len henc l, List.length_cons, Nat.add_mul]; omega
theorem flat_get (henc : ∀ x, (enc x).length = size) : ∀ (l : List α) (i j : Nat) (x : α), l[i]? = some x → j < size → (l.flatMap enc)[i * size + j]? = (enc x)[j]?
  | [], i, j, x, h, _ => by simp at h
  | y :: l, 0, j, x, h, hj => by
    have e : y = x := by simpa using h
    subst e
    rw [List.flatMap_cons, Nat.zero_mul, Nat.zero_add, List.getElem?_append_left (by rw [henc]; exact hj)]
  | y :: l, i + 1, j, x, h, hj => by
    rw [List.flatMap_cons, List.getElem?_append_right (by rw [henc, Nat.add_mul]; omega), henc, show (i + 1) * size + j - size = i * size + j from by rw [Nat.add_mul]; omega]
    exact flat_get henc l i j x (by simpa using h) hj
def Sl (size : Nat) (enc : α → List Value) (w : World) (hi : Nat) (v : Value) (l : List α) : Prop :=
  ∃ ad cap, v = .slice ad l.length cap ∧ l.length ≤ cap ∧ (l = [] ∨ ∃ b off, ad = some ⟨b, off, none⟩ ∧ b < hi ∧ ∀ (i j : Nat) (x : α), l[i]? = some x → j < size → w.cell? ⟨b, off + (i * size + j), none⟩ = (enc x)[j]?)
theorem Sl.below {w w' : World} {hi B : Nat} {v : Value} {l : List α} (h : Sl size enc w hi v l) (hb : Below B w w') (hB : hi ≤ B) : Sl size enc w' hi v l := by
  obtain ⟨ad, cap, hv, hc, h⟩ := h
  refine ⟨ad, cap, hv, hc, ?_⟩
  rcases h with h | ⟨b, off, ha, hlt, h⟩
  · exact Or.inl h
  · refine Or.inr ⟨b, off, ha, hlt, fun i j x h1 h2 => ?_⟩
    rw [hb.cell (p := ⟨b, off + (i * size + j), none⟩) (by show b < B; omega)]
    exact h i j x h1 h2
theorem Sl.mono {w : World} {hi hi' : Nat} {v : Value} {l : List α} (h : Sl size enc w hi v l) (hb : hi ≤ hi') : Sl size enc w hi' v l := by
  obtain ⟨ad, cap, hv, hc, h⟩ := h
  refine ⟨ad, cap, hv, hc, ?_⟩
  rcases h with h | ⟨b, off, ha, hlt, h⟩
  · exact Or.inl h
  · exact Or.inr ⟨b, off, ha, by omega, h⟩
theorem Own.take {w : World} {B : Nat} {g m cap : Nat} {l : List α} (henc : ∀ x, (enc x).length = size) (h : Own E size enc w B (.slice (some ⟨g, 0, none⟩) m cap) l) (n : Nat) (hn : n ≤ l.length) : Own E size enc w B (.slice (some ⟨g, 0, none⟩) n cap) (l.take n) := by
  obtain ⟨h1, h2⟩ := h
  have hlen : (l.take n).length = n := by rw [List.length_take]; omega
  refine ⟨flat_len henc _, Or.inr ?_⟩
  rcases h2 with ⟨h2, _⟩ | ⟨g', cap', cur, hv, hg, hh, hc1, hc2, hc3, htk⟩
  · simp at h2
  · simp only [Value.slice.injEq, Option.some.injEq, Addr.mk.injEq] at hv
    obtain ⟨⟨rfl, _, _⟩, rfl, rfl⟩ := hv
    refine ⟨g, cap, cur, by rw [hlen], hg, hh, by omega, hc2, hc3, ?_⟩
    rw [hlen]
    have e : cur.toList.take (n * size) = (cur.toList.take (l.length * size)).take (n * size) := by
      rw [List.take_take, Nat.min_eq_left (Nat.mul_le_mul_right _ hn)]
    rw [e, htk]
    have e2 : l.flatMap enc = (l.take n).flatMap enc ++ (l.drop n).flatMap enc := by rw [← List.flatMap_append, List.take_append_drop]
    rw [e2, List.take_left' (by rw [flat_len henc, hlen])]
theorem Sl.other {w w' : World} {hi : Nat} {v : Value} {l : List α} (h : Sl size enc w hi v l) (hk : ∀ k, v.ownBlock = some k → l ≠ [] → k < hi → w'.heap[k]? = w.heap[k]?) : Sl size enc w' hi v l := by
  obtain ⟨ad, cap, rfl, hc, h⟩ := h
  refine ⟨ad, cap, rfl, hc, ?_⟩
  rcases h with h | ⟨b, off, rfl, hlt, h⟩
  · exact Or.inl h
  · by_cases hl : l = []
    · exact Or.inl hl
    · refine Or.inr ⟨b, off, rfl, hlt, fun i j x h1 h2 => ?_⟩
      have e : w'.cell? ⟨b, off + (i * size + j), none⟩ = w.cell? ⟨b, off + (i * size + j), none⟩ := World.cell?_of_block (hk b rfl hl hlt)
      rw [e]; exact h i j x h1 h2
end
#print axioms wp_append1
end Go.Proofs.YtkhljpbkebnnmaaGreatDoor.Kit
/- Abstract values and memory, and how they stand for the model's values and worlds. Nothing here names a program. -/
namespace Go.Proofs.YtkhljpbkebnnmaaGreatDoor.Ev
set_option linter.unusedVariables false
set_option linter.unusedSimpArgs false
open Go.RowKit
inductive CV where
  | v (x : Value)
  | agg (xs : List CV)
  | tup (xs : List CV)
  | lst (size : Nat) (xs : List CV)
  | e0
inductive AV where
  | c (x : CV)
  | agg (xs : List AV)
  | tup (xs : List AV)
  | ptr (b off : Nat)
  | vec (b n : Nat)
  | vptr (b n off : Nat)
  | eptr (xs : List CV) (off : Nat)
  | fn (f : FuncId) (cap : List AV)
  | ghost (b n : Nat) (v : Value)
  | ref (b : Nat) (f : Nat → Value)
structure ObjP where
  holds : World → Nat → (Nat → Prop) → Prop
  stable : ∀ (w w' : World) (g : Nat) (fp : Nat → Prop), holds w g fp → (∀ k, fp k → w'.heap[k]? = w.heap[k]?) → holds w' g fp
inductive AB where
  | cells (t : TypeId) (l : List AV)
  | vec (E : TypeId) (size : Nat) (l : List CV)
  | obj (p : ObjP)
inductive Conc where
  | blk (g : Nat)
  | row (v : Value)
def Conc.block : Conc → Option Nat
  | .blk g => some g
  | .row v => v.ownBlock
def look {α : Type} (k : Nat) : List (Nat × α) → Option α
  | [] => none
  | (i, x) :: l => bif Nat.beq i k then some x else look k l
structure St where
  n : Nat
  env : List (Nat × AV)
  heap : List (Nat × Option AB)
  nx : Nat
  gl : List (Nat × List CV)
def St.H (s : St) (b : Nat) : Option AB := match look b s.heap with | some (some x) => some x | _ => none
def St.put (s : St) (d : Nat) (x : AV) : St := { s with env := (d, x) :: s.env }
def St.set (s : St) (b : Nat) (x : AB) : St := { s with heap := (b, some x) :: s.heap }
def St.new (s : St) (x : AB) : St := { s with heap := (s.nx, some x) :: s.heap, nx := s.nx + 1 }
def St.ev (s : St) : Operand → Option AV
  | .tmp t => look t s.env
  | .const v => some (.c (.v v))
  | .global g => (look g s.gl).map (fun xs => .eptr xs 0)
  | .func f => some (.fn f [])
structure Wd where
  m : Nat → Conc
  H : Nat → Option AB
  nx : Nat
  F : Nat → Prop
  w : World
  fp : Nat → Nat → Prop
inductive RC (F : Nat → Prop) (w : World) : CV → Value → Prop
  | v (x : Value) : RC F w (.v x) x
  | agg {xs : List CV} {vs : Array Value} (hl : xs.length = vs.size) (h : ∀ (i : Nat) (x : CV) (u : Value), xs[i]? = some x → vs[i]? = some u → RC F w x u) : RC F w (.agg xs) (.agg vs)
  | tup {xs : List CV} {vs : Array Value} (hl : xs.length = vs.size) (h : ∀ (i : Nat) (x : CV) (u : Value), xs[i]? = some x → vs[i]? = some u → RC F w x u) : RC F w (.tup xs) (.tuple vs)
  | nil {size cap : Nat} {ad : Option Addr} : RC F w (.lst size []) (.slice ad 0 cap)
  | e0 {ad : Option Addr} : RC F w .e0 (.slice ad 0 0)
  | lst {size blk off n cap : Nat} {xs : List CV} (cs : Nat → Value) (hn : xs.length = n * size) (hc : n ≤ cap) (hF : F blk)
      (hcell : ∀ (i : Nat) (x : CV), xs[i]? = some x → w.cell? ⟨blk, off + i, none⟩ = some (cs i)) (hr : ∀ (i : Nat) (x : CV), xs[i]? = some x → RC F w x (cs i)) : RC F w (.lst size xs) (.slice (some ⟨blk, off, none⟩) n cap)
inductive RA (M : Wd) : AV → Value → Prop
  | c {x : CV} {u : Value} (h : RC M.F M.w x u) : RA M (.c x) u
  | agg {xs : List AV} {vs : Array Value} (hl : xs.length = vs.size) (h : ∀ (i : Nat) (x : AV) (u : Value), xs[i]? = some x → vs[i]? = some u → RA M x u) : RA M (.agg xs) (.agg vs)
  | tup {xs : List AV} {vs : Array Value} (hl : xs.length = vs.size) (h : ∀ (i : Nat) (x : AV) (u : Value), xs[i]? = some x → vs[i]? = some u → RA M x u) : RA M (.tup xs) (.tuple vs)
  | ptr {b off g : Nat} (h : M.m b = .blk g) : RA M (.ptr b off) (.pointer (some ⟨g, off, none⟩))
  | vec {b n : Nat} {v : Value} (hb : b < M.nx) (ho : v.oneCell' = true) (h : ∀ E size l, M.H b = some (.vec E size l) → n * size ≤ l.length ∧ (l.length = n * size → M.m b = .row v)) : RA M (.vec b n) v
  | vptr {b n off : Nat} {v : Value} (hb : b < M.nx) (ho : v.oneCell' = true) (h : ∀ E size l, M.H b = some (.vec E size l) → n * size ≤ l.length ∧ (l.length = n * size → ∃ g cap, M.m b = .row (.slice (some ⟨g, 0, none⟩) n cap) ∧ v = .pointer (some ⟨g, off, none⟩))) : RA M (.vptr b n off) v
  | eptr {xs : List CV} {off blk o : Nat} (cs : Nat → Value) (hF : M.F blk) (hcell : ∀ (i : Nat) (x : CV), xs[i]? = some x → M.w.cell? ⟨blk, o + i, none⟩ = some (cs i)) (hr : ∀ (i : Nat) (x : CV), xs[i]? = some x → RC M.F M.w x (cs i)) : RA M (.eptr xs off) (.pointer (some ⟨blk, o + off, none⟩))
  | fn {f : FuncId} {xs : List AV} {vs : Array Value} (hl : xs.length = vs.size) (h : ∀ (i : Nat) (x : AV) (u : Value), xs[i]? = some x → vs[i]? = some u → RA M x u) : RA M (.fn f xs) (.func (.func f) #[] vs)
  | ghost {b n : Nat} {v u : Value} (hb : b < M.nx) (ho : v.oneCell' = true) (h : ∀ E size l, M.H b = some (.vec E size l) → n * size ≤ l.length ∧ (l.length = n * size → M.m b = .row v)) : RA M (.ghost b n v) u
  | ref {b g : Nat} {f : Nat → Value} (h : M.m b = .blk g) (ho : (f g).oneCell' = true) : RA M (.ref b f) (f g)
theorem cell_eq {w w' : World} {p : Addr} (h : w'.heap[p.block]? = w.heap[p.block]?) : w'.cell? p = w.cell? p := by unfold World.cell?; rw [h]
theorem RC.mono {F F' : Nat → Prop} {w w' : World} (h : ∀ b, F b → F' b ∧ w'.heap[b]? = w.heap[b]?) {x : CV} {u : Value} (hx : RC F w x u) : RC F' w' x u := by
  induction hx with
  | v x => exact .v x
  | agg hl _ ih => exact .agg hl ih
  | tup hl _ ih => exact .tup hl ih
  | nil => exact .nil
  | e0 => exact .e0
  | lst cs hn hc hF hcell _ ih =>
    refine .lst cs hn hc (h _ hF).1 (fun i x hi => ?_) ih
    rw [cell_eq (h _ hF).2]; exact hcell i x hi
structure Ext (M M' : Wd) : Prop where
  m : ∀ b g, M.m b = .blk g → M'.m b = .blk g
  v : ∀ b E size l', b < M.nx → M'.H b = some (.vec E size l') → ∃ l, M.H b = some (.vec E size l) ∧ l.length ≤ l'.length ∧ (l'.length = l.length → M'.m b = M.m b)
  nx : M.nx ≤ M'.nx
  F : ∀ b, M.F b → M'.F b ∧ M'.w.heap[b]? = M.w.heap[b]?
theorem Ext.refl (M : Wd) : Ext M M := ⟨fun _ _ h => h, fun _ _ _ l' _ h => ⟨l', h, Nat.le_refl _, fun _ => rfl⟩, Nat.le_refl _, fun _ h => ⟨h, rfl⟩⟩
theorem Ext.trans {M M' M'' : Wd} (h : Ext M M') (h' : Ext M' M'') : Ext M M'' where
  m := fun b g hb => h'.m b g (h.m b g hb)
  v := fun b E size l'' hb hl => by
    obtain ⟨l', e1, e2, e3⟩ := h'.v b E size l'' (Nat.lt_of_lt_of_le hb h.nx) hl
    obtain ⟨l, d1, d2, d3⟩ := h.v b E size l' hb e1
    exact ⟨l, d1, Nat.le_trans d2 e2, fun hh => (e3 (by omega)).trans (d3 (by omega))⟩
  nx := Nat.le_trans h.nx h'.nx
  F := fun b hb => ⟨(h'.F b (h.F b hb).1).1, (h'.F b (h.F b hb).1).2.trans (h.F b hb).2⟩
theorem RA.mono {M M' : Wd} (h : Ext M M') {x : AV} {u : Value} (hx : RA M x u) : RA M' x u := by
  induction hx with
  | c hx => exact .c (hx.mono h.F)
  | agg hl _ ih => exact .agg hl ih
  | tup hl _ ih => exact .tup hl ih
  | ptr hb => exact .ptr (h.m _ _ hb)
  | vec hb ho hv =>
    refine .vec (Nat.lt_of_lt_of_le hb h.nx) ho (fun E size l' hl => ?_)
    obtain ⟨l, d1, d2, d3⟩ := h.v _ E size l' hb hl
    obtain ⟨e1, e2⟩ := hv E size l d1
    exact ⟨by omega, fun hh => by rw [d3 (by omega)]; exact e2 (by omega)⟩
  | vptr hb ho hv =>
    refine .vptr (Nat.lt_of_lt_of_le hb h.nx) ho (fun E size l' hl => ?_)
    obtain ⟨l, d1, d2, d3⟩ := h.v _ E size l' hb hl
    obtain ⟨e1, e2⟩ := hv E size l d1
    exact ⟨by omega, fun hh => by rw [d3 (by omega)]; exact e2 (by omega)⟩
  | eptr cs hF hcell hr =>
    refine .eptr cs (h.F _ hF).1 (fun i x hi => ?_) (fun i x hi => (hr i x hi).mono h.F)
    rw [cell_eq (h.F _ hF).2]; exact hcell i x hi
  | fn hl _ ih => exact .fn hl ih
  | ghost hb ho hv =>
    refine .ghost (Nat.lt_of_lt_of_le hb h.nx) ho (fun E size l' hl => ?_)
    obtain ⟨l, d1, d2, d3⟩ := h.v _ E size l' hb hl
    obtain ⟨e1, e2⟩ := hv E size l d1
    exact ⟨by omega, fun hh => by rw [d3 (by omega)]; exact e2 (by omega)⟩
  | ref hb ho => exact .ref (h.m _ _ hb) ho
structure HeapOK (M : Wd) (base : Nat) : Prop where
  cells : ∀ b t l, M.H b = some (.cells t l) → ∃ (g : Nat) (arr : Array Value), M.m b = .blk g ∧ base ≤ g ∧ ¬ M.F g ∧ M.w.heap[g]? = some (.cells arr t (0, 0)) ∧ l.length = arr.size ∧ ∀ (i : Nat) (x : AV) (u : Value), l[i]? = some x → arr[i]? = some u → RA M x u
  vec : ∀ b E size l, M.H b = some (.vec E size l) → ∃ (v : Value) (n : Nat) (cs : List Value), M.m b = .row v ∧ l.length = n * size ∧ 0 < size ∧ M.w.ownsRow base E size v n cs ∧ (∀ (i : Nat) (x : CV) (u : Value), l[i]? = some x → cs[i]? = some u → RC M.F M.w x u) ∧ ∀ g, v.ownBlock = some g → ¬ M.F g
  sep : ∀ b b' g, b ≠ b' → M.H b ≠ none → M.H b' ≠ none → (M.m b).block = some g → (M.m b').block ≠ some g
  lt : ∀ b, M.H b ≠ none → b < M.nx
  fresh : ∀ b, M.nx ≤ b → ∀ g, M.m b ≠ .blk g
  frz : ∀ b, M.F b → b < M.w.heap.size
  obj : ∀ b p, M.H b = some (.obj p) → ∃ g, M.m b = .blk g ∧ M.fp b g ∧ p.holds M.w g (M.fp b) ∧ (∀ k, M.fp b k → base ≤ k ∧ k < M.w.heap.size ∧ ¬ M.F k) ∧ ∀ b' k, b' ≠ b → M.fp b k → (M.H b' ≠ none → (M.m b').block ≠ some k) ∧ ∀ p', M.H b' = some (.obj p') → ¬ M.fp b' k
structure W0 where
  w : World
  F : Nat → Prop
structure Sim (B : Nat) (w0 : W0) (st : St) (M : Wd) (a : Act) : Prop where
  H : M.H = st.H
  nx : M.nx = st.nx
  n : a.tmps.size = st.n
  env : ∀ i x, look i st.env = some x → ∃ v, a.tmps[i]? = some v ∧ RA M x v
  gl : ∀ g xs, look g st.gl = some xs → RA M (.eptr xs 0) (.pointer (some ⟨g, 0, none⟩))
  heap : HeapOK M B
  below : Below B w0.w M.w
  base : B ≤ M.w.heap.size
  defs : a.defers = []
  old : ∀ b, M.F b → b < B → w0.F b
theorem Sim.ev {base : Nat} {w0 : W0} {st : St} {M : Wd} {a : Act} (h : Sim base w0 st M a) {x : Operand} {y : AV} (hx : st.ev x = some y) : RA M y (a.eval x) := by
  cases x with
  | tmp t =>
    obtain ⟨v, h1, h2⟩ := h.env t y hx
    simp only [Act.eval]
    rw [Array.getD_eq_getD_getElem?, h1]; exact h2
  | const v => simp only [St.ev, Option.some.injEq] at hx; subst hx; exact .c (.v v)
  | global g =>
    simp only [St.ev, Option.map_eq_some_iff] at hx
    obtain ⟨xs, h1, rfl⟩ := hx
    exact h.gl g xs h1
  | func f => simp only [St.ev, Option.some.injEq] at hx; subst hx; exact .fn rfl (fun i x u h => by simp at h)
theorem beq_true {i k : Nat} (h : Nat.beq i k = true) : i = k := Nat.eq_of_beq_eq_true h
theorem beq_false {i k : Nat} (h : Nat.beq i k = false) : i ≠ k := Nat.ne_of_beq_eq_false h
theorem blt_true {i k : Nat} (h : Nat.blt i k = true) : i < k := Nat.le_of_ble_eq_true h
theorem look_cons {α : Type} (k i : Nat) (x : α) (l : List (Nat × α)) : look k ((i, x) :: l) = if i = k then some x else look k l := by
  show (bif Nat.beq i k then some x else look k l) = _
  cases hb : Nat.beq i k with
  | true => rw [if_pos (beq_true hb)]; rfl
  | false => rw [if_neg (beq_false hb)]; rfl
theorem Sim.put {base : Nat} {w0 : W0} {st : St} {M : Wd} {a : Act} (h : Sim base w0 st M a) {d : Nat} (hd : Nat.blt d st.n = true) {x : AV} {u : Value} (hx : RA M x u) : Sim base w0 (st.put d x) M (a.put (some d) u) := by
  have hd' : d < a.tmps.size := by rw [h.n]; exact blt_true hd
  refine ⟨h.H, h.nx, by show (a.tmps.setIfInBounds d u).size = _; rw [Array.size_setIfInBounds]; exact h.n, fun i y hy => ?_, h.gl, h.heap, h.below, h.base, by simpa [Act.put] using h.defs, h.old⟩
  simp only [St.put, look_cons] at hy
  by_cases hi : d = i
  · subst hi
    rw [if_pos rfl] at hy
    simp only [Option.some.injEq] at hy; subst hy
    exact ⟨u, by simp [Act.put, hd'], hx⟩
  · rw [if_neg hi] at hy
    obtain ⟨v, h1, h2⟩ := h.env i y hy
    exact ⟨v, by simp [Act.put, Array.getElem?_setIfInBounds_ne hi, h1], h2⟩
def Lift (base : Nat) (w0 : W0) (M : Wd) (Q : Exit → St → Prop) : Exit → Act → World → Prop :=
  fun e a' w' => ∃ M' st', M'.w = w' ∧ Sim base w0 st' M' a' ∧ Ext M M' ∧ Q e st'
theorem Lift.ext {base : Nat} {w0 : W0} {M M' : Wd} {Q : Exit → St → Prop} (h : Ext M M') {e : Exit} {a : Act} {w : World} (hl : Lift base w0 M' Q e a w) : Lift base w0 M Q e a w := by
  obtain ⟨M'', st', h1, h2, h3, h4⟩ := hl
  exact ⟨M'', st', h1, h2, h.trans h3, h4⟩
section
variable {P : Program}
theorem upon_monoQ {o : Oper} {a : Act} {K K' : Act → World → Prop} {Q Q' : Exit → Act → World → Prop} (hk : ∀ a w, K a w → K' a w) (hq : ∀ e a w, Q e a w → Q' e a w) {r : Result Next} (h : o.upon P a K Q r) : o.upon P a K' Q' r := by
  cases r with
  | ok n w' =>
    cases n <;> simp only [Oper.upon] at h ⊢ <;>
      first
        | exact hk _ _ h
        | exact Calls.mono h (fun e w'' he => by cases e <;> first | exact hk _ _ he | exact hq _ _ _ he | exact (he.elim fun a h => h.elim fun w h => ⟨a, w, hq _ _ _ h⟩))
        | exact Rows.mono h (fun _ _ he => hk _ _ he)
  | halt x w' => cases x <;> simp only [Oper.upon] at h ⊢ <;> exact hq _ _ _ h
theorem wpList_monoQ {ops : Array Oper} {Q Q' : Exit → Act → World → Prop} (hq : ∀ e a w, Q e a w → Q' e a w) : ∀ (l : List Oper) (a : Act) (w : World), wpList P ops Q l a w → wpList P ops Q' l a w
  | [], a, w, h => hq _ _ _ h
  | o :: l, a, w, h => by
    unfold wpList at h ⊢
    split
    · rename_i hw
      rw [if_pos hw] at h
      exact h.imp (upon_monoQ (fun a w => wpList_monoQ hq l a w) hq) (fun ⟨h1, a, w, h2⟩ => ⟨h1, a, w, hq _ _ _ h2⟩)
    · rename_i hw
      rw [if_neg hw] at h
      exact wpList_monoQ hq l _ _ h
def AOps (P : Program) (ops : Array Oper) (Q : Exit → St → Prop) (rest : List Oper) (st : St) : Prop :=
  ∀ base w0 M a, Sim base w0 st M a → wpList P ops (Lift base w0 M Q) rest a M.w
def Awp (P : Program) (c : Code) (Q : Exit → St → Prop) (st : St) : Prop :=
  ∀ base w0 M a, Sim base w0 st M a → c.wp P (Lift base w0 M Q) a M.w
theorem wl_value {ops : Array Oper} {Q : Exit → Act → World → Prop} {o : Oper} {rest : List Oper} {a : Act} {w w' : World} {u : Value} (hg : o.guard = none) (hr : (execOp a.eval o).run P w = .ok (.value u) w') (h : wpList P ops Q rest (a.put o.dst u) w') : wpList P ops Q (o :: rest) a w :=
  wpList_plain hg fun K hK => by unfold Oper.wp; rw [hr]; exact hK _ _ h
theorem wl_skip {ops : Array Oper} {Q : Exit → Act → World → Prop} {o : Oper} {rest : List Oper} {a : Act} {w w' : World} (hg : o.guard = none) (hr : (execOp a.eval o).run P w = .ok .skip w') (h : wpList P ops Q rest (a.put o.dst undef) w') : wpList P ops Q (o :: rest) a w :=
  wpList_plain hg fun K hK => by unfold Oper.wp; rw [hr]; exact hK _ _ h
structure SimW (base : Nat) (st : St) (M : Wd) : Prop where
  H : ∀ b x, st.H b = some x → M.H b = some x
  gl : ∀ g xs, look g st.gl = some xs → RA M (.eptr xs 0) (.pointer (some ⟨g, 0, none⟩))
  heap : HeapOK M base
structure SimO (base : Nat) (w0 : W0) (st : St) (o : Oper) (M : Wd) (a : Act) : Prop where
  sim : SimW base st M
  ops : ∀ x ∈ o.op.operands, ∀ y, st.ev x = some y → RA M y (a.eval x)
theorem SimO.ev {base : Nat} {w0 : W0} {st : St} {o : Oper} {M : Wd} {a : Act} (h : SimO base w0 st o M a) {x : Operand} {y : AV} (hm : x ∈ o.op.operands) (hx : st.ev x = some y) : RA M y (a.eval x) := h.ops x hm y hx
theorem SimO.H {base : Nat} {w0 : W0} {st : St} {o : Oper} {M : Wd} {a : Act} (h : SimO base w0 st o M a) : ∀ b x, st.H b = some x → M.H b = some x := h.sim.H
theorem Sim.toO {base : Nat} {w0 : W0} {st : St} {M : Wd} {a : Act} (h : Sim base w0 st M a) (o : Oper) : SimO base w0 st o M a := ⟨⟨fun b x hx => by rw [h.H]; exact hx, h.gl, h.heap⟩, fun _ _ _ hx => h.ev hx⟩
def QStep (P : Program) (o : Oper) (st : St) (y : AV) : Prop :=
  ∀ base w0 M a, SimO base w0 st o M a → ∀ (K : Act → World → Prop) (Q : Exit → Act → World → Prop), (∀ u M', Ext M M' → (∀ s, Sim base w0 s M a → Sim base w0 s M' a) → RA M' y u → K (a.put o.dst u) M'.w) → o.wp P a M.w K Q
class Walk (P : outParam Program) (X : List Oper → St → Prop) : Prop where
  step : ∀ {o : Oper} {rest : List Oper} {st : St} {d : Nat} {y : AV}, o.guard = none → o.dst = some d → Nat.blt d st.n = true → QStep P o st y → X rest (st.put d y) → X (o :: rest) st
instance {ops : Array Oper} {Q : Exit → St → Prop} : Walk P (AOps P ops Q) where
  step := fun {o rest st d y} hg hdst hd hq h base w0 M a hs => wpList_plain hg fun K hK => hq base w0 M a (hs.toO o) K _ fun u M' hext hsim hu => by
    refine hK _ _ ?_
    rw [hdst]
    exact wpList_monoQ (fun e a w => Lift.ext hext) _ _ _ (h base w0 M' _ ((hsim st hs).put hd hu))
theorem ao_val {X : List Oper → St → Prop} [W : Walk P X] {o : Oper} {rest : List Oper} {st : St} {d : Nat} {x : AV} (hg : o.guard = none) (hdst : o.dst = some d) (hd : Nat.blt d st.n = true)
    (hrun : ∀ base w0 M a, SimO base w0 st o M a → ∃ u, (execOp a.eval o).run P M.w = .ok (.value u) M.w ∧ RA M x u) (h : X rest (st.put d x)) : X (o :: rest) st := by
  refine W.step hg hdst hd (fun base w0 M a hs K Q hK => ?_) h
  obtain ⟨u, hr, hx⟩ := hrun base w0 M a hs
  unfold Oper.wp
  rw [hr]
  exact hK u M (Ext.refl M) (fun _ h => h) hx
theorem ao_nil {ops : Array Oper} {Q : Exit → St → Prop} {st : St} (h : Q .normal st) : AOps P ops Q [] st :=
  fun _ _ M _ hs => ⟨M, st, rfl, hs, Ext.refl M, h⟩
theorem aw_region {id : Nat} {l : List Oper} {Q : Exit → St → Prop} {st : St} (h : AOps P l.toArray Q l st) : Awp P (.region id l.toArray false) Q st :=
  fun base w0 M a hs => wp_region_lit (h base w0 M a hs)
def thn (K : St → Prop) (Q : Exit → St → Prop) : Exit → St → Prop
  | .normal, st => K st
  | e, st => Q e st
theorem aw_seq {x y : Code} {Q : Exit → St → Prop} {st : St} (h : Awp P x (thn (Awp P y Q) Q) st) : Awp P (.seq x y) Q st := by
  intro base w0 M a hs
  refine wp_seq (wp_mono (h base w0 M a hs) ?_)
  intro e a' w' ⟨M', st', h1, h2, h3, h4⟩
  cases e with
  | normal =>
    subst h1
    exact wp_mono (h4 base w0 M' a' h2) fun e a w => Lift.ext h3
  | _ => exact ⟨M', st', h1, h2, h3, h4⟩
theorem thn_normal {K : St → Prop} {Q : Exit → St → Prop} {st : St} (h : K st) : thn K Q .normal st := h
theorem thn_ret {K : St → Prop} {Q : Exit → St → Prop} {st : St} (h : Q .ret st) : thn K Q .ret st := h
theorem thn_exit {K : St → Prop} {Q : Exit → St → Prop} {st : St} {id : Nat} (h : Q (.exit id) st) : thn K Q (.exit id) st := h
theorem aw_skip {Q : Exit → St → Prop} {st : St} (h : Q .normal st) : Awp P .skip Q st := fun _ _ M _ hs => wp_skip ⟨M, st, rfl, hs, Ext.refl M, h⟩
theorem aw_exit {Q : Exit → St → Prop} {st : St} {id : Nat} (h : Q (.exit id) st) : Awp P (.exit id) Q st := fun _ _ M _ hs => wp_exit ⟨M, st, rfl, hs, Ext.refl M, h⟩
theorem aw_ret {Q : Exit → St → Prop} {st : St} (h : Q .ret st) : Awp P .ret Q st := fun _ _ M _ hs => wp_ret ⟨M, st, rfl, hs, Ext.refl M, h⟩
theorem RA.bool {M : Wd} {x : Value} {u : Value} (h : RA M (.c (.v x)) u) : u = x := by
  cases h with
  | c h => cases h; rfl
theorem aw_cond {c : Operand} {x y : Code} {Q : Exit → St → Prop} {st : St} {b : Bool} (hc : st.ev c = some (.c (.v (.bool b)))) (ht : b = true → Awp P x Q st) (hf : b = false → Awp P y Q st) : Awp P (.cond c x y) Q st := by
  intro base w0 M a hs
  have he := (hs.ev hc).bool
  refine wp_cond he ?_
  cases b with
  | true => exact ht rfl base w0 M a hs
  | false => exact hf rfl base w0 M a hs
def inb (id : Nat) (Q : Exit → St → Prop) : Exit → St → Prop
  | .exit i, st => if i = id then Q .normal st else Q (.exit i) st
  | e, st => Q e st
theorem inb_normal {id : Nat} {Q : Exit → St → Prop} {st : St} (h : Q .normal st) : inb id Q .normal st := h
theorem inb_ret {id : Nat} {Q : Exit → St → Prop} {st : St} (h : Q .ret st) : inb id Q .ret st := h
theorem inb_exit {id : Nat} {Q : Exit → St → Prop} {st : St} (h : Q .normal st) : inb id Q (.exit id) st := by unfold inb; simpa using h
theorem inb_other {id i : Nat} {Q : Exit → St → Prop} {st : St} (hne : Nat.beq i id = false) (h : Q (.exit i) st) : inb id Q (.exit i) st := by show (if i = id then Q .normal st else Q (.exit i) st); rw [if_neg (beq_false hne)]; exact h
theorem aw_block {id : Nat} {c : Code} {Q : Exit → St → Prop} {st : St} (h : Awp P c (inb id Q) st) : Awp P (.block id c) Q st := by
  intro base w0 M a hs
  refine wp_block (wp_mono (h base w0 M a hs) ?_)
  intro e a' w' ⟨M', st', h1, h2, h3, h4⟩
  cases e with
  | exit i =>
    simp only [inb] at h4
    simp only [Exit.inBlock]
    split
    · rename_i hi; rw [if_pos hi] at h4; exact ⟨M', st', h1, h2, h3, h4⟩
    · rename_i hi; rw [if_neg hi] at h4; exact ⟨M', st', h1, h2, h3, h4⟩
  | _ => exact ⟨M', st', h1, h2, h3, h4⟩
theorem aw_mono {c : Code} {Q Q' : Exit → St → Prop} {st : St} (h : Awp P c Q st) (hq : ∀ e st, Q e st → Q' e st) : Awp P c Q' st :=
  fun base w0 M a hs => wp_mono (h base w0 M a hs) fun _ _ _ ⟨M', st', h1, h2, h3, h4⟩ => ⟨M', st', h1, h2, h3, hq _ _ h4⟩
def AV.lt (n : Nat) : AV → Bool
  | .c _ => true
  | .agg xs => ltL n xs
  | .tup xs => ltL n xs
  | .ptr b _ => Nat.blt b n
  | .vec b _ => Nat.blt b n
  | .vptr b _ _ => Nat.blt b n
  | .eptr _ _ => true
  | .fn _ xs => ltL n xs
  | .ghost b _ _ => Nat.blt b n
  | .ref b _ => Nat.blt b n
where ltL (n : Nat) : List AV → Bool
  | [] => true
  | x :: l => AV.lt n x && ltL n l
theorem ltL_get {n : Nat} : ∀ {xs : List AV}, AV.lt.ltL n xs = true → ∀ (i : Nat) (x : AV), xs[i]? = some x → AV.lt n x = true
  | [], _, i, x, h => by simp at h
  | y :: l, hl, 0, x, h => by
    simp only [AV.lt.ltL, Bool.and_eq_true] at hl
    simp only [List.getElem?_cons_zero, Option.some.injEq] at h; subst h; exact hl.1
  | y :: l, hl, i + 1, x, h => by
    simp only [AV.lt.ltL, Bool.and_eq_true] at hl
    exact ltL_get hl.2 i x (by simpa using h)
def EnvW (s : St) (nx : Nat) : List (Nat × AV) → Prop
  | [] => True
  | (i, x) :: l => look i s.env = some x ∧ AV.lt nx x = true ∧ EnvW s nx l
def abLt (nx : Nat) : AB → Bool
  | .cells _ l => AV.lt.ltL nx l
  | .vec _ _ _ => true
  | .obj _ => true
def HeapW (s : St) (nx : Nat) : List (Nat × Option AB) → Prop
  | [] => True
  | (i, some x) :: l => s.H i = some x ∧ Nat.blt i nx = true ∧ abLt nx x = true ∧ HeapW s nx l
  | (_, none) :: _ => False
structure Weak (s s' : St) : Prop where
  n : s'.n = s.n
  gl : s'.gl = s.gl
  nx : s'.nx ≤ s.nx
  env : ∀ i x, look i s'.env = some x → look i s.env = some x ∧ AV.lt s'.nx x = true
  heap : ∀ b x, s'.H b = some x → s.H b = some x ∧ b < s'.nx ∧ abLt s'.nx x = true
theorem EnvW.get {s : St} {nx : Nat} : ∀ {l : List (Nat × AV)}, EnvW s nx l → ∀ i x, look i l = some x → look i s.env = some x ∧ AV.lt nx x = true
  | [], _, i, x, h => by simp [look] at h
  | (j, y) :: l, ⟨h1, h2, h3⟩, i, x, h => by
    rw [look_cons] at h
    split at h
    · rename_i hj; subst hj; simp only [Option.some.injEq] at h; subst h; exact ⟨h1, h2⟩
    · exact EnvW.get h3 i x h
theorem HeapW.get {s : St} {nx : Nat} : ∀ {l : List (Nat × Option AB)}, HeapW s nx l → ∀ i x, look i l = some (some x) → s.H i = some x ∧ i < nx ∧ abLt nx x = true
  | [], _, i, x, h => by simp [look] at h
  | (j, some y) :: l, ⟨h1, h0, h2, h3⟩, i, x, h => by
    rw [look_cons] at h
    split at h
    · rename_i hj; subst hj; simp only [Option.some.injEq] at h; subst h; exact ⟨h1, blt_true h0, h2⟩
    · exact HeapW.get h3 i x h
theorem St.H_some {s : St} {b : Nat} {x : AB} (h : s.H b = some x) : look b s.heap = some (some x) := by
  unfold St.H at h
  split at h
  · rename_i y hy; simp only [Option.some.injEq] at h; subst h; exact hy
  · cases h
def Wd.cut (M : Wd) (s : St) : Wd := { m := fun b => if b < s.nx then M.m b else .row undef, H := s.H, nx := s.nx, F := M.F, w := M.w, fp := M.fp }
theorem RA.cut {M : Wd} {s s' : St} (hH : M.H = s.H) (hw : Weak s s') {x : AV} {u : Value} (h : RA M x u) : AV.lt s'.nx x = true → RA (M.cut s') x u := by
  have hv : ∀ b E size l, s'.H b = some (.vec E size l) → M.H b = some (.vec E size l) := fun b E size l hl => by
    rw [hH]; exact (hw.heap b _ hl).1
  induction h with
  | c h => exact fun _ => .c h
  | agg hl _ ih => exact fun hlt => .agg hl (fun i x u h1 h2 => ih i x u h1 h2 (ltL_get hlt i x h1))
  | tup hl _ ih => exact fun hlt => .tup hl (fun i x u h1 h2 => ih i x u h1 h2 (ltL_get hlt i x h1))
  | fn hl _ ih => exact fun hlt => .fn hl (fun i x u h1 h2 => ih i x u h1 h2 (ltL_get hlt i x h1))
  | ptr hb =>
    intro hlt
    have hlt := blt_true hlt
    exact .ptr (by simp only [Wd.cut]; rw [if_pos hlt]; exact hb)
  | vec hb ho h =>
    intro hlt
    have hlt := blt_true hlt
    refine .vec hlt ho (fun E size l hl => ?_)
    obtain ⟨h1, h2⟩ := h E size l (hv _ _ _ _ hl)
    exact ⟨h1, fun hh => by simp only [Wd.cut]; rw [if_pos hlt]; exact h2 hh⟩
  | vptr hb ho h =>
    intro hlt
    have hlt := blt_true hlt
    refine .vptr hlt ho (fun E size l hl => ?_)
    obtain ⟨h1, h2⟩ := h E size l (hv _ _ _ _ hl)
    exact ⟨h1, fun hh => by simp only [Wd.cut]; rw [if_pos hlt]; exact h2 hh⟩
  | eptr cs hF hcell hr => exact fun _ => .eptr cs hF hcell hr
  | ghost hb ho h =>
    intro hlt
    have hlt := blt_true hlt
    refine .ghost hlt ho (fun E size l hl => ?_)
    obtain ⟨h1, h2⟩ := h E size l (hv _ _ _ _ hl)
    exact ⟨h1, fun hh => by simp only [Wd.cut]; rw [if_pos hlt]; exact h2 hh⟩
  | ref hb ho =>
    intro hlt
    have hlt := blt_true hlt
    exact .ref (by simp only [Wd.cut]; rw [if_pos hlt]; exact hb) ho
theorem Sim.weak {base : Nat} {w0 : W0} {s s' : St} {M : Wd} {a : Act} (h : Sim base w0 s M a) (hw : Weak s s') : Sim base w0 s' (M.cut s') a := by
  have hget : ∀ b x, s'.H b = some x → M.H b = some x ∧ b < s'.nx ∧ abLt s'.nx x = true := fun b x hx => by
    rw [h.H]; exact hw.heap b x hx
  have hne : ∀ b, s'.H b ≠ none → M.H b ≠ none ∧ b < s'.nx := fun b hb => by
    cases hx : s'.H b with
    | none => exact absurd hx hb
    | some x => exact ⟨by rw [(hget b x hx).1]; simp, (hget b x hx).2.1⟩
  refine ⟨rfl, rfl, by rw [h.n, hw.n], fun i x hx => ?_, fun g xs hg => ?_, ⟨?_, ?_, ?_, ?_, ?_, h.heap.frz, ?_⟩, h.below, h.base, h.defs, h.old⟩
  · obtain ⟨h1, h2⟩ := hw.env i x hx
    obtain ⟨v, h3, h4⟩ := h.env i x h1
    exact ⟨v, h3, h4.cut h.H hw h2⟩
  · rw [hw.gl] at hg
    exact (h.gl g xs hg).cut h.H hw rfl
  · intro b t l hl
    obtain ⟨h1, h2, h3⟩ := hget b _ hl
    obtain ⟨g, arr, e1, e2, e3, e4, e5, e6⟩ := h.heap.cells b t l h1
    exact ⟨g, arr, by simp only [Wd.cut]; rw [if_pos h2]; exact e1, e2, e3, e4, e5, fun i x u hx hu => (e6 i x u hx hu).cut h.H hw (ltL_get h3 i x hx)⟩
  · intro b E size l hl
    obtain ⟨h1, h2, h3⟩ := hget b _ hl
    obtain ⟨v, n, cs, e1, e2⟩ := h.heap.vec b E size l h1
    exact ⟨v, n, cs, by simp only [Wd.cut]; rw [if_pos h2]; exact e1, e2⟩
  · intro b b' g hbb hb hb'
    obtain ⟨h1, h2⟩ := hne b hb
    obtain ⟨h1', h2'⟩ := hne b' hb'
    simp only [Wd.cut]
    rw [if_pos h2, if_pos h2']
    exact h.heap.sep b b' g hbb h1 h1'
  · exact fun b hb => (hne b hb).2
  · intro b hb g
    simp only [Wd.cut] at hb ⊢
    rw [if_neg (by omega)]
    simp
  · intro b p hp
    obtain ⟨h1, h2, _⟩ := hget b _ hp
    obtain ⟨g, e1, e2, e3, e4, e5⟩ := h.heap.obj b p h1
    refine ⟨g, by simp only [Wd.cut]; rw [if_pos h2]; exact e1, e2, e3, e4, fun b' k hbb hk => ⟨fun hb' => ?_, fun p' hp' => (e5 b' k hbb hk).2 p' (hget b' _ hp').1⟩⟩
    obtain ⟨h3, h4⟩ := hne b' hb'
    simp only [Wd.cut]
    rw [if_pos h4]
    exact (e5 b' k hbb hk).1 h3
theorem Ext.cut {M0 M : Wd} {s s' : St} (h : Ext M0 M) (hf : ∀ b, M0.nx ≤ b → ∀ g, M0.m b ≠ .blk g) (hH : M.H = s.H) (hw : Weak s s') (hn : M0.nx ≤ s'.nx) : Ext M0 (M.cut s') where
  m := fun b g hb => by
    have hlt : b < s'.nx := by
      rcases Nat.lt_or_ge b M0.nx with hc | hc
      · omega
      · exact absurd hb (hf b hc g)
    simp only [Wd.cut]; rw [if_pos hlt]; exact h.m b g hb
  v := fun b E size l' hb hl => by
    have h1 : M.H b = some (.vec E size l') := by rw [hH]; exact (hw.heap b _ hl).1
    obtain ⟨l, e1, e2, e3⟩ := h.v b E size l' hb h1
    exact ⟨l, e1, e2, fun hh => by simp only [Wd.cut]; rw [if_pos (by omega)]; exact e3 hh⟩
  nx := hn
  F := h.F
theorem least {J : Nat → Prop} (n : Nat) (h : J n) : ∃ m, J m ∧ ∀ k, J k → m ≤ k := by
  induction n using Nat.strongRecOn with
  | _ n ih =>
    by_cases hc : ∃ k, k < n ∧ J k
    · obtain ⟨k, h1, h2⟩ := hc; exact ih k h1 h2
    · exact ⟨n, h, fun k hk => Nat.le_of_not_lt fun hlt => hc ⟨k, hlt, hk⟩⟩
theorem aw_loop (I : Nat → St → Prop) {c : Code} {Q : Exit → St → Prop} {st : St} (n0 : Nat) (h0 : ∃ s, I n0 s ∧ Weak st s ∧ st.nx ≤ s.nx)
    (round : ∀ n s, I n s → Awp P c (thn (fun st' => ∃ n' s', n' < n ∧ I n' s' ∧ Weak st' s' ∧ s.nx ≤ s'.nx) Q) s) : Awp P (.loop c) Q st := by
  intro base w0 M a hs
  let J : Act → World → Nat → Prop := fun a' w' n => ∃ M' s, I n s ∧ M'.w = w' ∧ Sim base w0 s M' a' ∧ Ext M M'
  have hμ : ∃ μ : Act → World → Nat, ∀ a' w' n, J a' w' n → J a' w' (μ a' w') ∧ μ a' w' ≤ n := by
    refine ⟨fun a' w' => @dite _ (∃ n, J a' w' n) (Classical.propDecidable _) (fun h => Classical.choose (least (J := J a' w') _ (Classical.choose_spec h))) (fun _ => 0), fun a' w' n hn => ?_⟩
    have hex : ∃ n, J a' w' n := ⟨n, hn⟩
    simp only [dif_pos hex]
    have hsp := Classical.choose_spec (least (J := J a' w') _ (Classical.choose_spec hex))
    exact ⟨hsp.1, hsp.2 n hn⟩
  obtain ⟨μ, hμ⟩ := hμ
  refine wp_loop (fun a' w' => ∃ n, J a' w' n) μ ?_ ?_
  · obtain ⟨s, h1, h2, h3⟩ := h0
    exact ⟨n0, M.cut s, s, h1, rfl, hs.weak h2, (Ext.refl M).cut hs.heap.fresh hs.H h2 (by rw [hs.nx]; exact h3)⟩
  · rintro a' w' ⟨n, hn⟩
    obtain ⟨⟨M', s, h1, h2, h3, h4⟩, _⟩ := hμ a' w' n hn
    subst h2
    refine wp_mono (round _ s h1 base w0 M' a' h3) ?_
    intro e a'' w'' ⟨M'', st', g1, g2, g3, g4⟩
    cases e with
    | normal =>
      obtain ⟨n', s', j1, j2, j3, j4⟩ := g4
      have hJ : J a'' w'' n' := ⟨M''.cut s', s', j2, g1, g2.weak j3, h4.trans (g3.cut h3.heap.fresh g2.H j3 (by rw [h3.nx]; exact j4))⟩
      exact ⟨⟨n', hJ⟩, Nat.lt_of_le_of_lt (hμ a'' w'' n' hJ).2 j1⟩
    | _ => exact ⟨M'', st', g1, g2, h4.trans g3, g4⟩
end
end Go.Proofs.YtkhljpbkebnnmaaGreatDoor.Ev
/- Rules of a walk over abstract states: operations on plain values. Nothing here names a program. -/
namespace Go.Proofs.YtkhljpbkebnnmaaGreatDoor.Ev
set_option linter.unusedVariables false
set_option linter.unusedSimpArgs false
open Go.RowKit
def fits (n : Int) : Prop := -9223372036854775808 ≤ n ∧ n ≤ 9223372036854775807
theorem wrap_fits {n : Int} (h : fits n) : IntKind.i64.wrap n = n := IntWalk.i64_in _ h
section
variable {P : Program} {ops : Array Oper} {Q : Exit → St → Prop} {X : List Oper → St → Prop} {rest : List Oper} {st : St} {d : Nat} {ty : TypeId} {pos : String} {af : Array Edge}
theorem ao_move [W : Walk P X] {x : Operand} {y : AV} (hx : st.ev x = some y) (hd : Nat.blt d st.n = true) (h : X rest (st.put d y)) : X (⟨some d, .move x, ty, pos, af, none⟩ :: rest) st :=
  ao_val rfl rfl hd (fun _ _ _ _ hs => ⟨_, rfl, hs.ev (by simp [Op.operands, Call.operands]) hx⟩) h
theorem ao_assign [W : Walk P X] {x : Operand} {y : AV} (hx : st.ev x = some y) (hd : Nat.blt d st.n = true) (h : X rest (st.put d y)) : X (⟨some d, .assign x, ty, pos, af, none⟩ :: rest) st :=
  ao_val rfl rfl hd (fun _ _ _ _ hs => ⟨_, rfl, hs.ev (by simp [Op.operands, Call.operands]) hx⟩) h
theorem ao_pick_t [W : Walk P X] {c x y : Operand} {z : AV} (hc : st.ev c = some (.c (.v (.bool true)))) (hx : st.ev x = some z) (hd : Nat.blt d st.n = true) (h : X rest (st.put d z)) : X (⟨some d, .pick c x y, ty, pos, af, none⟩ :: rest) st :=
  ao_val rfl rfl hd (fun _ _ _ a hs => ⟨a.eval x, by simp only [execOp, (hs.ev (by simp [Op.operands, Call.operands]) hc).bool]; rfl, hs.ev (by simp [Op.operands, Call.operands]) hx⟩) h
theorem ao_pick_f [W : Walk P X] {c x y : Operand} {z : AV} (hc : st.ev c = some (.c (.v (.bool false)))) (hy : st.ev y = some z) (hd : Nat.blt d st.n = true) (h : X rest (st.put d z)) : X (⟨some d, .pick c x y, ty, pos, af, none⟩ :: rest) st :=
  ao_val rfl rfl hd (fun _ _ _ a hs => ⟨a.eval y, by simp only [execOp, (hs.ev (by simp [Op.operands, Call.operands]) hc).bool]; rfl, hs.ev (by simp [Op.operands, Call.operands]) hy⟩) h
theorem ao_not [W : Walk P X] {x : Operand} {t : TypeId} {b : Bool} (hx : st.ev x = some (.c (.v (.bool b)))) (hd : Nat.blt d st.n = true) (h : X rest (st.put d (.c (.v (.bool !b))))) : X (⟨some d, .unOp .not t x, ty, pos, af, none⟩ :: rest) st :=
  ao_val rfl rfl hd (fun _ _ _ a hs => ⟨.bool !b, by simp only [execOp, (hs.ev (by simp [Op.operands, Call.operands]) hx).bool]; rfl, .c (.v _)⟩) h
theorem ao_neg [W : Walk P X] {x : Operand} {t : TypeId} {n : Int} (hx : st.ev x = some (.c (.v (.int .i64 n)))) (hf : fits (-n)) (hd : Nat.blt d st.n = true) (h : X rest (st.put d (.c (.v (.int .i64 (-n)))))) : X (⟨some d, .unOp .neg t x, ty, pos, af, none⟩ :: rest) st :=
  ao_val rfl rfl hd (fun _ _ _ a hs => ⟨.int .i64 (-n), by simp only [execOp, (hs.ev (by simp [Op.operands, Call.operands]) hx).bool]; simp [go_sem, Op.unary, wrap_fits hf], .c (.v _)⟩) h
theorem ao_extract [W : Walk P X] {x : Operand} {i : Nat} {xs : List AV} {y : AV} (hx : st.ev x = some (.tup xs)) (hi : xs[i]? = some y) (hd : Nat.blt d st.n = true) (h : X rest (st.put d y)) : X (⟨some d, .extract x i, ty, pos, af, none⟩ :: rest) st := by
  refine ao_val rfl rfl hd (fun _ _ M a hs => ?_) h
  have hv := hs.ev (by simp [Op.operands, Call.operands]) hx
  generalize he : a.eval x = u at hv
  cases hv with
  | tup hl hh =>
    rename_i vs
    have hlt : i < vs.size := by rw [← hl]; exact (List.getElem?_eq_some_iff.1 hi).1
    refine ⟨vs[i], ?_, hh i y _ hi (by simp [hlt])⟩
    simp only [execOp, he, Instr.extract]
    simp [hlt]
theorem ao_lss [W : Walk P X] {x y : Operand} {t t2 : TypeId} {k : IntKind} {a b : Int} (hx : st.ev x = some (.c (.v (.int k a)))) (hy : st.ev y = some (.c (.v (.int k b)))) (hd : Nat.blt d st.n = true) (h : X rest (st.put d (.c (.v (.bool (decide (a < b))))))) : X (⟨some d, .binOp .lss t x y t2, ty, pos, af, none⟩ :: rest) st := by
  refine ao_val rfl rfl hd (fun _ _ M e hs => ⟨.bool (decide (a < b)), ?_, .c (.v _)⟩) h
  simp only [execOp, (hs.ev (by simp [Op.operands, Call.operands]) hx).bool, (hs.ev (by simp [Op.operands, Call.operands]) hy).bool]
  simp [go_sem]
theorem ao_leq [W : Walk P X] {x y : Operand} {t t2 : TypeId} {k : IntKind} {a b : Int} (hx : st.ev x = some (.c (.v (.int k a)))) (hy : st.ev y = some (.c (.v (.int k b)))) (hd : Nat.blt d st.n = true) (h : X rest (st.put d (.c (.v (.bool (decide (a ≤ b))))))) : X (⟨some d, .binOp .leq t x y t2, ty, pos, af, none⟩ :: rest) st := by
  refine ao_val rfl rfl hd (fun _ _ M e hs => ⟨.bool (decide (a ≤ b)), ?_, .c (.v _)⟩) h
  simp only [execOp, (hs.ev (by simp [Op.operands, Call.operands]) hx).bool, (hs.ev (by simp [Op.operands, Call.operands]) hy).bool]
  simp [go_sem]
theorem ao_gtr [W : Walk P X] {x y : Operand} {t t2 : TypeId} {k : IntKind} {a b : Int} (hx : st.ev x = some (.c (.v (.int k a)))) (hy : st.ev y = some (.c (.v (.int k b)))) (hd : Nat.blt d st.n = true) (h : X rest (st.put d (.c (.v (.bool (decide (a > b))))))) : X (⟨some d, .binOp .gtr t x y t2, ty, pos, af, none⟩ :: rest) st := by
  refine ao_val rfl rfl hd (fun _ _ M e hs => ⟨.bool (decide (a > b)), ?_, .c (.v _)⟩) h
  simp only [execOp, (hs.ev (by simp [Op.operands, Call.operands]) hx).bool, (hs.ev (by simp [Op.operands, Call.operands]) hy).bool]
  simp [go_sem]
theorem ao_geq [W : Walk P X] {x y : Operand} {t t2 : TypeId} {k : IntKind} {a b : Int} (hx : st.ev x = some (.c (.v (.int k a)))) (hy : st.ev y = some (.c (.v (.int k b)))) (hd : Nat.blt d st.n = true) (h : X rest (st.put d (.c (.v (.bool (decide (a ≥ b))))))) : X (⟨some d, .binOp .geq t x y t2, ty, pos, af, none⟩ :: rest) st := by
  refine ao_val rfl rfl hd (fun _ _ M e hs => ⟨.bool (decide (a ≥ b)), ?_, .c (.v _)⟩) h
  simp only [execOp, (hs.ev (by simp [Op.operands, Call.operands]) hx).bool, (hs.ev (by simp [Op.operands, Call.operands]) hy).bool]
  simp [go_sem]
theorem ao_eql [W : Walk P X] {x y : Operand} {t t2 : TypeId} {k : IntKind} {a b : Int} (hx : st.ev x = some (.c (.v (.int k a)))) (hy : st.ev y = some (.c (.v (.int k b)))) (hd : Nat.blt d st.n = true) (h : X rest (st.put d (.c (.v (.bool (decide (a = b))))))) : X (⟨some d, .binOp .eql t x y t2, ty, pos, af, none⟩ :: rest) st := by
  refine ao_val rfl rfl hd (fun _ _ M e hs => ⟨.bool (decide (a = b)), ?_, .c (.v _)⟩) h
  simp only [execOp, (hs.ev (by simp [Op.operands, Call.operands]) hx).bool, (hs.ev (by simp [Op.operands, Call.operands]) hy).bool]
  simp [go_sem]; rfl
theorem ao_neq [W : Walk P X] {x y : Operand} {t t2 : TypeId} {k : IntKind} {a b : Int} (hx : st.ev x = some (.c (.v (.int k a)))) (hy : st.ev y = some (.c (.v (.int k b)))) (hd : Nat.blt d st.n = true) (h : X rest (st.put d (.c (.v (.bool (!decide (a = b))))))) : X (⟨some d, .binOp .neq t x y t2, ty, pos, af, none⟩ :: rest) st := by
  refine ao_val rfl rfl hd (fun _ _ M e hs => ⟨.bool (!decide (a = b)), ?_, .c (.v _)⟩) h
  simp only [execOp, (hs.ev (by simp [Op.operands, Call.operands]) hx).bool, (hs.ev (by simp [Op.operands, Call.operands]) hy).bool]
  simp [go_sem]; rfl
theorem ao_add [W : Walk P X] {x y : Operand} {t t2 : TypeId} {a b : Int} (hx : st.ev x = some (.c (.v (.int .i64 a)))) (hy : st.ev y = some (.c (.v (.int .i64 b)))) (hf : fits (a + b)) (hd : Nat.blt d st.n = true) (h : X rest (st.put d (.c (.v (.int .i64 (a + b)))))) : X (⟨some d, .binOp .add t x y t2, ty, pos, af, none⟩ :: rest) st := by
  refine ao_val rfl rfl hd (fun _ _ M e hs => ⟨.int .i64 (a + b), ?_, .c (.v _)⟩) h
  simp only [execOp, (hs.ev (by simp [Op.operands, Call.operands]) hx).bool, (hs.ev (by simp [Op.operands, Call.operands]) hy).bool]
  show Result.ok (Next.value (Value.int .i64 (IntKind.i64.wrap (a + b)))) _ = _
  rw [wrap_fits hf]
theorem ao_sub [W : Walk P X] {x y : Operand} {t t2 : TypeId} {a b : Int} (hx : st.ev x = some (.c (.v (.int .i64 a)))) (hy : st.ev y = some (.c (.v (.int .i64 b)))) (hf : fits (a - b)) (hd : Nat.blt d st.n = true) (h : X rest (st.put d (.c (.v (.int .i64 (a - b)))))) : X (⟨some d, .binOp .sub t x y t2, ty, pos, af, none⟩ :: rest) st := by
  refine ao_val rfl rfl hd (fun _ _ M e hs => ⟨.int .i64 (a - b), ?_, .c (.v _)⟩) h
  simp only [execOp, (hs.ev (by simp [Op.operands, Call.operands]) hx).bool, (hs.ev (by simp [Op.operands, Call.operands]) hy).bool]
  show Result.ok (Next.value (Value.int .i64 (IntKind.i64.wrap (a - b)))) _ = _
  rw [wrap_fits hf]
theorem ao_sub_w [W : Walk P X] {x y : Operand} {t t2 : TypeId} {k : IntKind} {a b : Int} (hx : st.ev x = some (.c (.v (.int k a)))) (hy : st.ev y = some (.c (.v (.int k b)))) (hd : Nat.blt d st.n = true) (h : X rest (st.put d (.c (.v (.int k (k.wrap (a - b))))))) : X (⟨some d, .binOp .sub t x y t2, ty, pos, af, none⟩ :: rest) st := by
  refine ao_val rfl rfl hd (fun _ _ M e hs => ⟨.int k (k.wrap (a - b)), ?_, .c (.v _)⟩) h
  simp only [execOp, (hs.ev (by simp [Op.operands, Call.operands]) hx).bool, (hs.ev (by simp [Op.operands, Call.operands]) hy).bool]
  simp [go_sem]
theorem ao_mul [W : Walk P X] {x y : Operand} {t t2 : TypeId} {a b : Int} (hx : st.ev x = some (.c (.v (.int .i64 a)))) (hy : st.ev y = some (.c (.v (.int .i64 b)))) (hf : fits (a * b)) (hd : Nat.blt d st.n = true) (h : X rest (st.put d (.c (.v (.int .i64 (a * b)))))) : X (⟨some d, .binOp .mul t x y t2, ty, pos, af, none⟩ :: rest) st := by
  refine ao_val rfl rfl hd (fun _ _ M e hs => ⟨.int .i64 (a * b), ?_, .c (.v _)⟩) h
  simp only [execOp, (hs.ev (by simp [Op.operands, Call.operands]) hx).bool, (hs.ev (by simp [Op.operands, Call.operands]) hy).bool]
  show Result.ok (Next.value (Value.int .i64 (IntKind.i64.wrap (a * b)))) _ = _
  rw [wrap_fits hf]
theorem ao_mul_w [W : Walk P X] {x y : Operand} {t t2 : TypeId} {k : IntKind} {a b : Int} (hx : st.ev x = some (.c (.v (.int k a)))) (hy : st.ev y = some (.c (.v (.int k b)))) (hd : Nat.blt d st.n = true) (h : X rest (st.put d (.c (.v (.int k (k.wrap (a * b))))))) : X (⟨some d, .binOp .mul t x y t2, ty, pos, af, none⟩ :: rest) st := by
  refine ao_val rfl rfl hd (fun _ _ M e hs => ⟨.int k (k.wrap (a * b)), ?_, .c (.v _)⟩) h
  simp only [execOp, (hs.ev (by simp [Op.operands, Call.operands]) hx).bool, (hs.ev (by simp [Op.operands, Call.operands]) hy).bool]
  simp [go_sem]
theorem ao_quo [W : Walk P X] {x y : Operand} {t t2 : TypeId} {a b : Int} (hx : st.ev x = some (.c (.v (.int .i64 a)))) (hy : st.ev y = some (.c (.v (.int .i64 b)))) (h0 : b ≠ 0) (hf : fits (a.tdiv b)) (hd : Nat.blt d st.n = true) (h : X rest (st.put d (.c (.v (.int .i64 (a.tdiv b)))))) : X (⟨some d, .binOp .quo t x y t2, ty, pos, af, none⟩ :: rest) st := by
  refine ao_val rfl rfl hd (fun _ _ M e hs => ⟨.int .i64 (a.tdiv b), ?_, .c (.v _)⟩) h
  simp only [execOp, (hs.ev (by simp [Op.operands, Call.operands]) hx).bool, (hs.ev (by simp [Op.operands, Call.operands]) hy).bool]
  simp only [go_sem]
  simp [binOp, Op.intDiv, h0, wrap_fits hf]
theorem ao_rem [W : Walk P X] {x y : Operand} {t t2 : TypeId} {a b : Int} (hx : st.ev x = some (.c (.v (.int .i64 a)))) (hy : st.ev y = some (.c (.v (.int .i64 b)))) (h0 : b ≠ 0) (hd : Nat.blt d st.n = true) (h : X rest (st.put d (.c (.v (.int .i64 (a.tmod b)))))) : X (⟨some d, .binOp .rem t x y t2, ty, pos, af, none⟩ :: rest) st := by
  refine ao_val rfl rfl hd (fun _ _ M e hs => ⟨.int .i64 (a.tmod b), ?_, .c (.v _)⟩) h
  simp only [execOp, (hs.ev (by simp [Op.operands, Call.operands]) hx).bool, (hs.ev (by simp [Op.operands, Call.operands]) hy).bool]
  simp only [go_sem]
  simp [binOp, Op.intDiv, h0]
theorem ao_max [W : Walk P X] {x y : Operand} {ts : Array TypeId} {k : IntKind} {a b : Int} (hx : st.ev x = some (.c (.v (.int k a)))) (hy : st.ev y = some (.c (.v (.int k b)))) (hd : Nat.blt d st.n = true) (h : X rest (st.put d (.c (.v (.int k (max a b)))))) : X (⟨some d, .call ⟨.builtin .max, #[x, y], ts⟩, ty, pos, af, none⟩ :: rest) st := by
  refine ao_val rfl rfl hd (fun _ _ M e hs => ⟨.int k (max a b), ?_, .c (.v _)⟩) h
  simp only [execOp, resolve, List.map_toArray, List.map_cons, List.map_nil, (hs.ev (by simp [Op.operands, Call.operands]) hx).bool, (hs.ev (by simp [Op.operands, Call.operands]) hy).bool]
  have : (if b > a then b else a) = max a b := by split <;> omega
  simp [invoke, builtin, go_sem, this]
theorem ao_min [W : Walk P X] {x y : Operand} {ts : Array TypeId} {k : IntKind} {a b : Int} (hx : st.ev x = some (.c (.v (.int k a)))) (hy : st.ev y = some (.c (.v (.int k b)))) (hd : Nat.blt d st.n = true) (h : X rest (st.put d (.c (.v (.int k (min a b)))))) : X (⟨some d, .call ⟨.builtin .min, #[x, y], ts⟩, ty, pos, af, none⟩ :: rest) st := by
  refine ao_val rfl rfl hd (fun _ _ M e hs => ⟨.int k (min a b), ?_, .c (.v _)⟩) h
  simp only [execOp, resolve, List.map_toArray, List.map_cons, List.map_nil, (hs.ev (by simp [Op.operands, Call.operands]) hx).bool, (hs.ev (by simp [Op.operands, Call.operands]) hy).bool]
  have : (if b < a then b else a) = min a b := by split <;> omega
  simp [invoke, builtin, go_sem, this]
theorem ao_max3 [W : Walk P X] {x y z : Operand} {ts : Array TypeId} {k : IntKind} {a b c : Int} (hx : st.ev x = some (.c (.v (.int k a)))) (hy : st.ev y = some (.c (.v (.int k b)))) (hz : st.ev z = some (.c (.v (.int k c)))) (hd : Nat.blt d st.n = true) (h : X rest (st.put d (.c (.v (.int k (max (max a b) c)))))) : X (⟨some d, .call ⟨.builtin .max, #[x, y, z], ts⟩, ty, pos, af, none⟩ :: rest) st := by
  refine ao_val rfl rfl hd (fun _ _ M e hs => ⟨.int k (max (max a b) c), ?_, .c (.v _)⟩) h
  simp only [execOp, resolve, List.map_toArray, List.map_cons, List.map_nil, (hs.ev (by simp [Op.operands, Call.operands]) hx).bool, (hs.ev (by simp [Op.operands, Call.operands]) hy).bool, (hs.ev (by simp [Op.operands, Call.operands]) hz).bool]
  have e1 : (if b > a then b else a) = max a b := by split <;> omega
  have e2 : (if c > max a b then c else max a b) = max (max a b) c := by split <;> omega
  simp [invoke, builtin, go_sem]
  rw [show (if a < b then b else a) = max a b from e1]
  rw [show (if max a b < c then c else max a b) = max (max a b) c from e2]; omega
theorem ao_guard {dst : Option Tmp} {op : Op} {j t : Nat} {want b : Bool} (hj : (ops[j]?).bind (·.dst) = some t) (hb : look t st.env = some (.c (.v (.bool b)))) (hdst : dst = some d) (hd : Nat.blt d st.n = true)
    (h : b = want → AOps P ops Q (⟨dst, op, ty, pos, af, none⟩ :: rest) (st.put t (.c (.v (.bool want))))) (h' : b = !want → AOps P ops Q rest ((st.put t (.c (.v (.bool !want)))).put d (.c (.v undef)))) : AOps P ops Q (⟨dst, op, ty, pos, af, some (j, want)⟩ :: rest) st := by
  intro base w0 M a hs
  obtain ⟨v, h2, h3⟩ := hs.env t _ hb
  have h4 := h3.bool
  subst h4
  have key : ∀ b', b = b' → Sim base w0 (st.put t (.c (.v (.bool b')))) M a := fun b' hbb => by
    subst hbb
    refine ⟨hs.H, hs.nx, hs.n, fun i y hy => ?_, hs.gl, hs.heap, hs.below, hs.base, hs.defs, hs.old⟩
    simp only [St.put, look_cons] at hy
    split at hy
    · rename_i hi; subst hi; simp only [Option.some.injEq] at hy; subst hy; exact ⟨_, h2, .c (.v _)⟩
    · exact hs.env i y hy
  have hy : yielded ops a.tmps j = some b := by unfold yielded; rw [hj]; simp [h2]
  by_cases hw : b = want
  · have h1 := h hw base w0 M a (key _ hw)
    subst hw
    unfold wpList at h1 ⊢
    rw [if_pos (by simp [Region.wanted])] at h1
    rw [if_pos (by simp [Region.wanted, hy])]
    exact h1
  · have hw' : b = !want := by cases b <;> cases want <;> simp_all
    have h1 := h' hw' base w0 M _ ((key _ hw').put hd (.c (.v undef)))
    unfold wpList
    rw [if_neg (by simp [Region.wanted, hy]; exact hw)]
    show wpList _ _ _ _ (a.put dst undef) _
    rw [hdst]
    exact h1
theorem ao_guard_none {dst : Option Tmp} {op : Op} {j t : Nat} {want : Bool} (hj : (ops[j]?).bind (·.dst) = some t) (hb : look t st.env = some (.c (.v undef))) (hdst : dst = some d) (hd : Nat.blt d st.n = true) (h : AOps P ops Q rest (st.put d (.c (.v undef)))) : AOps P ops Q (⟨dst, op, ty, pos, af, some (j, want)⟩ :: rest) st := by
  intro base w0 M a hs
  have h1 := h base w0 M _ (hs.put hd (.c (.v undef)))
  obtain ⟨v, h2, h3⟩ := hs.env t _ hb
  have h4 := h3.bool
  subst h4
  have hy : yielded ops a.tmps j = none := by unfold yielded; rw [hj]; simp [h2, undef]
  unfold wpList
  rw [if_neg (by simp [Region.wanted, hy])]
  show wpList _ _ _ _ (a.put dst undef) _
  rw [hdst]
  exact h1
end
end Go.Proofs.YtkhljpbkebnnmaaGreatDoor.Ev
/- Rules of a walk over abstract states: addresses, loads, lengths, boxes, stores. Nothing here names a program. -/
namespace Go.Proofs.YtkhljpbkebnnmaaGreatDoor.Ev
set_option linter.unusedVariables false
set_option linter.unusedSimpArgs false
open Go.RowKit
def fieldOffB (P : Program) (s i : Nat) : Option Nat :=
  match P.underlying s with
  | some (.struct fs) => match fs[i]? with
    | some f => match P.info? f.type with
      | some inf => if inf.size = 0 then none else some f.offset
      | none => none
    | none => none
  | _ => none
class FieldAt (P : Program) (s i : Nat) (off : outParam Nat) : Prop where
  h : fieldOffB P s i = some off
def tyB (P : Program) (t : Nat) : Option (Bool × Nat) :=
  match P.underlying t, P.info? t with
  | some d, some i => some (d.isRow, i.size)
  | _, _ => none
class TyC (P : Program) (t : Nat) (ag : outParam Bool) (n : outParam Nat) : Prop where
  h : tyB P t = some (ag, n)
def slB (P : Program) (t : Nat) : Option (Nat × Nat × Nat × Nat) :=
  match P.underlying t with
  | some (.slice E) => match P.info? E with
    | some i => match i.zero with
      | some z => some (E, i.size, i.bytes, z.cells.size)
      | none => none
    | none => none
  | _ => none
class SlT (P : Program) (t : Nat) (E size bytes : outParam Nat) : Prop where
  h : slB P t = some (E, size, bytes, size)
  pos : 0 < size
def CV.cellB : CV → Bool
  | .v x => x.oneCell'
  | .lst _ _ => true
  | _ => false
class EncL {α : Type} (enc : α → List CV) (size : outParam Nat) : Prop where
  len : ∀ x, (enc x).length = size
  pos : 0 < size
  one : ∀ x, (enc x).all CV.cellB = true
section
variable {P : Program}
theorem FieldAt.out {s i off : Nat} (I : FieldAt P s i off) : ∃ fs f inf, P.underlying s = some (.struct fs) ∧ fs[i]? = some f ∧ P.info? f.type = some inf ∧ inf.size ≠ 0 ∧ f.offset = off := by
  have h := I.h
  unfold fieldOffB at h
  split at h
  · rename_i fs hu
    split at h
    · rename_i f hf
      split at h
      · rename_i inf hi
        split at h
        · cases h
        · rename_i hz; exact ⟨fs, f, inf, hu, hf, hi, hz, by simpa using h⟩
      · cases h
    · cases h
  · cases h
theorem TyC.out {t : Nat} {ag : Bool} {n : Nat} (I : TyC P t ag n) : ∃ d i, P.underlying t = some d ∧ d.isRow = ag ∧ P.info? t = some i ∧ i.size = n := by
  have h := I.h
  unfold tyB at h
  split at h
  · rename_i d i hu hi
    simp only [Option.some.injEq, Prod.mk.injEq] at h
    exact ⟨d, i, hu, h.1, hi, h.2⟩
  · cases h
theorem SlT.out {t E size bytes : Nat} (I : SlT P t E size bytes) : ∃ i z, P.underlying t = some (.slice E) ∧ P.info? E = some i ∧ i.zero = some z ∧ i.size = size ∧ i.bytes = bytes ∧ z.cells.size = size := by
  have h := I.h
  unfold slB at h
  split at h
  · rename_i e hu
    split at h
    · rename_i i hi
      split at h
      · rename_i z hz
        simp only [Option.some.injEq, Prod.mk.injEq] at h
        obtain ⟨rfl, h2, h3, h4⟩ := h
        exact ⟨i, z, hu, hi, hz, h2, h3, h4⟩
      · cases h
    · cases h
  · cases h
theorem run_fieldAt {s i off : Nat} (I : FieldAt P s i off) (w : World) (g o : Nat) : (Instr.fieldAt s (.pointer (some ⟨g, o, none⟩)) i).run P w = .ok (.pointer (some ⟨g, o + off, none⟩)) w := by
  obtain ⟨fs, f, inf, h1, h2, h3, h4, h5⟩ := I.out
  have : (Addr.add ⟨g, o, none⟩ off) = ⟨g, o + off, none⟩ := Kit.addr_add g o off
  simp [Instr.fieldAt, run_underlying h1, h2, Instr.sureAddr, fieldPlace, sizeOf, typeInfo, h3, h4, h5, this]
theorem run_load_s {t : Nat} {n : Nat} (I : TyC P t false n) (w : World) (p : Addr) (v : Value) (h : w.cell? p = some v) : (Instr.loadAt t (.pointer (some p))).run P w = .ok v w := by
  obtain ⟨d, i, h1, h2, h3, h4⟩ := I.out
  have hagg : (isAgg t).run P w = .ok false w := by
    unfold isAgg
    rw [Sem.run_bind, run_underlying h1 w]
    cases d <;> simp_all
  simp [Instr.loadAt, Instr.sureAddr, loadVar, hagg, h]
theorem run_load_a {t : Nat} {n : Nat} (I : TyC P t true n) (w : World) (g o : Nat) (cs : List Value) (hn : cs.length = n) (h : ∀ (j : Nat) (v : Value), cs[j]? = some v → w.cell? ⟨g, o + j, none⟩ = some v) : (Instr.loadAt t (.pointer (some ⟨g, o, none⟩))).run P w = .ok (.agg cs.toArray) w := by
  obtain ⟨d, i, h1, h2, h3, h4⟩ := I.out
  exact run_loadAt_mid w g o t cs d h h1 h2 (by rw [h3]; simp [h4, hn])
theorem ex_load_s {t : Nat} {n : Nat} (I : TyC P t false n) {w : World} {p : Addr} {v : Value} {ρ : Operand → Value} {x : Operand} {dst : Option Tmp} {ty : TypeId} {pos : String} {af : Array Edge} (hx : ρ x = .pointer (some p)) (h : w.cell? p = some v) : (execOp ρ ⟨dst, .load t x, ty, pos, af, none⟩).run P w = .ok (.value v) w := by
  simp only [execOp, hx]
  rw [Sem.run_bind, run_load_s I w p v h]; rfl
theorem ex_load_a {t : Nat} {n : Nat} (I : TyC P t true n) {w : World} {g o : Nat} {cs : List Value} {ρ : Operand → Value} {x : Operand} {dst : Option Tmp} {ty : TypeId} {pos : String} {af : Array Edge} (hx : ρ x = .pointer (some ⟨g, o, none⟩)) (hn : cs.length = n) (h : ∀ (j : Nat) (v : Value), cs[j]? = some v → w.cell? ⟨g, o + j, none⟩ = some v) : (execOp ρ ⟨dst, .load t x, ty, pos, af, none⟩).run P w = .ok (.value (.agg cs.toArray)) w := by
  simp only [execOp, hx]
  rw [Sem.run_bind, run_load_a I w g o cs hn h]; rfl
end
section
variable {P : Program} {ops : Array Oper} {Q : Exit → St → Prop} {X : List Oper → St → Prop} {rest : List Oper} {st : St} {d : Nat} {ty : TypeId} {pos : String} {af : Array Edge}
theorem ao_field_p [W : Walk P X] {x : Operand} {s i k b off : Nat} [I : FieldAt P s i k] (hx : st.ev x = some (.ptr b off)) (hd : Nat.blt d st.n = true) (h : X rest (st.put d (.ptr b (off + k)))) : X (⟨some d, .fieldAddr s x i, ty, pos, af, none⟩ :: rest) st := by
  refine ao_val rfl rfl hd (fun _ _ M a hs => ?_) h
  have hv := hs.ev (by simp [Op.operands, Call.operands]) hx
  generalize he : a.eval x = u at hv
  cases hv with
  | ptr hm =>
    refine ⟨_, ?_, .ptr hm⟩
    simp only [execOp, he]
    simp [run_fieldAt I]
theorem ao_field_e [W : Walk P X] {x : Operand} {s i k off : Nat} {xs : List CV} [I : FieldAt P s i k] (hx : st.ev x = some (.eptr xs off)) (hd : Nat.blt d st.n = true) (h : X rest (st.put d (.eptr xs (off + k)))) : X (⟨some d, .fieldAddr s x i, ty, pos, af, none⟩ :: rest) st := by
  refine ao_val rfl rfl hd (fun _ _ M a hs => ?_) h
  have hv := hs.ev (by simp [Op.operands, Call.operands]) hx
  generalize he : a.eval x = u at hv
  cases hv with
  | eptr cs hF hc hr =>
    rename_i blk o
    refine ⟨.pointer (some ⟨blk, o + (off + k), none⟩), ?_, .eptr cs hF hc hr⟩
    simp only [execOp, he]
    simp [run_fieldAt I, Nat.add_assoc]
theorem ao_field_v [W : Walk P X] {x : Operand} {s i k b n off : Nat} [I : FieldAt P s i k] {E size : Nat} {l : List CV} (hx : st.ev x = some (.vptr b n off)) (hH : st.H b = some (.vec E size l)) (hn : l.length = n * size) (hd : Nat.blt d st.n = true) (h : X rest (st.put d (.vptr b n (off + k)))) : X (⟨some d, .fieldAddr s x i, ty, pos, af, none⟩ :: rest) st := by
  refine ao_val rfl rfl hd (fun _ _ M a hs => ?_) h
  have hv := hs.ev (by simp [Op.operands, Call.operands]) hx
  generalize he : a.eval x = u at hv
  cases hv with
  | vptr hb ho hh =>
    obtain ⟨h1, h2⟩ := hh E size l (hs.H _ _ hH)
    obtain ⟨g, cap, h3, rfl⟩ := h2 hn
    refine ⟨.pointer (some ⟨g, off + k, none⟩), ?_, .vptr hb rfl (fun E' size' l' hl => ?_)⟩
    · simp only [execOp, he]
      simp [run_fieldAt I]
    · rw [hs.H _ _ hH] at hl
      simp only [Option.some.injEq, AB.vec.injEq] at hl
      obtain ⟨rfl, rfl, rfl⟩ := hl
      exact ⟨h1, fun _ => ⟨g, cap, h3, rfl⟩⟩
theorem ao_load_p [W : Walk P X] {x : Operand} {t b off n : Nat} {t' : TypeId} {l : List AV} {y : AV} [I : TyC P t false n] (hx : st.ev x = some (.ptr b off)) (hH : st.H b = some (.cells t' l)) (hy : l[off]? = some y) (hd : Nat.blt d st.n = true) (h : X rest (st.put d y)) : X (⟨some d, .load t x, ty, pos, af, none⟩ :: rest) st := by
  refine ao_val rfl rfl hd (fun _ _ M a hs => ?_) h
  have hv := hs.ev (by simp [Op.operands, Call.operands]) hx
  generalize he : a.eval x = u at hv
  cases hv with
  | ptr hm =>
    rename_i g
    obtain ⟨g', arr, e1, _, _, e4, e5, e6⟩ := hs.sim.heap.cells b t' l (hs.H _ _ hH)
    rw [hm] at e1; cases e1
    have hlt : off < arr.size := by rw [← e5]; exact (List.getElem?_eq_some_iff.1 hy).1
    exact ⟨arr[off], ex_load_s I he (by simp [World.cell?, e4, hlt]), e6 off y _ hy (by simp [hlt])⟩
theorem ao_load_pa [W : Walk P X] {x : Operand} {t b off n : Nat} {t' : TypeId} {l : List AV} [I : TyC P t true n] (ys : List AV) (hx : st.ev x = some (.ptr b off)) (hH : st.H b = some (.cells t' l)) (hy : (l.drop off).take n = ys) (hn : ys.length = n) (hd : Nat.blt d st.n = true) (h : X rest (st.put d (.agg ys))) : X (⟨some d, .load t x, ty, pos, af, none⟩ :: rest) st := by
  refine ao_val rfl rfl hd (fun _ _ M a hs => ?_) h
  have hv := hs.ev (by simp [Op.operands, Call.operands]) hx
  generalize he : a.eval x = u at hv
  cases hv with
  | ptr hm =>
    rename_i g
    obtain ⟨g', arr, e1, _, _, e4, e5, e6⟩ := hs.sim.heap.cells b t' l (hs.H _ _ hH)
    rw [hm] at e1; cases e1
    have hln : ((arr.toList.drop off).take n).length = n := by
      have : ((l.drop off).take n).length = n := by rw [hy]; exact hn
      simp only [List.length_take, List.length_drop, Array.length_toList] at this ⊢
      rw [← e5]; exact this
    refine ⟨.agg ((arr.toList.drop off).take n).toArray, ?_, .agg (by rw [hn]; simpa using hln.symm) ?_⟩
    · refine ex_load_a I he hln (fun j v hv => ?_)
      have hj : j < n := by have := (List.getElem?_eq_some_iff.1 hv).1; omega
      rw [List.getElem?_take_of_lt hj, List.getElem?_drop, Array.getElem?_toList] at hv
      simp [World.cell?, e4, hv]
    · intro i y u hy' hu
      subst hy
      have hi : i < n := by have := (List.getElem?_eq_some_iff.1 hy').1; omega
      rw [List.getElem?_take_of_lt hi, List.getElem?_drop] at hy'
      rw [List.getElem?_toArray, List.getElem?_take_of_lt hi, List.getElem?_drop, Array.getElem?_toList] at hu
      exact e6 _ y u hy' hu
theorem ao_load_e [W : Walk P X] {x : Operand} {t off n : Nat} {xs : List CV} {y : CV} {ys : List CV} [I : TyC P t false n] (hx : st.ev x = some (.eptr xs off)) (hy : xs.drop off = y :: ys) (hd : Nat.blt d st.n = true) (h : X rest (st.put d (.c y))) : X (⟨some d, .load t x, ty, pos, af, none⟩ :: rest) st := by
  refine ao_val rfl rfl hd (fun _ _ M a hs => ?_) h
  have hv := hs.ev (by simp [Op.operands, Call.operands]) hx
  generalize he : a.eval x = u at hv
  have hg : xs[off]? = some y := by
    have : (xs.drop off)[0]? = some y := by rw [hy]; rfl
    rwa [List.getElem?_drop] at this
  cases hv with
  | eptr cs hF hc hr =>
    exact ⟨cs off, ex_load_s I he (hc off y hg), .c (hr off y hg)⟩
theorem ao_load_ea [W : Walk P X] {x : Operand} {t off n : Nat} {xs : List CV} (zs : List CV) {ys : List CV} [I : TyC P t true n] (hx : st.ev x = some (.eptr xs off)) (hy : xs.drop off = zs ++ ys) (hn : zs.length = n) (hd : Nat.blt d st.n = true) (h : X rest (st.put d (.agg (zs.map .c)))) : X (⟨some d, .load t x, ty, pos, af, none⟩ :: rest) st := by
  refine ao_val rfl rfl hd (fun _ _ M a hs => ?_) h
  have hv := hs.ev (by simp [Op.operands, Call.operands]) hx
  generalize he : a.eval x = u at hv
  have hg : ∀ i z, zs[i]? = some z → xs[off + i]? = some z := fun i z hz => by
    have hi := (List.getElem?_eq_some_iff.1 hz).1
    rw [← List.getElem?_drop, hy, List.getElem?_append_left hi]; exact hz
  cases hv with
  | eptr cs hF hc hr =>
    rename_i blk o
    have hln : ((List.range n).map fun i => cs (off + i)).length = n := by simp
    refine ⟨.agg ((List.range n).map fun i => cs (off + i)).toArray, ?_, .agg (by simp [hn]) ?_⟩
    · refine ex_load_a I he hln (fun j v hv => ?_)
      have hj : j < n := by have := (List.getElem?_eq_some_iff.1 hv).1; omega
      have e : cs (off + j) = v := by simpa [hj] using hv
      rw [← e, Nat.add_assoc]
      exact hc (off + j) (zs[j]'(by omega)) (hg j _ (by simp [show j < zs.length by omega]))
    · intro i y u hy' hu
      obtain ⟨z, h1, rfl⟩ : ∃ z, zs[i]? = some z ∧ AV.c z = y := by simpa using hy'
      have hi := (List.getElem?_eq_some_iff.1 h1).1
      have e : cs (off + i) = u := by
        have : i < n := by omega
        simpa [this] using hu
      rw [← e]
      exact .c (hr _ z (hg i z h1))
theorem ao_load_v [W : Walk P X] {x : Operand} {t b n off m E size : Nat} {l : List CV} {y : CV} {ys : List CV} [I : TyC P t false m] (hx : st.ev x = some (.vptr b n off)) (hH : st.H b = some (.vec E size l)) (hn : l.length = n * size) (hy : l.drop off = y :: ys) (hd : Nat.blt d st.n = true) (h : X rest (st.put d (.c y))) : X (⟨some d, .load t x, ty, pos, af, none⟩ :: rest) st := by
  refine ao_val rfl rfl hd (fun _ _ M a hs => ?_) h
  have hv := hs.ev (by simp [Op.operands, Call.operands]) hx
  generalize he : a.eval x = u at hv
  have hg : l[off]? = some y := by
    have : (l.drop off)[0]? = some y := by rw [hy]; rfl
    rwa [List.getElem?_drop] at this
  cases hv with
  | vptr hb ho hh =>
    obtain ⟨h1, h2⟩ := hh E size l (hs.H _ _ hH)
    obtain ⟨g, cap, h3, rfl⟩ := h2 hn
    obtain ⟨v, n', cs, e1, e2, e3, e4, e5, e6⟩ := hs.sim.heap.vec b E size l (hs.H _ _ hH)
    rw [h3] at e1; cases e1
    have hlt : off < cs.length := by rw [e4.1, ← e2]; exact (List.getElem?_eq_some_iff.1 hg).1
    refine ⟨cs[off], ?_, .c (e5 off y _ hg (by simp [hlt]))⟩
    have hc : M.w.cell? ⟨g, off, none⟩ = some cs[off] := by
      have := World.ownsRow.cells e4 (g := g) rfl off cs[off] (by simp [hlt])
      rwa [Kit.addr_add, Nat.zero_add] at this
    exact ex_load_s I he hc
theorem ao_load_va [W : Walk P X] {x : Operand} {t b n off m E size : Nat} {l : List CV} (zs : List CV) {ys : List CV} [I : TyC P t true m] (hx : st.ev x = some (.vptr b n off)) (hH : st.H b = some (.vec E size l)) (hn : l.length = n * size) (hy : l.drop off = zs ++ ys) (hm : zs.length = m) (hd : Nat.blt d st.n = true) (h : X rest (st.put d (.agg (zs.map .c)))) : X (⟨some d, .load t x, ty, pos, af, none⟩ :: rest) st := by
  refine ao_val rfl rfl hd (fun _ _ M a hs => ?_) h
  have hv := hs.ev (by simp [Op.operands, Call.operands]) hx
  generalize he : a.eval x = u at hv
  have hg : ∀ i z, zs[i]? = some z → l[off + i]? = some z := fun i z hz => by
    have hi := (List.getElem?_eq_some_iff.1 hz).1
    rw [← List.getElem?_drop, hy, List.getElem?_append_left hi]; exact hz
  cases hv with
  | vptr hb ho hh =>
    obtain ⟨h1, h2⟩ := hh E size l (hs.H _ _ hH)
    obtain ⟨g, cap, h3, rfl⟩ := h2 hn
    obtain ⟨v, n', cs, e1, e2, e3, e4, e5, e6⟩ := hs.sim.heap.vec b E size l (hs.H _ _ hH)
    rw [h3] at e1; cases e1
    have hlen : cs.length = l.length := by rw [e4.1, ← e2]
    have hln : ((cs.drop off).take m).length = m := by
      have := congrArg List.length hy
      simp only [List.length_drop, List.length_append] at this
      simp only [List.length_take, List.length_drop]; omega
    refine ⟨.agg ((cs.drop off).take m).toArray, ?_, .agg (by simpa [hm] using hln.symm) ?_⟩
    · refine ex_load_a I he hln (fun j v hv => ?_)
      have hj : j < m := by have := (List.getElem?_eq_some_iff.1 hv).1; omega
      rw [List.getElem?_take_of_lt hj, List.getElem?_drop] at hv
      have := World.ownsRow.cells e4 (g := g) rfl (off + j) v hv
      rwa [Kit.addr_add, Nat.zero_add] at this
    · intro i y u hy' hu
      obtain ⟨z, h1', rfl⟩ : ∃ z, zs[i]? = some z ∧ AV.c z = y := by simpa using hy'
      have hi : i < m := by have := (List.getElem?_eq_some_iff.1 h1').1; omega
      rw [List.getElem?_toArray, List.getElem?_take_of_lt hi, List.getElem?_drop] at hu
      exact .c (e5 _ z u (hg i z h1') hu)
end
end Go.Proofs.YtkhljpbkebnnmaaGreatDoor.Ev
/- Rules of a walk over abstract states: new memory and stores. Nothing here names a program. -/
namespace Go.Proofs.YtkhljpbkebnnmaaGreatDoor.Ev
set_option linter.unusedVariables false
set_option linter.unusedSimpArgs false
open Go.RowKit
theorem H_new (st : St) (x : AB) (b : Nat) : (st.new x).H b = if st.nx = b then some x else st.H b := by
  unfold St.H St.new
  simp only [look_cons]
  by_cases h : st.nx = b
  · simp [h]
  · simp [h]
theorem H_set (st : St) (b' : Nat) (x : AB) (b : Nat) : (st.set b' x).H b = if b' = b then some x else st.H b := by
  unfold St.H St.set
  simp only [look_cons]
  by_cases h : b' = b
  · simp [h]
  · simp [h]
def Wd.new (M : Wd) (st : St) (x : AB) (c : Conc) (o : Obj) : Wd :=
  { m := fun b => if b = M.nx then c else M.m b, H := (st.new x).H, nx := M.nx + 1, F := M.F, w := M.w.alloc o, fp := M.fp }
theorem alloc_heap (w : World) (o : Obj) (b : Nat) (h : b < w.heap.size) : (w.alloc o).heap[b]? = w.heap[b]? := Below.heap_alloc w o b h
theorem alloc_size (w : World) (o : Obj) : (w.alloc o).heap.size = w.heap.size + 1 := by show (w.heap.push o).size = _; simp
theorem alloc_new (w : World) (o : Obj) : (w.alloc o).heap[w.heap.size]? = some o := by show (w.heap.push o)[w.heap.size]? = _; simp
section
variable {base : Nat} {w0 : W0} {st : St} {M : Wd} {a : Act}
theorem Sim.extNew (hs : Sim base w0 st M a) (x : AB) (c : Conc) (o : Obj) : Ext M (M.new st x c o) where
  m := fun b g hb => by
    have : b ≠ M.nx := fun he => hs.heap.fresh b (by omega) g hb
    simp only [Wd.new]; rw [if_neg this]; exact hb
  v := fun b E size l' hb hl => by
    simp only [Wd.new] at hl ⊢
    rw [H_new, if_neg (by rw [← hs.nx]; omega), ← hs.H] at hl
    exact ⟨l', hl, Nat.le_refl _, fun _ => if_neg (by omega)⟩
  nx := by simp [Wd.new]
  F := fun b hb => ⟨hb, alloc_heap _ _ _ (hs.heap.frz b hb)⟩
theorem conc_lt {M : Wd} {base : Nat} (h : HeapOK M base) {b g : Nat} (hb : M.H b ≠ none) (hg : (M.m b).block = some g) : g < M.w.heap.size := by
  cases hx : M.H b with
  | none => exact absurd hx hb
  | some x =>
    cases x with
    | cells t l =>
      obtain ⟨g', arr, e1, _, _, e4, _⟩ := h.cells b t l hx
      rw [e1] at hg
      simp only [Conc.block, Option.some.injEq] at hg; subst hg
      exact (Array.getElem?_eq_some_iff.1 e4).1
    | vec E size l =>
      obtain ⟨v, n, cs, e1, _, _, e4, _⟩ := h.vec b E size l hx
      rw [e1] at hg
      exact (World.ownsRow.lt e4 g hg).2
    | obj p =>
      obtain ⟨g', e1, e2, _, e4, _⟩ := h.obj b p hx
      rw [e1] at hg
      simp only [Conc.block, Option.some.injEq] at hg; subst hg
      exact (e4 _ e2).2.1
theorem Sim.newB (hs : Sim base w0 st M a) {x : AB} {c : Conc} {arr : Array Value} {t : TypeId} (hc : ∀ g, c.block = some g → g = M.w.heap.size)
    (hcells : ∀ t' l, x = .cells t' l → t' = t ∧ c = .blk M.w.heap.size ∧ l.length = arr.size ∧ ∀ (i : Nat) (y : AV) (u : Value), l[i]? = some y → arr[i]? = some u → RA M y u)
    (hvec : ∀ E size l, x = .vec E size l → ∃ n cap, c = .row (.slice (some ⟨M.w.heap.size, 0, none⟩) n cap) ∧ E = t ∧ 0 < size ∧ l.length = n * size ∧ n ≤ cap ∧ cap ≤ maxLen ∧ arr.size = cap * size ∧ ∀ (i : Nat) (y : CV) (u : Value), l[i]? = some y → arr[i]? = some u → RC M.F M.w y u) (hno : ∀ p, x ≠ .obj p := by intro p h; cases h) :
    Sim base w0 (st.new x) (M.new st x c (.cells arr t)) a := by
  have hext := hs.extNew x c (.cells arr t)
  have hH : ∀ b, (M.new st x c (.cells arr t)).H b = if M.nx = b then some x else M.H b := fun b => by
    show (st.new x).H b = _
    rw [H_new, hs.nx, hs.H]
  have hm : (M.new st x c (.cells arr t)).m M.nx = c := by simp [Wd.new]
  have hm' : ∀ b, b ≠ M.nx → (M.new st x c (.cells arr t)).m b = M.m b := fun b hb => by simp [Wd.new, hb]
  have hF : ∀ b, M.F b → M.F b ∧ (M.new st x c (.cells arr t)).w.heap[b]? = M.w.heap[b]? := hext.F
  refine ⟨rfl, by show M.nx + 1 = st.nx + 1; rw [hs.nx], hs.n, fun i y hy => ?_, fun g xs hg => (hs.gl g xs hg).mono hext, ⟨?_, ?_, ?_, ?_, ?_, ?_, ?_⟩, ?_, ?_, hs.defs, hs.old⟩
  · obtain ⟨v, h1, h2⟩ := hs.env i y hy
    exact ⟨v, h1, h2.mono hext⟩
  · intro b t' l hl
    rw [hH] at hl
    by_cases hb : M.nx = b
    · subst hb
      rw [if_pos rfl] at hl
      simp only [Option.some.injEq] at hl
      obtain ⟨rfl, h2, h3, h4⟩ := hcells t' l hl
      refine ⟨M.w.heap.size, arr, by rw [hm]; exact h2, hs.base, fun hf => absurd (hs.heap.frz _ hf) (by omega), alloc_new _ _, h3, fun i y u h5 h6 => (h4 i y u h5 h6).mono hext⟩
    · rw [if_neg hb] at hl
      obtain ⟨g, arr', e1, e2, e3, e4, e5, e6⟩ := hs.heap.cells b t' l hl
      refine ⟨g, arr', by rw [hm' b (Ne.symm hb)]; exact e1, e2, e3, ?_, e5, fun i y u h5 h6 => (e6 i y u h5 h6).mono hext⟩
      show (M.w.alloc _).heap[g]? = _
      rw [alloc_heap _ _ _ (Array.getElem?_eq_some_iff.1 e4).1]; exact e4
  · intro b E size l hl
    rw [hH] at hl
    by_cases hb : M.nx = b
    · subst hb
      rw [if_pos rfl] at hl
      simp only [Option.some.injEq] at hl
      obtain ⟨n, cap, h1, rfl, h3, h4, h5, h6, h7, h8⟩ := hvec E size l hl
      have hle : n * size ≤ arr.size := by rw [h7]; exact Nat.mul_le_mul_right _ h5
      refine ⟨_, n, arr.toList.take (n * size), by rw [hm]; exact h1, h4, h3, ⟨by simp; omega, Or.inr ⟨M.w.heap.size, cap, arr, rfl, hs.base, alloc_new _ _, h5, h6, h7, rfl⟩⟩, fun i y u h9 h10 => ?_, fun g hg hf => ?_⟩
      · have hi : i < n * size := by rw [← h4]; exact (List.getElem?_eq_some_iff.1 h9).1
        rw [List.getElem?_take_of_lt hi, Array.getElem?_toList] at h10
        exact (h8 i y u h9 h10).mono hF
      · simp only [Value.ownBlock, Option.some.injEq] at hg; subst hg
        exact absurd (hs.heap.frz _ hf) (by omega)
    · rw [if_neg hb] at hl
      obtain ⟨v, n, cs, e1, e2, e3, e4, e5, e6⟩ := hs.heap.vec b E size l hl
      exact ⟨v, n, cs, by rw [hm' b (Ne.symm hb)]; exact e1, e2, e3, World.ownsRow.alloc e4 _, fun i y u h9 h10 => (e5 i y u h9 h10).mono hF, e6⟩
  · intro b b' g hbb hb hb' hg hg'
    rw [hH] at hb hb'
    have hold : ∀ k, k ≠ M.nx → (if M.nx = k then some x else M.H k) ≠ none → ((M.new st x c (.cells arr t)).m k).block = some g → g < M.w.heap.size := fun k hk h1 h2 => by
      rw [if_neg (Ne.symm hk)] at h1
      rw [hm' k hk] at h2
      exact conc_lt hs.heap h1 h2
    by_cases h1 : b = M.nx
    · subst h1
      rw [hm] at hg
      have := hc g hg
      have := hold b' (Ne.symm hbb) hb' hg'
      omega
    · by_cases h2 : b' = M.nx
      · subst h2
        rw [hm] at hg'
        have := hc g hg'
        have := hold b h1 hb hg
        omega
      · rw [if_neg (Ne.symm h1)] at hb
        rw [if_neg (Ne.symm h2)] at hb'
        rw [hm' b h1] at hg
        rw [hm' b' h2] at hg'
        exact hs.heap.sep b b' g hbb hb hb' hg hg'
  · intro b hb
    rw [hH] at hb
    show b < M.nx + 1
    by_cases h1 : M.nx = b
    · omega
    · rw [if_neg h1] at hb
      have := hs.heap.lt b hb; omega
  · intro b hb g
    have hb : M.nx + 1 ≤ b := hb
    rw [hm' b (by omega)]
    exact hs.heap.fresh b (by omega) g
  · intro b hb
    show b < (M.w.alloc _).heap.size
    rw [alloc_size]
    have := hs.heap.frz b hb; omega
  · intro b p hp
    rw [hH] at hp
    by_cases h1 : M.nx = b
    · rw [if_pos h1, Option.some.injEq] at hp; exact absurd hp (hno p)
    rw [if_neg h1] at hp
    obtain ⟨g, e1, e2, e3, e4, e5⟩ := hs.heap.obj b p hp
    refine ⟨g, by rw [hm' b (Ne.symm h1)]; exact e1, e2, p.stable _ _ _ _ e3 (fun k hk => alloc_heap _ _ _ (e4 k hk).2.1), fun k hk => ⟨(e4 k hk).1, by show k < (M.w.alloc _).heap.size; rw [alloc_size]; have := (e4 k hk).2.1; omega, (e4 k hk).2.2⟩, fun b' k hbb hk => ⟨fun hb' => ?_, fun p' hp' => ?_⟩⟩
    · by_cases h2 : M.nx = b'
      · subst h2
        rw [hm]
        intro hc'
        have := hc k hc'
        have := (e4 k hk).2.1; omega
      · rw [hH, if_neg h2] at hb'
        rw [hm' b' (Ne.symm h2)]
        exact (e5 b' k hbb hk).1 hb'
    · rw [hH] at hp'
      by_cases h2 : M.nx = b'
      · rw [if_pos h2, Option.some.injEq] at hp'; exact absurd hp' (hno p')
      · rw [if_neg h2] at hp'
        exact (e5 b' k hbb hk).2 p' hp'
  · exact hs.below.alloc hs.base _
  · show base ≤ (M.w.alloc _).heap.size
    rw [alloc_size]; have := hs.base; omega
end
def AV.cellB : AV → Bool
  | .c (.v x) => x.oneCell'
  | .c (.lst _ _) => true
  | .c _ => false
  | .agg _ => false
  | .tup _ => false
  | .ghost _ _ _ => false
  | _ => true
theorem RA.one {M : Wd} {y : AV} {u : Value} (h : RA M y u) (hc : y.cellB = true) : u.oneCell' = true := by
  cases h with
  | c h =>
    cases h with
    | v x => exact hc
    | agg => cases hc
    | tup => cases hc
    | nil => rfl
    | e0 => cases hc
    | lst => rfl
  | agg => cases hc
  | tup => cases hc
  | ptr => rfl
  | vec _ ho _ => exact ho
  | vptr _ ho _ => exact ho
  | eptr => rfl
  | fn => rfl
  | ghost => cases hc
  | ref _ ho => exact ho
theorem cells_one {u : Value} (h : u.oneCell' = true) : u.cells = #[u] := by
  cases u <;> first | rfl | cases h
section
variable {P : Program} {ops : Array Oper} {Q : Exit → St → Prop} {rest : List Oper} {st : St} {d : Nat} {ty : TypeId} {pos : String} {af : Array Edge}
theorem ao_new {o : Oper} {x : AB} {y : AV} (hg : o.guard = none) (hdst : o.dst = some d) (hd : Nat.blt d st.n = true)
    (hrun : ∀ base w0 M a, Sim base w0 st M a → ∃ (u : Value) (c : Conc) (arr : Array Value) (t : TypeId), (execOp a.eval o).run P M.w = .ok (.value u) (M.w.alloc (.cells arr t)) ∧ Sim base w0 (st.new x) (M.new st x c (.cells arr t)) a ∧ RA (M.new st x c (.cells arr t)) y u)
    (h : AOps P ops Q rest ((st.new x).put d y)) : AOps P ops Q (o :: rest) st := by
  intro base w0 M a hs
  obtain ⟨u, c, arr, t, hr, h1, h2⟩ := hrun base w0 M a hs
  refine wl_value hg hr ?_
  rw [hdst]
  have := h base w0 (M.new st x c (.cells arr t)) _ (h1.put hd h2)
  exact wpList_monoQ (fun e a w => Lift.ext (hs.extNew x c _)) _ _ _ this
theorem ao_box_a {x : Operand} {t : TypeId} {ys : List AV} (hx : st.ev x = some (.agg ys)) (hd : Nat.blt d st.n = true) (h : AOps P ops Q rest ((st.new (.cells t ys)).put d (.ptr st.nx 0))) : AOps P ops Q (⟨some d, .box t x, ty, pos, af, none⟩ :: rest) st := by
  refine ao_new rfl rfl hd (fun base w0 M a hs => ?_) h
  have hv := hs.ev hx
  generalize he : a.eval x = u at hv
  cases hv with
  | agg hl hh =>
    rename_i vs
    refine ⟨.pointer (some ⟨M.w.heap.size, 0, none⟩), .blk M.w.heap.size, vs, t, ?_, hs.newB (fun g hg => by simpa [Conc.block] using hg.symm) ?_ (fun _ _ _ h => by cases h), ?_⟩
    · simp only [execOp, he]
      simp [Instr.box, newVar, newRow, Value.cells]
    · intro t' l hl'
      simp only [AB.cells.injEq] at hl'
      obtain ⟨rfl, rfl⟩ := hl'
      exact ⟨rfl, rfl, hl, hh⟩
    · refine .ptr ?_
      simp [Wd.new, hs.nx]
def zeroB (P : Program) (t : Nat) : Option (List Value) := match P.info? t with | some i => i.zero.map (fun z => z.cells.toList) | none => none
class ZeroT (P : Program) (t : Nat) (zs : outParam (List Value)) : Prop where
  h : zeroB P t = some zs
theorem ZeroT.out {t : Nat} {zs : List Value} (I : ZeroT P t zs) : ∃ i z, P.info? t = some i ∧ i.zero = some z ∧ z.cells.toList = zs := by
  have h := I.h
  unfold zeroB at h
  split at h
  · rename_i i hi
    cases hz : i.zero with
    | none => rw [hz] at h; cases h
    | some z => rw [hz] at h; exact ⟨i, z, hi, hz, by simpa using h⟩
  · cases h
theorem ao_alloc {t : TypeId} {zs : List Value} [I : ZeroT P t zs] (hd : Nat.blt d st.n = true) (h : AOps P ops Q rest ((st.new (.cells t (zs.map fun z => .c (.v z)))).put d (.ptr st.nx 0))) : AOps P ops Q (⟨some d, .alloc t, ty, pos, af, none⟩ :: rest) st := by
  refine ao_new rfl rfl hd (fun base w0 M a hs => ?_) h
  obtain ⟨i, z, h1, h2, h3⟩ := I.out
  refine ⟨.pointer (some ⟨M.w.heap.size, 0, none⟩), .blk M.w.heap.size, z.cells, t, ?_, hs.newB (fun g hg => by simpa [Conc.block] using hg.symm) ?_ (fun _ _ _ h => by cases h), ?_⟩
  · simp only [execOp]
    simp [Instr.alloc, zeroValue, typeInfo, h1, h2, newVar, newRow]
  · intro t' l hl
    simp only [AB.cells.injEq] at hl
    obtain ⟨rfl, rfl⟩ := hl
    subst h3
    refine ⟨rfl, rfl, by simp, fun i y u hy hu => ?_⟩
    simp only [List.getElem?_map, Array.getElem?_toList, hu, Option.map_some, Option.some.injEq] at hy
    subst hy; exact .c (.v _)
  · refine .ptr ?_
    simp [Wd.new, hs.nx]
end
end Go.Proofs.YtkhljpbkebnnmaaGreatDoor.Ev
/- Rules of a walk over abstract states: stores, lists, appends. Nothing here names a program. -/
namespace Go.Proofs.YtkhljpbkebnnmaaGreatDoor.Ev
set_option linter.unusedVariables false
set_option linter.unusedSimpArgs false
open Go.RowKit
def Wd.set (M : Wd) (st : St) (b : Nat) (x : AB) (c : Conc) (w : World) : Wd := { m := fun k => if k = b then c else M.m k, H := (st.set b x).H, nx := M.nx, F := M.F, w := w, fp := M.fp }
section
variable {base : Nat} {w0 : W0} {st : St} {M : Wd} {a : Act}
theorem setRow_heap_ne (w : World) (g : Nat) (cs : Array Value) (b : Nat) (h : b ≠ g) : (w.setRow g cs).heap[b]? = w.heap[b]? := by
  simp only [World.setRow, Array.getElem?_modify]
  rw [if_neg (Ne.symm h)]
theorem setRow_size (w : World) (g : Nat) (cs : Array Value) : (w.setRow g cs).heap.size = w.heap.size := by simp [World.setRow]
theorem Sim.change (hs : Sim base w0 st M a) {b : Nat} {x : AB} {c : Conc} {w' : World} (hb : M.H b ≠ none)
    (hw : ∀ k, k < M.w.heap.size → (M.m b).block ≠ some k → w'.heap[k]? = M.w.heap[k]?) (hsz : M.w.heap.size ≤ w'.heap.size) (hos : w'.os = M.w.os) (htape : w'.tape = M.w.tape) (hout : w'.output = M.w.output)
    (hbase : ∀ k, (M.m b).block = some k → base ≤ k)
    (hcb : ∀ k, c.block = some k → (M.m b).block = some k ∨ M.w.heap.size ≤ k)
    (hnF : ∀ k, (M.m b).block = some k → ¬ M.F k)
    (hm : ∀ g, M.m b = .blk g → c = .blk g)
    (hv : ∀ E size l', x = .vec E size l' → ∃ l, M.H b = some (.vec E size l) ∧ l.length ≤ l'.length ∧ (l'.length = l.length → c = M.m b))
    (hcells : ∀ M', Ext M M' → M'.w = w' → M'.F = M.F → ∀ t l, x = .cells t l → ∃ (g : Nat) (arr : Array Value), c = .blk g ∧ base ≤ g ∧ w'.heap[g]? = some (.cells arr t (0, 0)) ∧ l.length = arr.size ∧ ∀ (i : Nat) (y : AV) (u : Value), l[i]? = some y → arr[i]? = some u → RA M' y u)
    (hvec : ∀ E size l, x = .vec E size l → ∃ (v : Value) (n : Nat) (cs : List Value), c = .row v ∧ l.length = n * size ∧ 0 < size ∧ w'.ownsRow base E size v n cs ∧ ∀ (i : Nat) (y : CV) (u : Value), l[i]? = some y → cs[i]? = some u → RC M.F w' y u) (hno : ∀ p, x ≠ .obj p := by intro p h; cases h) :
    Sim base w0 (st.set b x) (M.set st b x c w') a ∧ Ext M (M.set st b x c w') := by
  have hF : ∀ k, M.F k → M.F k ∧ w'.heap[k]? = M.w.heap[k]? := fun k hk => ⟨hk, hw k (hs.heap.frz k hk) (fun he => hnF k he hk)⟩
  have hH : ∀ k, (M.set st b x c w').H k = if b = k then some x else M.H k := fun k => by
    show (st.set b x).H k = _
    rw [H_set, hs.H]
  have hm1 : (M.set st b x c w').m b = c := by simp [Wd.set]
  have hm2 : ∀ k, k ≠ b → (M.set st b x c w').m k = M.m k := fun k hk => by simp [Wd.set, hk]
  have hext : Ext M (M.set st b x c w') := by
    refine ⟨fun k g hk => ?_, fun k E size l' hk hl => ?_, Nat.le_refl _, hF⟩
    · by_cases h : k = b
      · subst h; rw [hm1]; exact hm g hk
      · rw [hm2 k h]; exact hk
    · rw [hH] at hl
      by_cases h : b = k
      · subst h
        rw [if_pos rfl] at hl
        simp only [Option.some.injEq] at hl
        obtain ⟨l, e1, e2, e3⟩ := hv E size l' hl
        exact ⟨l, e1, e2, fun hh => by rw [hm1]; exact e3 hh⟩
      · rw [if_neg h] at hl
        exact ⟨l', hl, Nat.le_refl _, fun _ => hm2 k (Ne.symm h)⟩
  have hlt : b < M.nx := hs.heap.lt b hb
  refine ⟨⟨rfl, hs.nx, hs.n, fun i y hy => ?_, fun g xs hg => (hs.gl g xs hg).mono hext, ⟨?_, ?_, ?_, ?_, ?_, ?_, ?_⟩, ?_, ?_, hs.defs, hs.old⟩, hext⟩
  · obtain ⟨v, h1, h2⟩ := hs.env i y hy
    exact ⟨v, h1, h2.mono hext⟩
  · intro k t l hl
    rw [hH] at hl
    by_cases h : b = k
    · subst h
      rw [if_pos rfl] at hl
      simp only [Option.some.injEq] at hl
      obtain ⟨g, arr, e1, e2, e3, e4, e5⟩ := hcells _ hext rfl rfl t l hl
      refine ⟨g, arr, by rw [hm1]; exact e1, e2, fun hf => ?_, e3, e4, e5⟩
      rcases hcb g (by rw [e1]; rfl) with h1 | h1
      · exact hnF g h1 hf
      · exact absurd (hs.heap.frz g hf) (by omega)
    · rw [if_neg h] at hl
      obtain ⟨g, arr, e1, e2, e3, e4, e5, e6⟩ := hs.heap.cells k t l hl
      refine ⟨g, arr, by rw [hm2 k (Ne.symm h)]; exact e1, e2, e3, ?_, e5, fun i y u h1 h2 => (e6 i y u h1 h2).mono hext⟩
      show w'.heap[g]? = _
      rw [hw g (Array.getElem?_eq_some_iff.1 e4).1 (hs.heap.sep k b g (Ne.symm h) (by rw [hl]; simp) hb (by rw [e1]; rfl))]
      exact e4
  · intro k E size l hl
    rw [hH] at hl
    by_cases h : b = k
    · subst h
      rw [if_pos rfl] at hl
      simp only [Option.some.injEq] at hl
      obtain ⟨v, n, cs, e1, e2, e3, e4, e5⟩ := hvec E size l hl
      refine ⟨v, n, cs, by rw [hm1]; exact e1, e2, e3, e4, e5, fun g hg hf => ?_⟩
      rcases hcb g (by rw [e1]; exact hg) with h1 | h1
      · exact hnF g h1 hf
      · exact absurd (hs.heap.frz g hf) (by omega)
    · rw [if_neg h] at hl
      obtain ⟨v, n, cs, e1, e2, e3, e4, e5, e6⟩ := hs.heap.vec k E size l hl
      refine ⟨v, n, cs, by rw [hm2 k (Ne.symm h)]; exact e1, e2, e3, ?_, fun i y u h1 h2 => (e5 i y u h1 h2).mono hF, e6⟩
      obtain ⟨f1, f2⟩ := e4
      refine ⟨f1, ?_⟩
      rcases f2 with f2 | ⟨g, cap, cur, rfl, g1, g2, g3⟩
      · exact Or.inl f2
      · refine Or.inr ⟨g, cap, cur, rfl, g1, ?_, g3⟩
        show w'.heap[g]? = _
        rw [hw g (Array.getElem?_eq_some_iff.1 g2).1 (hs.heap.sep k b g (Ne.symm h) (by rw [hl]; simp) hb (by rw [e1]; rfl))]
        exact g2
  · intro k k' g hkk hk hk' hg hg'
    rw [hH] at hk hk'
    have hne : ∀ q, q ≠ b → (if b = q then some x else M.H q) ≠ none → M.H q ≠ none := fun q hq hn => by rwa [if_neg (Ne.symm hq)] at hn
    by_cases h1 : k = b
    · subst h1
      rw [hm1] at hg
      rw [hm2 k' (Ne.symm hkk)] at hg'
      have hk2 := hne k' (Ne.symm hkk) hk'
      rcases hcb g hg with h2 | h2
      · exact hs.heap.sep k k' g hkk hb hk2 h2 hg'
      · have := conc_lt hs.heap hk2 hg'; omega
    · by_cases h2 : k' = b
      · subst h2
        rw [hm1] at hg'
        rw [hm2 k h1] at hg
        have hk2 := hne k h1 hk
        rcases hcb g hg' with h3 | h3
        · exact hs.heap.sep k k' g hkk hk2 hb hg h3
        · have := conc_lt hs.heap hk2 hg; omega
      · rw [hm2 k h1] at hg
        rw [hm2 k' h2] at hg'
        exact hs.heap.sep k k' g hkk (hne k h1 hk) (hne k' h2 hk') hg hg'
  · intro k hk
    rw [hH] at hk
    show k < M.nx
    by_cases h1 : b = k
    · omega
    · rw [if_neg h1] at hk; exact hs.heap.lt k hk
  · intro k hk g
    have hk : M.nx ≤ k := hk
    rw [hm2 k (by omega)]
    exact hs.heap.fresh k hk g
  · intro k hk
    show k < w'.heap.size
    have := hs.heap.frz k hk; omega
  · intro k p hp
    rw [hH] at hp
    by_cases h1 : b = k
    · rw [if_pos h1, Option.some.injEq] at hp; exact absurd hp (hno p)
    rw [if_neg h1] at hp
    obtain ⟨g, e1, e2, e3, e4, e5⟩ := hs.heap.obj k p hp
    refine ⟨g, by rw [hm2 k (Ne.symm h1)]; exact e1, e2, p.stable _ _ _ _ e3 (fun q hq => hw q (e4 q hq).2.1 ((e5 b q h1 hq).1 hb)), fun q hq => ⟨(e4 q hq).1, Nat.lt_of_lt_of_le (e4 q hq).2.1 hsz, (e4 q hq).2.2⟩, fun b' q hbb hq => ⟨fun hb' => ?_, fun p' hp' => ?_⟩⟩
    · by_cases h2 : b' = b
      · subst h2
        rw [hm1]
        intro hc'
        rcases hcb q hc' with h3 | h3
        · exact (e5 b' q hbb hq).1 hb h3
        · have := (e4 q hq).2.1; omega
      · rw [hH, if_neg (Ne.symm h2)] at hb'
        rw [hm2 b' h2]
        exact (e5 b' q hbb hq).1 hb'
    · rw [hH] at hp'
      by_cases h2 : b = b'
      · rw [if_pos h2, Option.some.injEq] at hp'; exact absurd hp' (hno p')
      · rw [if_neg h2] at hp'
        exact (e5 b' q hbb hq).2 p' hp'
  · refine ⟨hos.trans hs.below.os, htape.trans hs.below.tape, hout.trans hs.below.output, Nat.le_trans hs.below.size hsz, fun k hk => ?_⟩
    show w'.heap[k]? = _
    have hb1 := hs.base
    rw [hw k (by omega) (fun he => by have := hbase k he; omega)]
    exact hs.below.block k hk
  · exact Nat.le_trans hs.base hsz
end
section
variable {P : Program} {ops : Array Oper} {Q : Exit → St → Prop} {rest : List Oper} {st : St} {d : Nat} {ty : TypeId} {pos : String} {af : Array Edge}
theorem run_store_row {t n : Nat} {ag : Bool} (I : TyC P t ag n) (w : World) (g o : Nat) (T : TypeId) (cur : Array Value) (v : Value) (hg : w.heap[g]? = some (.cells cur T (0, 0))) (hn : v.cells.size = n) (hl : o + n ≤ cur.size) (h1 : ∀ u ∈ v.cells.toList, u.oneCell' = true) :
    (Instr.storeAt t (.pointer (some ⟨g, o, none⟩)) v).run P w = .ok () (w.setRow g (cur.toList.take o ++ v.cells.toList ++ cur.toList.drop (o + n)).toArray) := by
  obtain ⟨d, i, e1, e2, e3, e4⟩ := I.out
  have := run_storeCells_at (P := P) g o T v.cells.toList 0 cur w hg (by simp; omega) h1
  simp only [Nat.add_zero, Array.length_toList, hn] at this
  simp [Instr.storeAt, Instr.sureAddr, storeVar, sizeOf, typeInfo, e3, e4, hn, this]
theorem aget_splice {α : Type} (cur vs : List α) (o n i : Nat) (hn : vs.length = n) (hl : o + n ≤ cur.length) : (cur.take o ++ vs ++ cur.drop (o + n))[i]? = if i < o then cur[i]? else if i < o + n then vs[i - o]? else cur[i]? := by
  by_cases h1 : i < o
  · rw [if_pos h1, List.append_assoc, List.getElem?_append_left (by simp; omega), List.getElem?_take_of_lt h1]
  · rw [if_neg h1]
    by_cases h2 : i < o + n
    · rw [if_pos h2, List.append_assoc, List.getElem?_append_right (by simp; omega), List.getElem?_append_left (by simp; omega)]
      congr 1
      simp; omega
    · rw [if_neg h2, List.getElem?_append_right (by simp; omega), List.getElem?_drop]
      congr 1
      simp; omega
def splice {α : Type} (l ys : List α) (off : Nat) : List α := l.take off ++ ys ++ l.drop (off + ys.length)
theorem store_p {base : Nat} {w0 : W0} {M : Wd} {a : Act} {t n b off g : Nat} {ag : Bool} {t' : TypeId} {l ys : List AV} {v : Value} (I : TyC P t ag n) (hs : Sim base w0 st M a) (hH : st.H b = some (.cells t' l)) (hm : M.m b = .blk g)
    (hn : ys.length = n) (hl : off + n ≤ l.length) (hsz : v.cells.size = n) (hone : ∀ u ∈ v.cells.toList, u.oneCell' = true) (hr : ∀ (i : Nat) (y : AV) (u : Value), ys[i]? = some y → v.cells[i]? = some u → RA M y u) :
    ∃ w' M', (Instr.storeAt t (.pointer (some ⟨g, off, none⟩)) v).run P M.w = .ok () w' ∧ M'.w = w' ∧ Sim base w0 (st.set b (.cells t' (splice l ys off))) M' a ∧ Ext M M' := by
  have hb : M.H b = some (.cells t' l) := by rw [hs.H]; exact hH
  obtain ⟨g', arr, e1, e2, e3, e4, e5, e6⟩ := hs.heap.cells b t' l hb
  rw [hm] at e1; cases e1
  refine ⟨_, M.set st b (.cells t' (splice l ys off)) (.blk g) (M.w.setRow g (arr.toList.take off ++ v.cells.toList ++ arr.toList.drop (off + n)).toArray), run_store_row I M.w g off t' arr v e4 hsz (by omega) hone, rfl, ?_⟩
  refine hs.change (by rw [hb]; simp) (fun k hk hne => setRow_heap_ne _ _ _ _ (fun he => hne (by rw [hm, he]; rfl))) (by rw [setRow_size]; exact Nat.le_refl _) rfl rfl rfl (fun k hk => ?_) (fun k hk => Or.inl (by rw [hm]; exact hk)) (fun k hk => ?_) (fun g' hg' => by rw [hm] at hg'; cases hg'; rfl) (fun E size l' h => by cases h) ?_ (fun E size l' h => by cases h)
  · rw [hm] at hk; simp only [Conc.block, Option.some.injEq] at hk; omega
  · rw [hm] at hk; simp only [Conc.block, Option.some.injEq] at hk; subst hk; exact e3
  · intro M' hext hw' hF' t2 l2 h2
    simp only [AB.cells.injEq] at h2
    obtain ⟨rfl, rfl⟩ := h2
    refine ⟨g, _, rfl, e2, setRow_heap _ _ _ _ _ _ e4, ?_, fun i y u hy hu => ?_⟩
    · simp [splice, hn, hsz, e5]
    · rw [splice, aget_splice l ys off ys.length i rfl (by omega)] at hy
      rw [List.getElem?_toArray, aget_splice arr.toList v.cells.toList off n i (by simpa using hsz) (by simp; omega)] at hu
      rw [hn] at hy
      split at hy
      · rename_i h1; rw [if_pos h1] at hu; exact (e6 i y u hy (by simpa using hu)).mono hext
      · rename_i h1; rw [if_neg h1] at hu
        split at hy
        · rename_i h2; rw [if_pos h2] at hu; exact (hr _ y u hy (by simpa using hu)).mono hext
        · rename_i h2; rw [if_neg h2] at hu; exact (e6 i y u hy (by simpa using hu)).mono hext
theorem ao_store_gen {x z : Operand} {t : TypeId} {s2 : St} (hrun : ∀ base w0 M a, Sim base w0 st M a → ∃ w' M', (Instr.storeAt t (a.eval x) (a.eval z)).run P M.w = .ok () w' ∧ M'.w = w' ∧ Sim base w0 s2 M' a ∧ Ext M M')
    (h : AOps P ops Q rest s2) : AOps P ops Q (⟨none, .store t x z, ty, pos, af, none⟩ :: rest) st := by
  intro base w0 M a hs
  obtain ⟨w', M', h1, h2, h3, h4⟩ := hrun base w0 M a hs
  refine wl_skip (w' := w') rfl ?_ ?_
  · simp only [execOp]
    rw [Sem.run_bind, h1]; rfl
  · subst h2
    exact wpList_monoQ (fun e a w => Lift.ext h4) _ _ _ (h base w0 M' a h3)
theorem ao_store_p {x z : Operand} {t n b off : Nat} {ag : Bool} {t' : TypeId} {l : List AV} {y : AV} [I : TyC P t ag n] (hx : st.ev x = some (.ptr b off)) (hz : st.ev z = some y) (hc : y.cellB = true) (h1 : n = 1) (hH : st.H b = some (.cells t' l)) (hl : Nat.blt off l.length = true)
    (h : AOps P ops Q rest (st.set b (.cells t' (l.set off y)))) : AOps P ops Q (⟨none, .store t x z, ty, pos, af, none⟩ :: rest) st := by
  have hlt := blt_true hl
  have e : l.set off y = splice l [y] off := by
    unfold splice
    rw [List.set_eq_take_append_cons_drop, if_pos hlt]
    simp
  rw [e] at h
  refine ao_store_gen (fun base w0 M a hs => ?_) h
  have hv := hs.ev hx
  have hu := hs.ev hz
  have ho := hu.one hc
  generalize he : a.eval x = u at hv
  cases hv with
  | ptr hm =>
    refine store_p I hs hH hm (by simp [h1]) (by omega) (by rw [cells_one ho, h1]; rfl) (by rw [cells_one ho]; simpa using ho) (fun i y' u' h2 h3 => ?_)
    rw [cells_one ho] at h3
    cases i with
    | zero => simp at h2 h3; subst h2; subst h3; exact hu
    | succ i => simp at h2
theorem ao_store_pa {x z : Operand} {t n b off : Nat} {ag : Bool} {t' : TypeId} {l ys : List AV} [I : TyC P t ag n] (hx : st.ev x = some (.ptr b off)) (hz : st.ev z = some (.agg ys)) (hc : ys.all AV.cellB = true) (h1 : ys.length = n) (hH : st.H b = some (.cells t' l)) (hl : Nat.ble (off + n) l.length = true)
    (h : AOps P ops Q rest (st.set b (.cells t' (splice l ys off)))) : AOps P ops Q (⟨none, .store t x z, ty, pos, af, none⟩ :: rest) st := by
  have hle := Nat.le_of_ble_eq_true hl
  refine ao_store_gen (fun base w0 M a hs => ?_) h
  have hv := hs.ev hx
  have hu := hs.ev hz
  generalize he : a.eval x = u at hv
  generalize he2 : a.eval z = u2 at hu
  cases hv with
  | ptr hm =>
    cases hu with
    | agg hl2 hh =>
      rename_i vs
      refine store_p I hs hH hm h1 (by omega) (by simp only [Value.cells]; omega) (fun u hu => ?_) (fun i y' u' h2 h3 => hh i y' u' h2 h3)
      simp only [Value.cells] at hu
      obtain ⟨i, hi, rfl⟩ := List.mem_iff_getElem.1 hu
      have hi2 : i < ys.length := by rw [hl2]; simpa using hi
      have := hh i ys[i] vs[i] (by simp [hi2]) (by simp)
      refine this.one ?_
      exact List.all_eq_true.1 hc _ (List.getElem_mem hi2)
end
end Go.Proofs.YtkhljpbkebnnmaaGreatDoor.Ev
/- Rules of a walk over abstract states: calls by contract, and contracts out of walks. Nothing here names a program. -/
namespace Go.Proofs.YtkhljpbkebnnmaaGreatDoor.Ev
set_option linter.unusedVariables false
set_option linter.unusedSimpArgs false
open Go.RowKit
def cl (H : Nat → Option AB) : AV → CV → Prop
  | .c x, z => x = z ∨ (x = .v (.slice none 0 0) ∧ ∃ s, z = .lst s [])
  | .agg xs, .agg zs => clL H xs zs
  | .tup xs, .tup zs => clL H xs zs
  | .vec b n, .lst s l => (∃ E, H b = some (.vec E s l)) ∧ l.length = n * s
  | _, _ => False
where clL (H : Nat → Option AB) : List AV → List CV → Prop
  | [], [] => True
  | x :: xs, z :: zs => cl H x z ∧ clL H xs zs
  | _, _ => False
theorem cl_nil {H : Nat → Option AB} : cl.clL H [] [] := trivial
theorem cl_cons {H : Nat → Option AB} {x : AV} {xs : List AV} {z : CV} {zs : List CV} (h : cl H x z) (hs : cl.clL H xs zs) : cl.clL H (x :: xs) (z :: zs) := ⟨h, hs⟩
theorem cl_c {H : Nat → Option AB} {x : CV} : cl H (.c x) x := Or.inl rfl
theorem cl_none {H : Nat → Option AB} {s : Nat} : cl H (.c (.v (.slice none 0 0))) (.lst s []) := Or.inr ⟨rfl, s, rfl⟩
theorem cl_agg {H : Nat → Option AB} {xs : List AV} {zs : List CV} (h : cl.clL H xs zs) : cl H (.agg xs) (.agg zs) := h
theorem cl_vec {H : Nat → Option AB} {b n E s : Nat} {l : List CV} (h : H b = some (.vec E s l)) (hn : l.length = n * s) : cl H (.vec b n) (.lst s l) := ⟨⟨E, h⟩, hn⟩
theorem clL_get {H : Nat → Option AB} : ∀ {xs : List AV} {zs : List CV}, cl.clL H xs zs → xs.length = zs.length ∧ ∀ (i : Nat) (x : AV) (z : CV), xs[i]? = some x → zs[i]? = some z → cl H x z
  | [], [], _ => ⟨rfl, fun i x z h => by simp at h⟩
  | x :: xs, z :: zs, ⟨h1, h2⟩ => by
    obtain ⟨e1, e2⟩ := clL_get h2
    refine ⟨by simp [e1], fun i x' z' h3 h4 => ?_⟩
    cases i with
    | zero => simp at h3 h4; subst h3; subst h4; exact h1
    | succ i => exact e2 i x' z' (by simpa using h3) (by simpa using h4)
  | [], _ :: _, h => h.elim
  | _ :: _, [], h => h.elim
theorem cl_rc {M : Wd} {base : Nat} (hok : HeapOK M base) {F' : Nat → Prop} (hF : ∀ b, M.F b → F' b) {H : Nat → Option AB} (hH : ∀ b E s l, H b = some (.vec E s l) → M.H b = some (.vec E s l) ∧ ∀ g, (M.m b).block = some g → F' g)
    {y : AV} {u : Value} (h : RA M y u) : ∀ {z : CV}, cl H y z → RC F' M.w z u := by
  induction h with
  | c h =>
    intro z hz
    rcases hz with rfl | ⟨rfl, s, rfl⟩
    · exact h.mono (fun b hb => ⟨hF b hb, rfl⟩)
    · cases h; exact .nil
  | agg hl _ ih =>
    intro z hz
    cases z with
    | agg zs =>
      obtain ⟨e1, e2⟩ := clL_get hz
      refine .agg (by rw [← e1, hl]) (fun i x u hx hu => ?_)
      have hi : i < zs.length := (List.getElem?_eq_some_iff.1 hx).1
      obtain ⟨y, hy⟩ : ∃ y, _ = some y := ⟨_, List.getElem?_eq_getElem (by rw [e1]; exact hi)⟩
      exact ih i y u hy hu (e2 i y x hy hx)
    | _ => exact hz.elim
  | tup hl _ ih =>
    intro z hz
    cases z with
    | tup zs =>
      obtain ⟨e1, e2⟩ := clL_get hz
      refine .tup (by rw [← e1, hl]) (fun i x u hx hu => ?_)
      have hi : i < zs.length := (List.getElem?_eq_some_iff.1 hx).1
      obtain ⟨y, hy⟩ : ∃ y, _ = some y := ⟨_, List.getElem?_eq_getElem (by rw [e1]; exact hi)⟩
      exact ih i y u hy hu (e2 i y x hy hx)
    | _ => exact hz.elim
  | ptr _ => intro z hz; cases z <;> exact hz.elim
  | vptr _ _ _ => intro z hz; cases z <;> exact hz.elim
  | eptr _ _ _ _ => intro z hz; cases z <;> exact hz.elim
  | fn _ _ _ => intro z hz; cases z <;> exact hz.elim
  | ghost _ _ _ => intro z hz; cases z <;> exact hz.elim
  | ref _ _ => intro z hz; cases z <;> exact hz.elim
  | vec hb ho hv =>
    rename_i b n v
    intro z hz
    cases z with
    | lst s l =>
      obtain ⟨⟨E, h1⟩, h2⟩ := hz
      obtain ⟨h3, h4⟩ := hH b E s l h1
      obtain ⟨_, h5⟩ := hv E s l h3
      obtain ⟨v', n', cs, e1, e2, e3, e4, e5, e6⟩ := hok.vec b E s l h3
      rw [h5 h2] at e1 h4
      cases e1
      have hnn : n = n' := Nat.eq_of_mul_eq_mul_right e3 (by rw [← h2, e2])
      subst hnn
      rcases e4.2 with ⟨rfl, hn0⟩ | ⟨g, cap, cur, rfl, f1, f2, f3, f4, f5, f6⟩
      · subst hn0
        have : l = [] := List.eq_nil_of_length_eq_zero (by simpa using h2)
        subst this
        exact .nil
      · refine .lst (fun i => cs.getD i undef) h2 f3 (h4 g rfl) (fun i x hx => ?_) (fun i x hx => ?_)
        · have hi : i < cs.length := by rw [e4.1, ← e2]; exact (List.getElem?_eq_some_iff.1 hx).1
          have := World.ownsRow.cells e4 (g := g) rfl i cs[i] (by simp [hi])
          rw [Kit.addr_add] at this
          rw [this]
          simp [List.getD, hi]
        · have hi : i < cs.length := by rw [e4.1, ← e2]; exact (List.getElem?_eq_some_iff.1 hx).1
          have := e5 i x cs[i] hx (by simp [hi])
          rw [show cs.getD i undef = cs[i] by simp [List.getD, hi]]
          exact this.mono (fun b hb => ⟨hF b hb, rfl⟩)
    | _ => exact hz.elim
def GlOK (gl : List (Nat × List CV)) (F : Nat → Prop) (w : World) : Prop := ∀ g xs, look g gl = some xs → RA { m := fun _ => .row undef, H := fun _ => none, nx := 0, F := F, w := w, fp := fun _ _ => False } (.eptr xs 0) (.pointer (some ⟨g, 0, none⟩))
def callableB (P : Program) (f : FuncId) : Bool := match P.funcs[f]? with | some fn => !(fn.name == "runtime.NumGoroutine") && fn.body.isSome | none => false
def Con (P : Program) (gl : List (Nat × List CV)) (f : FuncId) (args : List CV) (r : CV) : Prop :=
  callableB P f = true ∧ ∀ (w : World) (F : Nat → Prop) (vals : Array Value), (∀ b, F b → b < w.heap.size) → GlOK gl F w → args.length = vals.size → (∀ (i : Nat) (x : CV) (u : Value), args[i]? = some x → vals[i]? = some u → RC F w x u) →
    Calls P f vals w fun e w' => ∃ v, e = .returned v ∧ Below w.heap.size w w' ∧ RC (fun b => F b ∨ (w.heap.size ≤ b ∧ b < w'.heap.size)) w' r v
def of1 : CV → AV
  | .agg xs => .agg (xs.map .c)
  | x => .c x
def ofC : CV → AV
  | .tup xs => .tup (xs.map of1)
  | x => of1 x
theorem ofC1 {M : Wd} {x : CV} {u : Value} (h : RC M.F M.w x u) : RA M (of1 x) u := by
  cases h with
  | agg hl hh =>
    refine .agg (by simpa using hl) (fun i y u hy hu => ?_)
    obtain ⟨z, h1, rfl⟩ : ∃ z, _ = some z ∧ AV.c z = y := by simpa using hy
    exact .c (hh i z u h1 hu)
  | v => exact .c (.v _)
  | tup hl hh => exact .c (.tup hl hh)
  | nil => exact .c .nil
  | e0 => exact .c .e0
  | lst cs a b c d e => exact .c (.lst cs a b c d e)
theorem RA.ofC {M : Wd} {x : CV} {u : Value} (h : RC M.F M.w x u) : RA M (Ev.ofC x) u := by
  cases h with
  | agg hl hh => exact ofC1 (.agg hl hh)
  | tup hl hh =>
    refine .tup (by simpa using hl) (fun i y u hy hu => ?_)
    obtain ⟨z, h1, rfl⟩ : ∃ z, _ = some z ∧ of1 z = y := by
      simp only [List.getElem?_map, Option.map_eq_some_iff] at hy
      exact hy
    exact ofC1 (hh i z u h1 hu)
  | v => exact .c (.v _)
  | nil => exact .c .nil
  | e0 => exact .c .e0
  | lst cs a b c d e => exact .c (.lst cs a b c d e)
def evs (st : St) : List Operand → Option (List AV)
  | [] => some []
  | x :: l => match st.ev x, evs st l with | some y, some ys => some (y :: ys) | _, _ => none
theorem evs_get {st : St} : ∀ {l : List Operand} {ys : List AV}, evs st l = some ys → l.length = ys.length ∧ ∀ (i : Nat) (x : Operand) (y : AV), l[i]? = some x → ys[i]? = some y → st.ev x = some y
  | [], ys, h => by simp only [evs, Option.some.injEq] at h; subst h; exact ⟨rfl, fun i x y h => by simp at h⟩
  | x :: l, ys, h => by
    simp only [evs] at h
    split at h
    · rename_i y ys' h1 h2
      simp only [Option.some.injEq] at h; subst h
      obtain ⟨e1, e2⟩ := evs_get h2
      refine ⟨by simp [e1], fun i x' y' h3 h4 => ?_⟩
      cases i with
      | zero => simp at h3 h4; subst h3; subst h4; exact h1
      | succ i => exact e2 i x' y' (by simpa using h3) (by simpa using h4)
    · cases h
def Wd.after (M : Wd) (w' : World) : Wd := { M with F := fun b => M.F b ∨ (M.w.heap.size ≤ b ∧ b < w'.heap.size), w := w' }
theorem Ext.after {M : Wd} {w' : World} (hb : Below M.w.heap.size M.w w') (hf : ∀ b, M.F b → b < M.w.heap.size) : Ext M (M.after w') where
  m := fun _ _ h => h
  v := fun b E size l' _ h => ⟨l', h, Nat.le_refl _, fun _ => rfl⟩
  nx := Nat.le_refl _
  F := fun b h => ⟨Or.inl h, hb.block b (hf b h)⟩
theorem Sim.after {base : Nat} {w0 : W0} {st : St} {M : Wd} {a : Act} {w' : World} (hs : Sim base w0 st M a) (hb : Below M.w.heap.size M.w w') : Sim base w0 st (M.after w') a := by
  have hext := Ext.after hb hs.heap.frz
  refine ⟨hs.H, hs.nx, hs.n, fun i y hy => ?_, fun g xs hg => (hs.gl g xs hg).mono hext, ⟨?_, ?_, hs.heap.sep, hs.heap.lt, hs.heap.fresh, ?_, ?_⟩, hs.below.trans (hb.mono hs.base), Nat.le_trans hs.base hb.size, hs.defs, fun b hf hlt => ?_⟩
  · obtain ⟨v, h1, h2⟩ := hs.env i y hy
    exact ⟨v, h1, h2.mono hext⟩
  · intro b t l hl
    obtain ⟨g, arr, e1, e2, e3, e4, e5, e6⟩ := hs.heap.cells b t l hl
    have hg := (Array.getElem?_eq_some_iff.1 e4).1
    refine ⟨g, arr, e1, e2, fun hf => ?_, by show w'.heap[g]? = _; rw [hb.block g hg]; exact e4, e5, fun i y u h1 h2 => (e6 i y u h1 h2).mono hext⟩
    rcases hf with hf | hf
    · exact e3 hf
    · omega
  · intro b E size l hl
    obtain ⟨v, n, cs, e1, e2, e3, e4, e5, e6⟩ := hs.heap.vec b E size l hl
    refine ⟨v, n, cs, e1, e2, e3, ?_, fun i y u h1 h2 => (e5 i y u h1 h2).mono hext.F, fun g hg hf => ?_⟩
    · obtain ⟨f1, f2⟩ := e4
      refine ⟨f1, ?_⟩
      rcases f2 with f2 | ⟨g, cap, cur, rfl, g1, g2, g3⟩
      · exact Or.inl f2
      · refine Or.inr ⟨g, cap, cur, rfl, g1, ?_, g3⟩
        show w'.heap[g]? = _
        rw [hb.block g (Array.getElem?_eq_some_iff.1 g2).1]; exact g2
    · rcases hf with hf | hf
      · exact e6 g hg hf
      · have := (World.ownsRow.lt e4 g hg).2; omega
  · intro b hf
    show b < w'.heap.size
    rcases hf with hf | hf
    · have := hs.heap.frz b hf; have := hb.size; omega
    · omega
  · intro b p hp
    obtain ⟨g, e1, e2, e3, e4, e5⟩ := hs.heap.obj b p hp
    refine ⟨g, e1, e2, p.stable _ _ _ _ e3 (fun k hk => hb.block k (e4 k hk).2.1), fun k hk => ⟨(e4 k hk).1, Nat.lt_of_lt_of_le (e4 k hk).2.1 hb.size, fun hf => ?_⟩, e5⟩
    rcases hf with hf | hf
    · exact (e4 k hk).2.2 hf
    · have := (e4 k hk).2.1; omega
  · rcases hf with hf | hf
    · exact hs.old b hf hlt
    · have := hs.base; omega
section
variable {P : Program} {ops : Array Oper} {Q : Exit → St → Prop} {rest : List Oper} {st : St} {d : Nat} {ty : TypeId} {pos : String} {af : Array Edge}
theorem run_call {f : FuncId} {args : List Operand} {tys : Array TypeId} {dst : Option Tmp} (hc : callableB P f = true) (a : Act) (w : World) :
    (execOp a.eval ⟨dst, .call ⟨.value (.func f), args.toArray, tys⟩, ty, pos, af, none⟩).run P w = .ok (.enter f (args.map a.eval).toArray) w := by
  unfold callableB at hc
  split at hc
  · rename_i fn hf
    simp only [Bool.and_eq_true, Bool.not_eq_true'] at hc
    obtain ⟨h1, h2⟩ := hc
    cases hb : fn.body with
    | none => rw [hb] at h2; cases h2
    | some c =>
      simp only [execOp, resolve, Act.eval, Deferred.ofValue]
      have h1' : ¬ fn.name = "runtime.NumGoroutine" := by simpa using h1
      simp [invoke, callFunc, hf, h1', hb]
  · cases hc
theorem wl_enter {Q : Exit → Act → World → Prop} {o : Oper} {rest : List Oper} {a : Act} {w w' : World} {f : FuncId} {args : Array Value} (hg : o.guard = none) (hr : (execOp a.eval o).run P w = .ok (.enter f args) w') {R : Value → World → Prop}
    (hc : Calls P f args w' fun e w'' => ∃ v, e = .returned v ∧ R v w'') (h : ∀ v w'', R v w'' → wpList P ops Q rest (a.put o.dst v) w'') : wpList P ops Q (o :: rest) a w :=
  wpList_plain hg fun K hK => by
    unfold Oper.wp
    rw [hr]
    exact hc.mono fun e w'' ⟨v, he, hR⟩ => by subst he; exact hK _ _ (h v w'' hR)
def clF : AV → Option CV
  | .c x => some x
  | .agg xs => (clFL xs).map .agg
  | .tup xs => (clFL xs).map .tup
  | _ => none
where clFL : List AV → Option (List CV)
  | [] => some []
  | x :: l => match clF x, clFL l with | some y, some ys => some (y :: ys) | _, _ => none
mutual
theorem clF_cl {H : Nat → Option AB} : ∀ {x : AV} {z : CV}, clF x = some z → cl H x z
  | .c x, z, h => by simp only [clF, Option.some.injEq] at h; subst h; exact Or.inl rfl
  | .agg xs, z, h => by
    simp only [clF, Option.map_eq_some_iff] at h
    obtain ⟨zs, h1, rfl⟩ := h
    exact clF_clL h1
  | .tup xs, z, h => by
    simp only [clF, Option.map_eq_some_iff] at h
    obtain ⟨zs, h1, rfl⟩ := h
    exact clF_clL h1
  | .ptr _ _, z, h => by cases h
  | .vec _ _, z, h => by cases h
  | .vptr _ _ _, z, h => by cases h
  | .eptr _ _, z, h => by cases h
  | .fn _ _, z, h => by cases h
  | .ghost _ _ _, z, h => by cases h
  | .ref _ _, z, h => by cases h
theorem clF_clL {H : Nat → Option AB} : ∀ {xs : List AV} {zs : List CV}, clF.clFL xs = some zs → cl.clL H xs zs
  | [], zs, h => by simp only [clF.clFL, Option.some.injEq] at h; subst h; trivial
  | x :: xs, zs, h => by
    simp only [clF.clFL] at h
    cases h1 : clF x with
    | none => rw [h1] at h; cases h
    | some y =>
      cases h2 : clF.clFL xs with
      | none => rw [h1, h2] at h; cases h
      | some ys =>
        rw [h1, h2] at h
        simp only [Option.some.injEq] at h; subst h
        exact ⟨clF_cl h1, clF_clL h2⟩
end
theorem ao_call {X : List Oper → St → Prop} [W : Walk P X] {f : FuncId} {args : List Operand} {tys : Array TypeId} {ys : List AV} {zs : List CV} {r : CV} {y : AV} (hys : evs st args = some ys) (hz0 : clF.clFL ys = some zs) (hcon : Con P st.gl f zs r) (hy : ofC r = y) (hd : Nat.blt d st.n = true)
    (h : X rest (st.put d y)) : X (⟨some d, .call ⟨.value (.func f), args.toArray, tys⟩, ty, pos, af, none⟩ :: rest) st := by
  subst hy
  have hz : cl.clL (fun _ => none) ys zs := clF_clL hz0
  refine W.step rfl rfl hd (fun base w0 M a hs K Q hK => ?_) h
  obtain ⟨e1, e2⟩ := evs_get hys
  obtain ⟨e3, e4⟩ := clL_get hz
  unfold Oper.wp
  rw [run_call hcon.1 a M.w]
  refine Calls.mono (hcon.2 M.w M.F _ hs.sim.heap.frz (fun g xs hg => ?_) (by simp; omega) (fun i x u hx hu => ?_)) (fun e w'' hR => ?_)
  · have := hs.sim.gl g xs hg
    generalize hq : Value.pointer (some ⟨g, 0, none⟩) = q at this ⊢
    cases this with
    | eptr cs hF hcell hr => exact .eptr cs hF hcell hr
  · have hi : i < args.length := by have := (List.getElem?_eq_some_iff.1 hx).1; omega
    obtain ⟨y, hy⟩ : ∃ y, ys[i]? = some y := ⟨_, List.getElem?_eq_getElem (by omega)⟩
    have hev := hs.ev (by simp [Op.operands, Call.operands]; exact Or.inr (List.getElem_mem hi)) (e2 i args[i] y (by simp [hi]) hy)
    have hu' : a.eval args[i] = u := by simpa [hi] using hu
    rw [hu'] at hev
    exact cl_rc hs.sim.heap (F' := M.F) (fun _ h => h) (fun b E s l h => by cases h) hev (e4 i y x hy hx)
  · obtain ⟨v, rfl, hb, hrc⟩ := hR
    exact hK v (M.after w'') (Ext.after hb hs.sim.heap.frz) (fun s hs' => hs'.after hb) (RA.ofC (M := M.after w'') hrc)
end
inductive Res1 (P : Program) (st : St) : ResultVar → CV → Prop
  | tmp {t : Nat} {y : AV} {r : CV} (h : look t st.env = some y) (hc : cl st.H y r) : Res1 P st (.tmp t) r
  | cell_s {ad t b off n : Nat} {t' : TypeId} {l : List AV} {y : AV} {r : CV} (I : TyC P t false n) (h : look ad st.env = some (.ptr b off)) (hH : st.H b = some (.cells t' l)) (hy : l[off]? = some y) (hc : cl st.H y r) : Res1 P st (.cell ad t) r
  | cell_a {ad t b off n : Nat} {t' : TypeId} {l ys : List AV} {rs : List CV} (I : TyC P t true n) (h : look ad st.env = some (.ptr b off)) (hH : st.H b = some (.cells t' l)) (hy : (l.drop off).take n = ys) (hn : ys.length = n) (hc : cl.clL st.H ys rs) : Res1 P st (.cell ad t) (.agg rs)
inductive ResL (P : Program) (st : St) : List ResultVar → List CV → Prop
  | nil : ResL P st [] []
  | cons {v : ResultVar} {vs : List ResultVar} {r : CV} {rs : List CV} (h : Res1 P st v r) (hs : ResL P st vs rs) : ResL P st (v :: vs) (r :: rs)
def Ret (P : Program) (rs : List ResultVar) (r : CV) : Exit → St → Prop
  | e, st => (e = .normal ∨ e = .ret) ∧ ((∃ v, rs = [v] ∧ Res1 P st v r) ∨ (rs.length ≠ 1 ∧ ∃ zs, r = .tup zs ∧ ResL P st rs zs))
theorem ret1 {P : Program} {v : ResultVar} {r : CV} {st : St} (h : Res1 P st v r) : Ret P [v] r .ret st := ⟨Or.inr rfl, Or.inl ⟨v, rfl, h⟩⟩
theorem ret2 {P : Program} {v1 v2 : ResultVar} {vs : List ResultVar} {zs : List CV} {st : St} (h : ResL P st (v1 :: v2 :: vs) zs) : Ret P (v1 :: v2 :: vs) (.tup zs) .ret st := ⟨Or.inr rfl, Or.inr ⟨by simp, zs, rfl, h⟩⟩
def res1 (a : Act) : ResultVar → Sem Value
  | .tmp t => pure (a.tmps.getD t undef)
  | .cell ad t => do loadVar t (← asAddr (a.tmps.getD ad undef))
theorem res1_run {P : Program} {base : Nat} {w0 : W0} {st : St} {M : Wd} {a : Act} (hs : Sim base w0 st M a) {F' : Nat → Prop} (hF : ∀ b, M.F b → F' b) (hF' : ∀ b, base ≤ b → b < M.w.heap.size → F' b) {v : ResultVar} {r : CV} (h : Res1 P st v r) :
    ∃ u, (res1 a v).run P M.w = .ok u M.w ∧ RC F' M.w r u := by
  have hvec : ∀ b E s l, st.H b = some (.vec E s l) → M.H b = some (.vec E s l) ∧ ∀ g, (M.m b).block = some g → F' g := fun b E s l hb => by
    rw [← hs.H] at hb
    refine ⟨hb, fun g hg => ?_⟩
    obtain ⟨v, n, cs, e1, _, _, e4, _⟩ := hs.heap.vec b E s l hb
    rw [e1] at hg
    obtain ⟨f1, f2⟩ := World.ownsRow.lt e4 g hg
    exact hF' g f1 f2
  cases h with
  | tmp h hc =>
    rename_i t y
    obtain ⟨u, h1, h2⟩ := hs.env t y h
    exact ⟨u, by simp [res1, Array.getD_eq_getD_getElem?, h1], cl_rc hs.heap hF hvec h2 hc⟩
  | cell_s I h hH hy hc =>
    rename_i ad t b off n t' l y
    obtain ⟨u, h1, h2⟩ := hs.env ad _ h
    cases h2 with
    | ptr hm =>
      rename_i g
      obtain ⟨g', arr, e1, _, _, e4, e5, e6⟩ := hs.heap.cells b t' l (by rw [hs.H]; exact hH)
      rw [hm] at e1; cases e1
      have hlt : off < arr.size := by rw [← e5]; exact (List.getElem?_eq_some_iff.1 hy).1
      refine ⟨arr[off], ?_, cl_rc hs.heap hF hvec (e6 off y _ hy (by simp [hlt])) hc⟩
      have := run_load_s I M.w ⟨g, off, none⟩ arr[off] (by simp [World.cell?, e4, hlt])
      simp only [Instr.loadAt, Instr.sureAddr, Sem.run_bind, Sem.run_pure, Result.andThen_ok] at this
      simp [res1, Array.getD_eq_getD_getElem?, h1, asAddr, this]
  | cell_a I h hH hy hn hc =>
    rename_i ad t b off n t' l ys rs
    obtain ⟨u, h1, h2⟩ := hs.env ad _ h
    cases h2 with
    | ptr hm =>
      rename_i g
      obtain ⟨g', arr, e1, _, _, e4, e5, e6⟩ := hs.heap.cells b t' l (by rw [hs.H]; exact hH)
      rw [hm] at e1; cases e1
      have hln : ((arr.toList.drop off).take n).length = n := by
        have : ((l.drop off).take n).length = n := by rw [hy]; exact hn
        simp only [List.length_take, List.length_drop, Array.length_toList] at this ⊢
        rw [← e5]; exact this
      have hRA : RA M (.agg ys) (.agg ((arr.toList.drop off).take n).toArray) := by
        refine .agg (by rw [hn]; simpa using hln.symm) (fun i y u hy' hu => ?_)
        subst hy
        have hi : i < n := by have := (List.getElem?_eq_some_iff.1 hy').1; omega
        rw [List.getElem?_take_of_lt hi, List.getElem?_drop] at hy'
        rw [List.getElem?_toArray, List.getElem?_take_of_lt hi, List.getElem?_drop, Array.getElem?_toList] at hu
        exact e6 _ y u hy' hu
      refine ⟨_, ?_, cl_rc hs.heap hF hvec hRA (cl_agg hc)⟩
      have := run_load_a I M.w g off ((arr.toList.drop off).take n) hln (fun j v hv => by
        have hj : j < n := by have := (List.getElem?_eq_some_iff.1 hv).1; omega
        rw [List.getElem?_take_of_lt hj, List.getElem?_drop, Array.getElem?_toList] at hv
        simp [World.cell?, e4, hv])
      simp only [Instr.loadAt, Instr.sureAddr, Sem.run_bind, Sem.run_pure, Result.andThen_ok] at this
      simp [res1, Array.getD_eq_getD_getElem?, h1, asAddr, this]
theorem resL_run {P : Program} {base : Nat} {w0 : W0} {st : St} {M : Wd} {a : Act} (hs : Sim base w0 st M a) {F' : Nat → Prop} (hF : ∀ b, M.F b → F' b) (hF' : ∀ b, base ≤ b → b < M.w.heap.size → F' b) : ∀ {vs : List ResultVar} {rs : List CV}, ResL P st vs rs →
    ∃ us : List Value, (vs.mapM (res1 a)).run P M.w = .ok us M.w ∧ us.length = vs.length ∧ rs.length = us.length ∧ ∀ (i : Nat) (r : CV) (u : Value), rs[i]? = some r → us[i]? = some u → RC F' M.w r u
  | _, _, .nil => ⟨[], by simp, rfl, rfl, fun i r u h => by simp at h⟩
  | _, _, .cons h hs' => by
    obtain ⟨u, h1, h2⟩ := res1_run hs hF hF' h
    obtain ⟨us, h3, h4, h5, h6⟩ := resL_run hs hF hF' hs'
    refine ⟨u :: us, ?_, by simp [h4], by simp [h5], fun i r u' h7 h8 => ?_⟩
    · rw [List.mapM_cons, Sem.run_bind, h1]
      simp only [Result.andThen_ok, Sem.run_bind, h3, Sem.run_pure]
    · cases i with
      | zero => simp at h7 h8; subst h7; subst h8; exact h2
      | succ i => exact h6 i r u' (by simpa using h7) (by simpa using h8)
def argEnv : Nat → List CV → List (Nat × AV)
  | _, [] => []
  | k, x :: l => (k, ofC x) :: argEnv (k + 1) l
theorem argEnv_get : ∀ (l : List CV) (k i : Nat) (y : AV), look i (argEnv k l) = some y → ∃ x, k ≤ i ∧ l[i - k]? = some x ∧ y = ofC x
  | [], k, i, y, h => by simp [argEnv, look] at h
  | x :: l, k, i, y, h => by
    rw [argEnv, look_cons] at h
    split at h
    · rename_i hk; subst hk; simp only [Option.some.injEq] at h; exact ⟨x, Nat.le_refl _, by simp, h.symm⟩
    · obtain ⟨x', h1, h2, h3⟩ := argEnv_get l (k + 1) i y h
      refine ⟨x', by omega, ?_, h3⟩
      rw [show i - k = (i - (k + 1)) + 1 by omega]
      simpa using h2
theorem results_run {P : Program} {fn : Func} {base : Nat} {w0 : W0} {st : St} {M : Wd} {a : Act} (hs : Sim base w0 st M a) {F' : Nat → Prop} (hF : ∀ b, M.F b → F' b) (hF' : ∀ b, base ≤ b → b < M.w.heap.size → F' b) {r : CV} {e : Exit} (h : Ret P fn.results.toList r e st) :
    ∃ v, (results fn a.tmps).run P M.w = .ok v M.w ∧ RC F' M.w r v := by
  have hconv : ∀ us : List Value, (fn.results.toList.mapM (res1 a)).run P M.w = .ok us M.w → (results fn a.tmps).run P M.w = .ok (if h : us.toArray.size = 1 then us.toArray[0] else .tuple us.toArray) M.w := by
    intro us hu
    unfold results
    have hmap : Sem.run P (fn.results.mapM (res1 a)) M.w = Result.ok us.toArray M.w := by
      rw [Array.mapM_eq_mapM_toList, map_eq_pure_bind, Sem.run_bind, hu]; rfl
    change Sem.run P (fn.results.mapM (res1 a) >>= fun vs => pure (if h : vs.size = 1 then vs[0] else .tuple vs)) M.w = _
    rw [Sem.run_bind, hmap]; rfl
  obtain ⟨_, h⟩ := h
  rcases h with ⟨v, hv, h⟩ | ⟨hne, zs, rfl, h⟩
  · obtain ⟨u, h1, h2⟩ := res1_run hs hF hF' h
    refine ⟨u, ?_, h2⟩
    have := hconv [u] (by rw [hv, List.mapM_cons, Sem.run_bind, h1]; simp)
    simpa using this
  · obtain ⟨us, h1, h2, h3, h4⟩ := resL_run hs hF hF' h
    refine ⟨.tuple us.toArray, ?_, .tup (by simpa using h3) (fun i x u hx hu => h4 i x u hx (by simpa using hu))⟩
    have := hconv us h1
    rw [dif_neg (by simpa [h2] using hne)] at this
    exact this
theorem con_of {P : Program} {gl : List (Nat × List CV)} {f : FuncId} {fn : Func} {c : Code} {args : List CV} {r : CV} (hf : P.funcs[f]? = some fn) (hb : fn.body = some c) (hcall : callableB P f = true) (hn : Nat.ble args.length fn.ntmps = true)
    (h : Awp P c (Ret P fn.results.toList r) { n := fn.ntmps, env := argEnv 0 args, heap := [], nx := 0, gl := gl }) : Con P gl f args r := by
  refine ⟨hcall, fun w F vals hF hgl hl hv => ?_⟩
  have hle := Nat.le_of_ble_eq_true hn
  refine calls_of_wp hf hb ?_
  have hsim : Sim w.heap.size ⟨w, F⟩ { n := fn.ntmps, env := argEnv 0 args, heap := [], nx := 0, gl := gl } { m := fun _ => .row undef, H := fun _ => none, nx := 0, F := F, w := w, fp := fun _ _ => False } { tmps := vals ++ Array.replicate (fn.ntmps - vals.size) undef, defers := [] } := by
    refine ⟨rfl, rfl, by simp; omega, fun i y hy => ?_, hgl, ⟨?_, ?_, fun b b' g _ h => absurd rfl h, fun b h => absurd rfl h, ?_, hF, ?_⟩, Below.refl _ _, Nat.le_refl _, rfl, fun b h _ => h⟩
    rotate_left
    · intro b t l h; cases h
    · intro b E s l h; cases h
    · intro b _ g h; cases h
    · intro b p h; cases h
    obtain ⟨x, _, h1, rfl⟩ := argEnv_get args 0 i y hy
    rw [Nat.sub_zero] at h1
    have hi : i < vals.size := by have := (List.getElem?_eq_some_iff.1 h1).1; omega
    refine ⟨vals[i], by simp [Array.getElem?_append, hi], RA.ofC (M := { m := fun _ => .row undef, H := fun _ => none, nx := 0, F := F, w := w, fp := fun _ _ => False }) (hv i x _ h1 (by simp [hi]))⟩
  refine Code.wp_mono ?_ (h _ _ _ _ hsim)
  intro e a' w' ⟨M', st', h1, h2, h3, h4⟩
  subst h1
  have hres := results_run (fn := fn) h2 (F' := fun b => F b ∨ (w.heap.size ≤ b ∧ b < M'.w.heap.size)) (fun b hb' => by
    rcases Nat.lt_or_ge b w.heap.size with hc | hc
    · exact Or.inl (h2.old b hb' hc)
    · exact Or.inr ⟨hc, h2.heap.frz b hb'⟩) (fun b h1 h2 => Or.inr ⟨h1, h2⟩) h4
  obtain ⟨v, hrun, hrc⟩ := hres
  have hpost : bodyPost P fn (fun e w' => ∃ v, e = .returned v ∧ Below w.heap.size w w' ∧ RC (fun b => F b ∨ (w.heap.size ≤ b ∧ b < w'.heap.size)) w' r v) e a' M'.w := by
    rcases h4.1 with rfl | rfl
    · exact ⟨h2.defs, v, hrun, v, rfl, h2.below, hrc⟩
    · exact ⟨h2.defs, v, hrun, v, rfl, h2.below, hrc⟩
  exact hpost
end Go.Proofs.YtkhljpbkebnnmaaGreatDoor.Ev
/- Rules of a walk over abstract states: lists. Nothing here names a program. -/
namespace Go.Proofs.YtkhljpbkebnnmaaGreatDoor.Ev
set_option linter.unusedVariables false
set_option linter.unusedSimpArgs false
open Go.RowKit
theorem flat_len {α : Type} {enc : α → List CV} {size : Nat} (henc : ∀ x, (enc x).length = size) : ∀ l : List α, (l.flatMap enc).length = l.length * size
  | [] => by simp
  | x :: l => by rw [List.flatMap_cons, List.length_append, henc, flat_len henc l, List.length_cons, Nat.add_mul]; omega
theorem flat_drop {α : Type} {enc : α → List CV} {size : Nat} (henc : ∀ x, (enc x).length = size) : ∀ (l : List α) (k : Nat), (l.flatMap enc).drop (k * size) = (l.drop k).flatMap enc
  | [], k => by simp
  | x :: l, 0 => by simp
  | x :: l, k + 1 => by
    rw [List.flatMap_cons, List.drop_succ_cons, ← flat_drop henc l k, Nat.add_mul, Nat.add_comm, Nat.one_mul, ← List.drop_drop, List.drop_append_of_le_length (by rw [henc]; exact Nat.le_refl _), ← henc x, List.drop_length, List.nil_append, henc]
theorem flat_take {α : Type} {enc : α → List CV} {size : Nat} (henc : ∀ x, (enc x).length = size) : ∀ (l : List α) (k : Nat), (l.flatMap enc).take (k * size) = (l.take k).flatMap enc
  | [], k => by simp
  | x :: l, 0 => by simp
  | x :: l, k + 1 => by
    rw [List.flatMap_cons, List.take_succ_cons, List.flatMap_cons, ← flat_take henc l k, Nat.add_mul, Nat.one_mul, List.take_append, henc, List.take_of_length_le (by rw [henc]; omega)]
    congr 2; omega
theorem drop_at {α : Type} {enc : α → List CV} {size : Nat} (I : EncL enc size) (l : List α) (k : Nat) (h : k < l.length) : (l.flatMap enc).drop (k * size) = enc l[k] ++ (l.drop (k + 1)).flatMap enc := by
  rw [flat_drop I.len, List.drop_eq_getElem_cons h, List.flatMap_cons]
theorem drop_atj {α : Type} {enc : α → List CV} {size : Nat} (I : EncL enc size) (l : List α) (k j : Nat) (h : k < l.length) (hj : j ≤ size) : (l.flatMap enc).drop (k * size + j) = (enc l[k]).drop j ++ (l.drop (k + 1)).flatMap enc := by
  rw [← List.drop_drop, drop_at I l k h, List.drop_append_of_le_length (by rw [I.len]; exact hj)]
section
variable {P : Program} {ops : Array Oper} {Q : Exit → St → Prop} {X : List Oper → St → Prop} {rest : List Oper} {st : St} {d : Nat} {ty : TypeId} {pos : String} {af : Array Edge}
theorem run_indexAt {t E size bytes : Nat} (I : SlT P t E size bytes) (w : World) (g o n cap k : Nat) (kk : IntKind) (h : k < n) : (Instr.indexAt t (.slice (some ⟨g, o, none⟩) n cap) (.int kk (k : Int))).run P w = .ok (.pointer (some ⟨g, o + k * size, none⟩)) w := by
  obtain ⟨i, z, h1, h2, h3, h4, h5, h6⟩ := I.out
  have e : (Addr.add ⟨g, o, none⟩ (k * size)) = ⟨g, o + k * size, none⟩ := Kit.addr_add g o _
  simp [Instr.indexAt, run_underlying h1, sizeOf, typeInfo, h2, h4, e, asIntOf, h]
theorem ao_index_l [W : Walk P X] {x i : Operand} {t E size bytes : Nat} [I : SlT P t E size bytes] {xs : List CV} {kk : IntKind} {idx : Int} (k : Nat) (hx : st.ev x = some (.c (.lst size xs))) (hi : st.ev i = some (.c (.v (.int kk idx)))) (hk : idx = (k : Int)) (hlt : k * size < xs.length) (hd : Nat.blt d st.n = true)
    (h : X rest (st.put d (.eptr xs (k * size)))) : X (⟨some d, .indexAddr t x i, ty, pos, af, none⟩ :: rest) st := by
  refine ao_val rfl rfl hd (fun _ _ M a hs => ?_) h
  have hv := hs.ev (by simp [Op.operands, Call.operands]) hx
  have hidx := (hs.ev (by simp [Op.operands, Call.operands]) hi).bool
  subst hk
  generalize he : a.eval x = u at hv
  cases hv with
  | c hv =>
    cases hv with
    | nil => simp at hlt
    | lst cs hn hc hF hcell hr =>
      rename_i blk off n cap
      have hkn : k < n := by rw [hn] at hlt; exact Nat.lt_of_mul_lt_mul_right hlt
      refine ⟨.pointer (some ⟨blk, off + k * size, none⟩), ?_, .eptr cs hF hcell hr⟩
      simp only [execOp, he, hidx]
      rw [Sem.run_bind, run_indexAt I M.w blk off n cap k kk hkn]; rfl
theorem ao_index_f [W : Walk P X] {α : Type} {enc : α → List CV} {x i : Operand} {t E size bytes : Nat} [I : SlT P t E size bytes] {l : List α} {kk : IntKind} {idx : Int} (k : Nat) (hx : st.ev x = some (.c (.lst size (l.flatMap enc)))) (J : EncL enc size) (hi : st.ev i = some (.c (.v (.int kk idx)))) (hk : idx = (k : Int)) (hlt : k < l.length) (hd : Nat.blt d st.n = true)
    (h : X rest (st.put d (.eptr (l.flatMap enc) (k * size)))) : X (⟨some d, .indexAddr t x i, ty, pos, af, none⟩ :: rest) st :=
  ao_index_l k hx hi hk (by rw [flat_len J.len]; exact Nat.mul_lt_mul_of_pos_right hlt J.pos) hd h
theorem ao_index_v [W : Walk P X] {x i : Operand} {t E E' size bytes b n : Nat} [I : SlT P t E size bytes] {xs : List CV} {kk : IntKind} {idx : Int} (k : Nat) (hx : st.ev x = some (.vec b n)) (hH : st.H b = some (.vec E' size xs)) (hn : xs.length = n * size) (hi : st.ev i = some (.c (.v (.int kk idx)))) (hk : idx = (k : Int)) (hlt : k < n) (hd : Nat.blt d st.n = true)
    (h : X rest (st.put d (.vptr b n (k * size)))) : X (⟨some d, .indexAddr t x i, ty, pos, af, none⟩ :: rest) st := by
  refine ao_val rfl rfl hd (fun _ _ M a hs => ?_) h
  have hv := hs.ev (by simp [Op.operands, Call.operands]) hx
  have hidx := (hs.ev (by simp [Op.operands, Call.operands]) hi).bool
  subst hk
  generalize he : a.eval x = u at hv
  cases hv with
  | vec hb ho hh =>
    have hM : M.H b = some (.vec E' size xs) := hs.H _ _ hH
    obtain ⟨h1, h2⟩ := hh E' size xs hM
    obtain ⟨v, n', cs, e1, e2, e3, e4, e5, e6⟩ := hs.sim.heap.vec b E' size xs hM
    rw [h2 hn] at e1; cases e1
    have hnn : n = n' := Nat.eq_of_mul_eq_mul_right e3 (by rw [← hn, e2])
    subst hnn
    rcases e4.2 with ⟨_, hn0⟩ | ⟨g, cap, cur, rfl, f1, f2, f3, f4, f5, f6⟩
    · omega
    · refine ⟨.pointer (some ⟨g, k * size, none⟩), ?_, .vptr hb rfl (fun E2 size2 l2 hl2 => ?_)⟩
      · simp only [execOp, he, hidx]
        have := run_indexAt I M.w g 0 n cap k kk hlt
        rw [Nat.zero_add] at this
        rw [Sem.run_bind, this]; rfl
      · rw [hM] at hl2
        simp only [Option.some.injEq, AB.vec.injEq] at hl2
        obtain ⟨rfl, rfl, rfl⟩ := hl2
        exact ⟨h1, fun _ => ⟨g, cap, h2 hn, rfl⟩⟩
theorem ao_load_f0 [W : Walk P X] {α : Type} {enc : α → List CV} {x : Operand} {t n size k : Nat} {l : List α} {r : α} {y : CV} {ys : List CV} [I : TyC P t false n] (hx : st.ev x = some (.eptr (l.flatMap enc) (k * size))) (J : EncL enc size) (hr : l[k]? = some r) (hy : enc r = y :: ys) (hd : Nat.blt d st.n = true) (h : X rest (st.put d (.c y))) : X (⟨some d, .load t x, ty, pos, af, none⟩ :: rest) st := by
  obtain ⟨hk, rfl⟩ := List.getElem?_eq_some_iff.1 hr
  exact ao_load_e hx (by rw [drop_at J l k hk, hy]; rfl) hd h
theorem ao_load_f [W : Walk P X] {α : Type} {enc : α → List CV} {x : Operand} {t n size k j : Nat} {l : List α} {r : α} {y : CV} {ys : List CV} [I : TyC P t false n] (hx : st.ev x = some (.eptr (l.flatMap enc) (k * size + j))) (J : EncL enc size) (hr : l[k]? = some r) (hj : Nat.ble j size = true) (hy : (enc r).drop j = y :: ys) (hd : Nat.blt d st.n = true) (h : X rest (st.put d (.c y))) : X (⟨some d, .load t x, ty, pos, af, none⟩ :: rest) st := by
  obtain ⟨hk, rfl⟩ := List.getElem?_eq_some_iff.1 hr
  exact ao_load_e hx (by rw [drop_atj J l k j hk (Nat.le_of_ble_eq_true hj), hy]; rfl) hd h
theorem ao_load_fa0 [W : Walk P X] {α : Type} {enc : α → List CV} {x : Operand} {t n size k : Nat} {l : List α} {r : α} {zs : List AV} [I : TyC P t true n] (hx : st.ev x = some (.eptr (l.flatMap enc) (k * size))) (J : EncL enc size) (hr : l[k]? = some r) (hn : Nat.beq n size = true) (hz : (enc r).map .c = zs) (hd : Nat.blt d st.n = true) (h : X rest (st.put d (.agg zs))) : X (⟨some d, .load t x, ty, pos, af, none⟩ :: rest) st := by
  obtain ⟨hk, rfl⟩ := List.getElem?_eq_some_iff.1 hr
  subst hz
  exact ao_load_ea (enc l[k]) hx (drop_at J l k hk) (by rw [J.len, beq_true hn]) hd h
theorem ao_load_fa [W : Walk P X] {α : Type} {enc : α → List CV} {x : Operand} {t n size k j : Nat} {l : List α} {r : α} {zs : List AV} [I : TyC P t true n] (hx : st.ev x = some (.eptr (l.flatMap enc) (k * size + j))) (J : EncL enc size) (hr : l[k]? = some r) (hj : Nat.ble (j + n) size = true) (hz : (((enc r).drop j).take n).map .c = zs) (hd : Nat.blt d st.n = true) (h : X rest (st.put d (.agg zs))) : X (⟨some d, .load t x, ty, pos, af, none⟩ :: rest) st := by
  obtain ⟨hk, rfl⟩ := List.getElem?_eq_some_iff.1 hr
  subst hz
  have hle := Nat.le_of_ble_eq_true hj
  refine ao_load_ea (((enc l[k]).drop j).take n) (ys := ((enc l[k]).drop j).drop n ++ (l.drop (k + 1)).flatMap enc) hx ?_ ?_ hd h
  · rw [drop_atj J l k j hk (by omega), ← List.append_assoc, List.take_append_drop]
  · rw [List.length_take, List.length_drop, J.len]; omega
theorem run_len {t E size bytes : Nat} (I : SlT P t E size bytes) (w : World) (ad : Option Addr) (n cap : Nat) (ty : TypeId) : (Builtin.len_ #[t] ty #[.slice ad n cap]).run P w = .ok (.int .i64 (n : Int)) w := by
  obtain ⟨i, z, h1, h2, h3, h4, h5, h6⟩ := I.out
  simp [Builtin.len_, run_underlying h1, goInt]
theorem ex_len {t E size bytes : Nat} (I : SlT P t E size bytes) {a : Act} {w : World} {ad : Option Addr} {n cap : Nat} {x : Operand} {dst : Option Tmp} (hx : a.eval x = .slice ad n cap) : (execOp a.eval ⟨dst, .call ⟨.builtin .len, #[x], #[t]⟩, ty, pos, af, none⟩).run P w = .ok (.value (.int .i64 (n : Int))) w := by
  simp only [execOp, resolve, List.map_toArray, List.map_cons, List.map_nil, hx]
  simp [invoke, builtin, run_len I w ad n cap]
theorem ao_len_f [W : Walk P X] {α : Type} {enc : α → List CV} {x : Operand} {t E size bytes : Nat} [I : SlT P t E size bytes] {l : List α} (hx : st.ev x = some (.c (.lst size (l.flatMap enc)))) (J : EncL enc size) (hd : Nat.blt d st.n = true) (h : X rest (st.put d (.c (.v (.int .i64 (l.length : Int)))))) : X (⟨some d, .call ⟨.builtin .len, #[x], #[t]⟩, ty, pos, af, none⟩ :: rest) st := by
  refine ao_val rfl rfl hd (fun _ _ M a hs => ?_) h
  have hv := hs.ev (by simp [Op.operands, Call.operands]) hx
  generalize hxs : l.flatMap enc = xs at hv
  have hlen := flat_len J.len l
  rw [hxs] at hlen
  generalize he : a.eval x = u at hv
  cases hv with
  | c hv =>
    cases hv with
    | nil =>
      have h0 : l.length = 0 := by
        simp only [List.length_nil] at hlen
        rcases Nat.mul_eq_zero.1 hlen.symm with h | h
        · exact h
        · exact absurd h (by have := J.pos; omega)
      exact ⟨_, ex_len I he, by rw [h0]; exact .c (.v _)⟩
    | lst cs hn hc hF hcell hr =>
      rename_i n cap
      have : n = l.length := Nat.eq_of_mul_eq_mul_right J.pos (by rw [← hn, hlen])
      subst this
      exact ⟨_, ex_len I he, .c (.v _)⟩
end
end Go.Proofs.YtkhljpbkebnnmaaGreatDoor.Ev
/- Rules of a walk over abstract states: structs, new lists, appends. Nothing here names a program. -/
namespace Go.Proofs.YtkhljpbkebnnmaaGreatDoor.Ev
set_option linter.unusedVariables false
set_option linter.unusedSimpArgs false
open Go.RowKit
def fieldVB (P : Program) (s i : Nat) : Option (Nat × Bool × Nat) :=
  match P.underlying s with
  | some (.struct fs) => match fs[i]? with
    | some f => match tyB P f.type with
      | some (ag, n) => some (f.offset, ag, n)
      | none => none
    | none => none
  | _ => none
class FieldV (P : Program) (s i : Nat) (off : outParam Nat) (ag : outParam Bool) (n : outParam Nat) : Prop where
  h : fieldVB P s i = some (off, ag, n)
def strB (P : Program) (t : Nat) : Option (List (Nat × Nat) × List Value) :=
  match P.info? t, P.underlying t with
  | some it, some (.struct fields) => match it.zero, fields.toList.mapM (fun f => (P.info? f.type).map fun i => (f.offset, i.size)) with
    | some z, some places => some (places, z.cells.toList)
    | _, _ => none
  | _, _ => none
class StrT (P : Program) (t : Nat) (pl : outParam (List (Nat × Nat))) (zs : outParam (List Value)) : Prop where
  h : strB P t = some (pl, zs)
def AV.cellsA : AV → List AV
  | .agg xs => xs
  | y => [y]
def AV.okP : AV → Bool
  | .agg _ => true
  | y => y.cellB
def fillA (pl : List (Nat × Nat)) (cells : List AV) : List (Nat × AV) → Option (List AV)
  | [] => some cells
  | (i, y) :: rest => match pl[i]? with
    | none => none
    | some (off, size) => bif Nat.beq y.cellsA.length size && Nat.ble (off + size) cells.length && y.okP then fillA pl (splice cells y.cellsA off) rest else none
theorem cellsA_ra {M : Wd} {y : AV} {u : Value} (h : RA M y u) (hc : y.okP = true) : y.cellsA.length = u.cells.size ∧ ∀ (i : Nat) (z : AV) (v : Value), y.cellsA[i]? = some z → u.cells[i]? = some v → RA M z v := by
  by_cases hy : ∃ xs, y = .agg xs
  · obtain ⟨xs, rfl⟩ := hy
    cases h with
    | agg hl hh => exact ⟨hl, hh⟩
  · have h1 : y.cellB = true := by
      cases y <;> first | exact hc | exact absurd ⟨_, rfl⟩ hy
    have h2 : y.cellsA = [y] := by
      cases y <;> first | rfl | exact absurd ⟨_, rfl⟩ hy
    rw [h2, cells_one (h.one h1)]
    refine ⟨rfl, fun i z v hz hv => ?_⟩
    cases i with
    | zero => simp at hz hv; subst hz; subst hv; exact h
    | succ i => simp at hz
theorem fold_set : ∀ (vs : List Value) (k off : Nat) (cells : Array Value), off + k + vs.length ≤ cells.size →
    ((vs.zipIdx k).foldl (fun (cs : Array Value) (x : Value × Nat) => cs.setIfInBounds (off + x.2) x.1) cells).toList = cells.toList.take (off + k) ++ vs ++ cells.toList.drop (off + k + vs.length)
  | [], k, off, cells, _ => by simp
  | v :: vs, k, off, cells, h => by
    simp only [List.zipIdx_cons, List.foldl_cons]
    rw [fold_set vs (k + 1) off _ (by simp at h ⊢; omega)]
    simp only [List.length_cons] at h ⊢
    simp only [Array.toList_setIfInBounds]
    have hlt : off + k < cells.toList.length := by simp; omega
    rw [show off + (k + 1) = (off + k) + 1 by omega, List.take_set, List.drop_set_of_lt (by omega), List.take_succ_eq_append_getElem hlt, List.set_append_right _ _ (by simp; omega)]
    simp only [List.length_take, Nat.min_eq_left (Nat.le_of_lt hlt), Nat.sub_self, List.set_cons_zero, List.append_assoc, List.singleton_append]
    congr 3
    omega
theorem fill_sound {M : Wd} (pl : List (Nat × Nat)) : ∀ (parts : List (Nat × AV)) (cells : List AV) (arr : Array Value) (vals : List (Nat × Value)) (out : List AV), fillA pl cells parts = some out → cells.length = arr.size → (∀ (i : Nat) (x : AV) (u : Value), cells[i]? = some x → arr[i]? = some u → RA M x u) →
    parts.length = vals.length → (∀ (i : Nat) (p : Nat × AV) (q : Nat × Value), parts[i]? = some p → vals[i]? = some q → p.1 = q.1 ∧ RA M p.2 q.2) →
    ∃ res, Instr.fill (pl.toArray[·]?) arr vals = some res ∧ out.length = res.size ∧ ∀ (i : Nat) (x : AV) (u : Value), out[i]? = some x → res[i]? = some u → RA M x u
  | [], cells, arr, vals, out, h, hl, hr, hp, _ => by
    simp only [fillA, Option.some.injEq] at h; subst h
    have : vals = [] := List.eq_nil_of_length_eq_zero (by simpa using hp.symm)
    subst this
    exact ⟨arr, rfl, hl, hr⟩
  | (i, y) :: parts, cells, arr, vals, out, h, hl, hr, hp, hpr => by
    match vals, hp with
    | (j, v) :: vals, hp =>
      obtain ⟨h1, h2⟩ := hpr 0 (i, y) (j, v) rfl rfl
      dsimp only at h1 h2; subst h1
      simp only [fillA] at h
      cases hpl : pl[i]? with
      | none => rw [hpl] at h; cases h
      | some os =>
        obtain ⟨off, size⟩ := os
        rw [hpl] at h
        dsimp only at h
        cases hb : (Nat.beq y.cellsA.length size && Nat.ble (off + size) cells.length && y.okP) with
        | false => rw [hb] at h; cases h
        | true =>
          rw [hb] at h
          simp only [cond_true] at h
          simp only [Bool.and_eq_true] at hb
          obtain ⟨⟨b1, b2⟩, b3⟩ := hb
          have b1 := beq_true b1
          have b2 := Nat.le_of_ble_eq_true b2
          obtain ⟨c1, c2⟩ := cellsA_ra h2 b3
          have hvs : v.cells.toList.length = size := by simp; omega
          have hfs := fold_set v.cells.toList 0 off arr (by simp; omega)
          have hfold : (v.cells.zipIdx.foldl (fun (cs : Array Value) (x : Value × Nat) => cs.setIfInBounds (off + x.2) x.1) arr).toList = arr.toList.take off ++ v.cells.toList ++ arr.toList.drop (off + size) := by
            rw [← Array.foldl_toList, Array.toList_zipIdx, hfs, hvs, Nat.add_zero]
          generalize hA : v.cells.zipIdx.foldl (fun (cs : Array Value) (x : Value × Nat) => cs.setIfInBounds (off + x.2) x.1) arr = A at hfold
          have hsz : A.size = arr.size := by
            have := congrArg List.length hfold
            simp only [Array.length_toList, List.length_append, List.length_take, List.length_drop] at this
            simp only [Array.length_toList] at hvs
            omega
          obtain ⟨res, e1, e2, e3⟩ := fill_sound pl parts (splice cells y.cellsA off) A vals out h (by rw [hsz, splice]; simp; omega) (fun k x u hx hu => by
            rw [splice, aget_splice cells y.cellsA off y.cellsA.length k rfl (by omega)] at hx
            rw [← Array.getElem?_toList, hfold, aget_splice arr.toList v.cells.toList off size k hvs (by simp; omega)] at hu
            rw [b1] at hx
            split at hx
            · rename_i g1; rw [if_pos g1] at hu; exact hr k x u hx (by simpa using hu)
            · rename_i g1; rw [if_neg g1] at hu
              split at hx
              · rename_i g2; rw [if_pos g2] at hu; exact c2 _ x u hx (by simpa using hu)
              · rename_i g2; rw [if_neg g2] at hu; exact hr k x u hx (by simpa using hu)) (by simpa using hp) (fun k p q hp' hq' => hpr (k + 1) p q (by simpa using hp') (by simpa using hq'))
          refine ⟨res, ?_, e2, e3⟩
          simp only [Instr.fill]
          rw [List.getElem?_toArray, hpl]
          dsimp only
          rw [if_neg (by simp; omega), hA]
          exact e1
def evp (st : St) : List (Nat × Operand) → Option (List (Nat × AV))
  | [] => some []
  | (i, x) :: l => match st.ev x, evp st l with | some y, some ys => some ((i, y) :: ys) | _, _ => none
theorem evp_get {st : St} : ∀ {l : List (Nat × Operand)} {ys : List (Nat × AV)}, evp st l = some ys → ys.length = l.length ∧ ∀ (k : Nat) (p : Nat × AV) (q : Nat × Operand), ys[k]? = some p → l[k]? = some q → p.1 = q.1 ∧ st.ev q.2 = some p.2
  | [], ys, h => by simp only [evp, Option.some.injEq] at h; subst h; exact ⟨rfl, fun k p q h => by simp at h⟩
  | (i, x) :: l, ys, h => by
    simp only [evp] at h
    split at h
    · rename_i y ys' h1 h2
      simp only [Option.some.injEq] at h; subst h
      obtain ⟨e1, e2⟩ := evp_get h2
      refine ⟨by simp [e1], fun k p q h3 h4 => ?_⟩
      cases k with
      | zero => simp at h3 h4; subst h3; subst h4; exact ⟨rfl, h1⟩
      | succ k => exact e2 k p q (by simpa using h3) (by simpa using h4)
    · cases h
section
variable {P : Program} {ops : Array Oper} {Q : Exit → St → Prop} {X : List Oper → St → Prop} {rest : List Oper} {st : St} {d : Nat} {ty : TypeId} {pos : String} {af : Array Edge}
theorem ao_build [W : Walk P X] {t : TypeId} {parts : List (Nat × Operand)} {pl : List (Nat × Nat)} {zs : List Value} {ps : List (Nat × AV)} {out : List AV} [I : StrT P t pl zs] (hp : evp st parts = some ps) (hf : fillA pl (zs.map fun z => .c (.v z)) ps = some out) (hd : Nat.blt d st.n = true) (h : X rest (st.put d (.agg out))) : X (⟨some d, .build t parts.toArray, ty, pos, af, none⟩ :: rest) st := by
  refine ao_val rfl rfl hd (fun _ _ M a hs => ?_) h
  have hI := I.h
  unfold strB at hI
  split at hI
  · rename_i it fields hi hu
    split at hI
    · rename_i z places hz hpl
      simp only [Option.some.injEq, Prod.mk.injEq] at hI
      obtain ⟨rfl, rfl⟩ := hI
      obtain ⟨e1, e2⟩ := evp_get hp
      obtain ⟨res, f1, f2, f3⟩ := fill_sound (M := M) places ps _ z.cells (parts.map fun q => (q.1, a.eval q.2)) out hf (by simp) (fun i x u hx hu' => by
        simp only [List.getElem?_map, Array.getElem?_toList, hu', Option.map_some, Option.some.injEq] at hx
        subst hx; exact .c (.v _)) (by simp [e1]) (fun i p q hp' hq' => by
          obtain ⟨q0, h1, rfl⟩ : ∃ q0, parts[i]? = some q0 ∧ (q0.1, a.eval q0.2) = q := by simpa using hq'
          obtain ⟨h2, h3⟩ := e2 i p q0 hp' h1
          exact ⟨h2, hs.ev (by simp only [Op.operands]; simp; exact ⟨q0.1, List.mem_of_getElem? h1⟩) h3⟩)
      refine ⟨.agg res, ?_, .agg f2 f3⟩
      simp only [execOp]
      rw [Sem.run_bind, run_build M.w t _ res (by simp only [Program.built, hi, hu, hz, hpl, List.map_toArray]; exact f1)]; rfl
    · cases hI
  · cases hI
theorem ao_fieldv_s [W : Walk P X] {x : Operand} {s i off n : Nat} {xs : List AV} {y : AV} [I : FieldV P s i off false n] (hx : st.ev x = some (.agg xs)) (hy : xs[off]? = some y) (hd : Nat.blt d st.n = true) (h : X rest (st.put d y)) : X (⟨some d, .field s x i, ty, pos, af, none⟩ :: rest) st := by
  refine ao_val rfl rfl hd (fun _ _ M a hs => ?_) h
  have hv := hs.ev (by simp [Op.operands, Call.operands]) hx
  have hI := I.h
  unfold fieldVB at hI
  split at hI
  · rename_i fs hu
    split at hI
    · rename_i f hf
      split at hI
      · rename_i ag n' ht
        simp only [Option.some.injEq, Prod.mk.injEq] at hI
        obtain ⟨rfl, rfl, rfl⟩ := hI
        obtain ⟨dd, ii, g1, g2, g3, g4⟩ := TyC.out (P := P) ⟨ht⟩
        generalize he : a.eval x = u at hv
        cases hv with
        | agg hl hh =>
          rename_i vs
          have hlt : f.offset < vs.size := by rw [← hl]; exact (List.getElem?_eq_some_iff.1 hy).1
          refine ⟨vs[f.offset], ?_, hh _ y _ hy (by simp [hlt])⟩
          have hagg : (isAgg f.type).run P M.w = .ok false M.w := by
            unfold isAgg
            rw [Sem.run_bind, run_underlying g1 M.w]
            cases dd <;> simp_all
          simp only [execOp, he]
          simp [Instr.field, run_underlying hu, hf, asAgg, part, hagg, hlt]
      · cases hI
    · cases hI
  · cases hI
end
end Go.Proofs.YtkhljpbkebnnmaaGreatDoor.Ev
/- Rules of a walk over abstract states: regions that draw their order. Nothing here names a program. -/
namespace Go.Proofs.YtkhljpbkebnnmaaGreatDoor.Ev
set_option linter.unusedVariables false
set_option linter.unusedSimpArgs false
open Go.RowKit
structure StEq (s t : St) : Prop where
  n : s.n = t.n
  heap : s.heap = t.heap
  nx : s.nx = t.nx
  gl : s.gl = t.gl
  env : ∀ i, look i s.env = look i t.env
theorem StEq.symm {s t : St} (h : StEq s t) : StEq t s := ⟨h.n.symm, h.heap.symm, h.nx.symm, h.gl.symm, fun i => (h.env i).symm⟩
theorem StEq.put {s t : St} (h : StEq s t) (d : Nat) (y : AV) : StEq (s.put d y) (t.put d y) :=
  ⟨h.n, h.heap, h.nx, h.gl, fun i => by simp only [St.put, look_cons]; rw [h.env i]⟩
theorem StEq.comm (s : St) {d d' : Nat} (hne : d ≠ d') (y y' : AV) : StEq ((s.put d y).put d' y') ((s.put d' y').put d y) :=
  ⟨rfl, rfl, rfl, rfl, fun i => by
    simp only [St.put, look_cons]
    by_cases h1 : d' = i
    · subst h1; rw [if_pos rfl, if_neg hne, if_pos rfl]
    · rw [if_neg h1]; by_cases h2 : d = i
      · rw [if_pos h2, if_pos h2]
      · rw [if_neg h2, if_neg h2, if_neg h1]⟩
theorem StEq.H {s t : St} (h : StEq s t) : s.H = t.H := by unfold St.H; rw [h.heap]
theorem StEq.ev {s t : St} (h : StEq s t) (x : Operand) : s.ev x = t.ev x := by
  cases x with
  | tmp i => exact h.env i
  | const v => rfl
  | global g => simp only [St.ev, h.gl]
  | func f => rfl
theorem StEq.sim {s t : St} (h : StEq s t) {base : Nat} {w0 : W0} {M : Wd} {a : Act} (hs : Sim base w0 s M a) : Sim base w0 t M a :=
  ⟨hs.H.trans h.H, hs.nx.trans h.nx, hs.n.trans h.n, fun i x hx => hs.env i x (by rw [h.env i]; exact hx), fun g xs hg => hs.gl g xs (by rw [h.gl]; exact hg), hs.heap, hs.below, hs.base, hs.defs, hs.old⟩
section
variable {P : Program} {ops : Array Oper}
theorem QStep.up {o : Oper} {s t : St} {y : AV} (h : QStep P o s y) (hH : ∀ b x, s.H b = some x → t.H b = some x) (hg : s.gl = t.gl) (hev : ∀ x ∈ o.op.operands, s.ev x = t.ev x) : QStep P o t y :=
  fun base w0 M a hs => h base w0 M a ⟨⟨fun b x hx => hs.sim.H b x (hH b x hx), fun g xs hx => hs.sim.gl g xs (by rw [← hg]; exact hx), hs.sim.heap⟩, fun x hm z hz => hs.ops x hm z (by rw [← hev x hm]; exact hz)⟩
theorem QStep.of {o : Oper} {s t : St} {y : AV} (h : QStep P o s y) (hh : s.heap = t.heap) (hg : s.gl = t.gl) (hev : ∀ x ∈ o.op.operands, s.ev x = t.ev x) : QStep P o t y :=
  h.up (fun b x hx => by unfold St.H at *; rw [← hh]; exact hx) hg hev
theorem upon_guard {dst : Option Tmp} {op : Op} {ty : TypeId} {pos : String} {af : Array Edge} {g g' : Option (Nat × Bool)} {a : Act} {K : Act → World → Prop} {Q : Exit → Act → World → Prop} {r : Result Next} (h : Oper.upon P ⟨dst, op, ty, pos, af, g⟩ a K Q r) : Oper.upon P ⟨dst, op, ty, pos, af, g'⟩ a K Q r := by
  cases r with
  | ok n w' => cases n <;> exact h
  | halt x w' => cases x <;> exact h
theorem QStep.guard {dst : Option Tmp} {op : Op} {ty : TypeId} {pos : String} {af : Array Edge} {g g' : Option (Nat × Bool)} {st : St} {y : AV} (q : QStep P ⟨dst, op, ty, pos, af, g⟩ st y) : QStep P ⟨dst, op, ty, pos, af, g'⟩ st y :=
  fun base w0 M a hs K Q hK => upon_guard (q base w0 M a ⟨hs.sim, hs.ops⟩ K Q hK)
def DY (P : Program) (ops : Array Oper) (o : Oper) (st : St) (d : Nat) (y : AV) : Prop :=
  o.dst = some d ∧ Nat.blt d st.n = true ∧
  ((o.guard = none ∧ QStep P o st y) ∨
   (∃ j want t b, o.guard = some (j, want) ∧ (ops[j]?).bind (·.dst) = some t ∧ look t st.env = some (.c (.v (.bool b))) ∧ ((b = want ∧ QStep P o st y) ∨ (b ≠ want ∧ y = .c (.v undef)))) ∨
   (∃ j want t, o.guard = some (j, want) ∧ (ops[j]?).bind (·.dst) = some t ∧ look t st.env = some (.c (.v undef)) ∧ y = .c (.v undef)))
theorem DY.of {o : Oper} {s t : St} {d : Nat} {y : AV} (h : DY P ops o s d y) (hn : s.n = t.n) (hh : ∀ b x, s.H b = some x → t.H b = some x) (hg : s.gl = t.gl) (hev : ∀ x ∈ o.op.operands, s.ev x = t.ev x)
    (hgd : ∀ j want q, o.guard = some (j, want) → (ops[j]?).bind (·.dst) = some q → look q s.env = look q t.env) : DY P ops o t d y := by
  obtain ⟨h1, h2, h3⟩ := h
  refine ⟨h1, by rw [← hn]; exact h2, ?_⟩
  rcases h3 with ⟨g, q⟩ | ⟨j, want, q, b, g1, g2, g3, g4⟩ | ⟨j, want, q, g1, g2, g3, g4⟩
  · exact .inl ⟨g, q.up hh hg hev⟩
  · refine .inr (.inl ⟨j, want, q, b, g1, g2, by rw [← hgd j want q g1 g2]; exact g3, ?_⟩)
    exact g4.imp (fun ⟨e, q⟩ => ⟨e, q.up hh hg hev⟩) id
  · exact .inr (.inr ⟨j, want, q, g1, g2, by rw [← hgd j want q g1 g2]; exact g3, g4⟩)
theorem DY.eq {o : Oper} {s t : St} {d : Nat} {y : AV} (h : DY P ops o s d y) (e : StEq s t) : DY P ops o t d y :=
  h.of e.n (fun b x hx => by rw [← e.H]; exact hx) e.gl (fun x _ => e.ev x) (fun _ _ q _ _ => e.env q)
theorem ev_put {s : St} {d : Nat} {y : AV} {x : Operand} (h : x ≠ .tmp d) : (s.put d y).ev x = s.ev x := by
  cases x with
  | tmp i =>
    simp only [St.ev, St.put, look_cons]
    rw [if_neg (fun e => h (by rw [e]))]
  | _ => rfl
theorem looks_ne {o : Oper} {d : Nat} (h : d ∉ o.looksAt ops) : (∀ x ∈ o.op.operands, x ≠ .tmp d) ∧ ∀ j want q, o.guard = some (j, want) → (ops[j]?).bind (·.dst) = some q → q ≠ d := by
  refine ⟨fun x hx e => h ?_, fun j want q hg hq e => h ?_⟩
  · subst e
    exact List.mem_append_left _ (List.mem_filterMap.2 ⟨.tmp d, by simpa using hx, rfl⟩)
  · subst e
    refine List.mem_append_right _ ?_
    rw [hg]; dsimp only; rw [hq]; simp
theorem DY.put {o : Oper} {s : St} {d : Nat} {y : AV} (h : DY P ops o s d y) {d' : Nat} (y' : AV) (hl : d' ∉ o.looksAt ops) : DY P ops o (s.put d' y') d y := by
  obtain ⟨h1, h2⟩ := looks_ne hl
  refine h.of rfl (fun _ _ hx => hx) rfl (fun x hx => (ev_put (h1 x hx)).symm) (fun j want q hg hq => ?_)
  simp only [St.put, look_cons]; rw [if_neg (Ne.symm (h2 j want q hg hq))]
theorem DY.unput {o : Oper} {s : St} {d : Nat} {y : AV} {d' : Nat} {y' : AV} (h : DY P ops o (s.put d' y') d y) (hl : d' ∉ o.looksAt ops) : DY P ops o s d y := by
  obtain ⟨h1, h2⟩ := looks_ne hl
  refine h.of rfl (fun _ _ hx => hx) rfl (fun x hx => ev_put (h1 x hx)) (fun j want q hg hq => ?_)
  simp only [St.put, look_cons]; rw [if_neg (Ne.symm (h2 j want q hg hq))]
def DSeq (P : Program) (ops : Array Oper) (L : St → Prop) : List Oper → St → Prop
  | [], st => L st
  | o :: rest, st => ∃ d y, DY P ops o st d y ∧ DSeq P ops L rest (st.put d y)
instance {L : St → Prop} : Walk P (DSeq P ops L) where
  step := fun hg hdst hd hq h => ⟨_, _, ⟨hdst, hd, .inl ⟨hg, hq⟩⟩, h⟩
theorem ds_nil {L : St → Prop} {st : St} (h : L st) : DSeq P ops L [] st := h
theorem ds_guard_t {L : St → Prop} {rest : List Oper} {st : St} {dst : Option Tmp} {op : Op} {ty : TypeId} {pos : String} {af : Array Edge} {j t : Nat} {want b : Bool} (hj : (ops[j]?).bind (·.dst) = some t) (hb : look t st.env = some (.c (.v (.bool b)))) (hw : b = want)
    (h : DSeq P ops L (⟨dst, op, ty, pos, af, none⟩ :: rest) st) : DSeq P ops L (⟨dst, op, ty, pos, af, some (j, want)⟩ :: rest) st := by
  obtain ⟨d, y, ⟨h1, h2, h3⟩, h4⟩ := h
  refine ⟨d, y, ⟨h1, h2, .inr (.inl ⟨j, want, t, b, rfl, hj, hb, .inl ⟨hw, ?_⟩⟩)⟩, h4⟩
  rcases h3 with ⟨_, q⟩ | ⟨_, _, _, _, g, _⟩ | ⟨_, _, _, g, _⟩
  · exact q.guard
  · cases g
  · cases g
theorem ds_guard_f {L : St → Prop} {rest : List Oper} {st : St} {d : Nat} {op : Op} {ty : TypeId} {pos : String} {af : Array Edge} {j t : Nat} {want b : Bool} (hj : (ops[j]?).bind (·.dst) = some t) (hb : look t st.env = some (.c (.v (.bool b)))) (hw : b = !want) (hd : Nat.blt d st.n = true)
    (h : DSeq P ops L rest (st.put d (.c (.v undef)))) : DSeq P ops L (⟨some d, op, ty, pos, af, some (j, want)⟩ :: rest) st :=
  ⟨d, _, ⟨rfl, hd, .inr (.inl ⟨j, want, t, b, rfl, hj, hb, .inr ⟨by rw [hw]; cases want <;> simp, rfl⟩⟩)⟩, h⟩
theorem ds_guard {L : St → Prop} {rest : List Oper} {st : St} {d : Nat} {op : Op} {ty : TypeId} {pos : String} {af : Array Edge} {j t : Nat} {want b : Bool} (hj : (ops[j]?).bind (·.dst) = some t) (hb : look t st.env = some (.c (.v (.bool b)))) (hd : Nat.blt d st.n = true)
    (h : b = want → DSeq P ops L (⟨some d, op, ty, pos, af, none⟩ :: rest) st) (h' : b = !want → DSeq P ops L rest (st.put d (.c (.v undef)))) : DSeq P ops L (⟨some d, op, ty, pos, af, some (j, want)⟩ :: rest) st := by
  by_cases hw : b = want
  · exact ds_guard_t hj hb hw (h hw)
  · have hw' : b = !want := by cases b <;> cases want <;> simp_all
    exact ds_guard_f hj hb hw' hd (h' hw')
def DAny (P : Program) (md : Region.Mode) (ops : Array Oper) (n : Nat) (L : Array Bool → St → Prop) : Nat → Array Bool → St → Prop
  | 0, listed, st => L listed st
  | f + 1, listed, st => Region.ready md ops listed ≠ [] ∧ ∀ i ∈ Region.ready md ops listed, i < n ∧ ∃ o d y, ops[i]? = some o ∧ DY P ops o st d y ∧ DAny P md ops n L f (listed.setIfInBounds i true) (st.put d y)
variable {md : Region.Mode} {n : Nat} {L : Array Bool → St → Prop}
theorem DAny.eq (hL : ∀ listed s t, StEq s t → L listed s → L listed t) : ∀ (f : Nat) (listed : Array Bool) (s t : St), StEq s t → DAny P md ops n L f listed s → DAny P md ops n L f listed t
  | 0, listed, s, t, e, h => hL listed s t e h
  | f + 1, listed, s, t, e, h => ⟨h.1, fun i hi => by
    obtain ⟨h1, o, d, y, h2, h3, h4⟩ := h.2 i hi
    exact ⟨h1, o, d, y, h2, h3.eq e, DAny.eq hL f _ _ _ (e.put d y) h4⟩⟩
theorem DAny_first {i : Nat} {oi : Oper} (hi : ops[i]? = some oi) (hin : i < n) (hL : ∀ listed s t, StEq s t → L listed s → L listed t) (hdone : ∀ listed st, L listed st → ∀ j ∈ Region.ready md ops listed, n ≤ j)
    (htail : ∀ listed, HeadInv md ops n listed → ∀ i, i < n → listed.getD i true = false → ∀ t, n ≤ t → t ∉ Region.ready md ops listed) :
    ∀ (f : Nat) (listed : Array Bool) (st : St) (d : Nat) (y : AV), HeadInv md ops n listed →
      (∀ j oj, ops[j]? = some oj → j ≠ i → listed.getD j true = false → (∀ e ∈ oj.after, Region.binds md e = true → e.on ≠ i) → oi.apart ops oj = true) →
      i ∈ Region.ready md ops listed → DY P ops oi st d y → DAny P md ops n L f (listed.setIfInBounds i true) (st.put d y) → DAny P md ops n L (f + 1) listed st := by
  intro f
  induction f with
  | zero =>
    intro listed st d y inv hfree hr hy H
    refine ⟨fun h0 => (by rw [h0] at hr; cases hr), fun j hj => ?_⟩
    have hjn : j < n := Nat.lt_of_not_le fun hc => htail listed inv i hin (mem_ready.1 hr).1 j hc hj
    by_cases hji : j = i
    · subst hji; exact ⟨hjn, oi, d, y, hi, hy, H⟩
    · have := hdone _ _ H j (ready_mono hj hji)
      omega
  | succ f ih =>
    intro listed st d y inv hfree hr hy H
    refine ⟨fun h0 => (by rw [h0] at hr; cases hr), fun j hj => ?_⟩
    have hjn : j < n := Nat.lt_of_not_le fun hc => htail listed inv i hin (mem_ready.1 hr).1 j hc hj
    by_cases hji : j = i
    · subst hji; exact ⟨hjn, oi, d, y, hi, hy, H⟩
    · obtain ⟨_, oj, dj, yj, h2, h3, h4⟩ := H.2 j (ready_mono hj hji)
      obtain ⟨hjun, oj', hoj, hall⟩ := mem_ready.1 hj
      have hoo : oj' = oj := Option.some.inj (hoj.symm.trans h2)
      subst hoo
      have hnot : ∀ e ∈ oj'.after, Region.binds md e = true → e.on ≠ i := fun e he hb heq => by
        have h1 := hall e he hb
        have h0 := getD_both (mem_ready.1 hr).1
        rw [heq, h0] at h1
        cases h1
      obtain ⟨a1, a2, a3⟩ := Oper.apart_spec (hfree j oj' hoj hji hjun hnot)
      have hdi : oi.dst = some d := hy.1
      have hdj : oj'.dst = some dj := h3.1
      have hne : d ≠ dj := fun e => a2 d hdi (by rw [hdj, e])
      have h3' := h3.unput (a1 d hdi)
      refine ⟨hjn, oj', dj, yj, h2, h3', ?_⟩
      have hfree' : ∀ k ok, ops[k]? = some ok → k ≠ i → (listed.setIfInBounds j true).getD k true = false → (∀ e ∈ ok.after, Region.binds md e = true → e.on ≠ i) → oi.apart ops ok = true := fun k ok hk hki hun hno => by
        refine hfree k ok hk hki ?_ hno
        by_cases hjk : j = k
        · subst hjk; exact hjun
        · rw [getD_set_ne true hjk] at hun; exact hun
      refine ih (listed.setIfInBounds j true) (st.put dj yj) d y (inv.set hj hjn) hfree' (ready_mono hr (Ne.symm hji)) (hy.put yj (a3 dj hdj)) ?_
      rw [Array.setIfInBounds_comm _ _ hji]
      exact DAny.eq hL f _ _ _ (StEq.comm st hne y yj) h4
theorem DAny_lex {g : Nat} {Lq : St → Prop} (hLq : ∀ s t, StEq s t → Lq s → Lq t)
    (htail : ∀ listed, HeadInv md ops n listed → ∀ i, i < n → listed.getD i true = false → ∀ t, n ≤ t → t ∉ Region.ready md ops listed) :
    ∀ (l : List Oper) (k : Nat) (listed : Array Bool) (st : St), (∀ j, j < l.length → l[j]? = ops[k + j]?) → k + l.length = n → HeadInv md ops n listed →
    Region.lexHead md ops g l.length k listed = true → DSeq P ops Lq l st → DAny P md ops n (fun listed' st' => Region.seqB md ops g n listed' = true ∧ Lq st') l.length listed st
  | [], k, listed, st, _, hk, _, hB, h => by
    have : k = n := by simpa using hk
    subst this
    exact ⟨by simpa [Region.lexHead] using hB, h⟩
  | o :: l, k, listed, st, hl, hk, inv, hB, h => by
    have h0 : ops[k]? = some o := by simpa using (hl 0 (by simp)).symm
    simp only [List.length_cons, Region.lexHead, Bool.and_eq_true] at hB
    obtain ⟨⟨hr, hf⟩, hB'⟩ := hB
    have hkn : k < n := by simp only [List.length_cons] at hk; omega
    have hr' : k ∈ Region.ready md ops listed := by simpa using hr
    obtain ⟨d, y, hy, hK⟩ := h
    exact DAny_first h0 hkn (fun listed s t e hh => ⟨hh.1, hLq s t e hh.2⟩) (fun listed' st' hL => seqB_ready hL.1) htail l.length listed st d y inv (Region.free_spec h0 hf) hr' hy
      (DAny_lex hLq htail l (k + 1) _ _ (fun j hj => by have := hl (j + 1) (by simp; omega); simpa [Nat.add_assoc, Nat.add_comm 1 j] using this) (by simp only [List.length_cons] at hk; omega) (inv.set hr' hkn) hB' hK)
theorem DY.wp {base : Nat} {w0 : W0} {st : St} {M : Wd} {a : Act} {i : Nat} {o : Oper} {d : Nat} {y : AV} {K : Act → World → Prop} {Q' : Exit → Act → World → Prop} (hi : ops[i]? = some o) (h : DY P ops o st d y) (hs : Sim base w0 st M a)
    (hK : ∀ M' a', Ext M M' → Sim base w0 (st.put d y) M' a' → K a' M'.w) : wpOp P ops Q' i K a M.w := by
  obtain ⟨h1, h2, h3⟩ := h
  have run : QStep P o st y → o.wp P a M.w K Q' := fun q => q base w0 M a (hs.toO o) K Q' fun u M' hext hsim hu => hK M' _ hext (by rw [h1]; exact (hsim st hs).put h2 hu)
  have skip : y = .c (.v undef) → K (a.put o.dst undef) M.w := fun hy => hK M _ (Ext.refl M) (by rw [h1]; subst hy; exact hs.put h2 (.c (.v undef)))
  unfold wpOp
  simp only [hi]
  rcases h3 with ⟨g, q⟩ | ⟨j, want, t, b, g1, g2, g3, g4⟩ | ⟨j, want, t, g1, g2, g3, g4⟩
  · rw [if_pos (by simp [Region.wanted, g])]
    exact .inl (run q)
  · obtain ⟨v, e1, e2⟩ := hs.env t _ g3
    have e3 := e2.bool
    subst e3
    have hy : yielded ops a.tmps j = some b := by unfold yielded; rw [g2]; simp [e1]
    rcases g4 with ⟨hb, q⟩ | ⟨hb, q⟩
    · rw [if_pos (by simp [Region.wanted, g1, hy, hb])]
      exact .inl (run q)
    · rw [if_neg (by simp [Region.wanted, g1, hy, hb])]
      exact skip q
  · obtain ⟨v, e1, e2⟩ := hs.env t _ g3
    have e3 := e2.bool
    subst e3
    have hy : yielded ops a.tmps j = none := by unfold yielded; rw [g2]; simp [e1, undef]
    rw [if_neg (by simp [Region.wanted, g1, hy])]
    exact skip g4
theorem wpAny_of_DAny {base : Nat} {w0 : W0} {M0 : Wd} {Q : Exit → St → Prop} {g : Nat} (hL : ∀ listed st M a, L listed st → Sim base w0 st M a → Ext M0 M → wpAny P md ops (Lift base w0 M0 Q) g listed a M.w) :
    ∀ (f : Nat) (listed : Array Bool) (st : St) (M : Wd) (a : Act), Sim base w0 st M a → Ext M0 M → DAny P md ops n L f listed st → wpAny P md ops (Lift base w0 M0 Q) (f + g) listed a M.w
  | 0, listed, st, M, a, hs, he, h => by rw [Nat.zero_add]; exact hL _ _ _ _ h hs he
  | f + 1, listed, st, M, a, hs, he, h => by
    rw [show f + 1 + g = (f + g) + 1 by omega]
    refine ⟨fun h0 => absurd h0 h.1, fun i hi => ?_⟩
    obtain ⟨_, o, d, y, h1, h2, h3⟩ := h.2 i hi
    exact h2.wp h1 hs fun M' a' hext hs' => wpAny_of_DAny hL f _ _ M' a' hs' (he.trans hext) h3
def Wd.drew (M : Wd) : Wd := { M with w := { M.w with drawn := M.w.drawn + 1 } }
theorem Ext.drew (M : Wd) : Ext M M.drew := ⟨fun _ _ h => h, fun b E size l' _ h => ⟨l', h, Nat.le_refl _, fun _ => rfl⟩, Nat.le_refl _, fun _ h => ⟨h, rfl⟩⟩
theorem Sim.drew {base : Nat} {w0 : W0} {st : St} {M : Wd} {a : Act} (hs : Sim base w0 st M a) : Sim base w0 st M.drew a := by
  have hext := Ext.drew M
  refine ⟨hs.H, hs.nx, hs.n, fun i y hy => ?_, fun g xs hg => (hs.gl g xs hg).mono hext, ⟨?_, ?_, hs.heap.sep, hs.heap.lt, hs.heap.fresh, hs.heap.frz, ?_⟩, ⟨hs.below.os, hs.below.tape, hs.below.output, hs.below.size, hs.below.block⟩, hs.base, hs.defs, hs.old⟩
  · obtain ⟨v, h1, h2⟩ := hs.env i y hy
    exact ⟨v, h1, h2.mono hext⟩
  · intro b t l hl
    obtain ⟨g, arr, e1, e2, e3, e4, e5, e6⟩ := hs.heap.cells b t l hl
    exact ⟨g, arr, e1, e2, e3, e4, e5, fun i y u h1 h2 => (e6 i y u h1 h2).mono hext⟩
  · intro b E size l hl
    obtain ⟨v, n, cs, e1, e2, e3, e4, e5, e6⟩ := hs.heap.vec b E size l hl
    exact ⟨v, n, cs, e1, e2, e3, e4, fun i y u h1 h2 => (e5 i y u h1 h2).mono hext.F, e6⟩
  · intro b p hp
    obtain ⟨g, e1, e2, e3, e4, e5⟩ := hs.heap.obj b p hp
    exact ⟨g, e1, e2, p.stable _ _ _ _ e3 (fun _ _ => rfl), e4, e5⟩
def drawB (ops : Array Oper) (n : Nat) : Bool :=
  Region.noSelect ops && Nat.ble n ops.size && (Nat.beq n ops.size || (Region.sinkB .any ops n && Region.chainB .any ops n)) && Region.lexHead .any ops (ops.size - n) n 0 (Array.replicate ops.size false)
theorem aw_draw {id : Nat} {l : List Oper} {Q : Exit → St → Prop} {st : St} (n : Nat) (hm : P.follows .mixedOrders = true) (hB : drawB l.toArray n = true)
    (h : DSeq P l.toArray (AOps P l.toArray Q (l.drop n)) (l.take n) st) : Awp P (.region id l.toArray true) Q st := by
  simp only [drawB, Bool.and_eq_true, Bool.or_eq_true] at hB
  obtain ⟨⟨⟨hsel, hle⟩, hcase⟩, hlex⟩ := hB
  have hle := Nat.le_of_ble_eq_true hle
  have hle' : n ≤ l.length := by simpa using hle
  have htl : (l.take n).length = n := by simp; omega
  have hdl : (l.drop n).length = l.toArray.size - n := by simp
  have inv0 : HeadInv .any l.toArray n (Array.replicate l.toArray.size false) :=
    ⟨by simp, fun j oj _ hl => (by rw [getD_replicate_false] at hl; cases hl), fun t _ ht => getD_in (by simpa using ht) (getD_replicate_false _ _)⟩
  have htail : ∀ listed, HeadInv .any l.toArray n listed → ∀ i, i < n → listed.getD i true = false → ∀ t, n ≤ t → t ∉ Region.ready .any l.toArray listed := by
    intro listed inv i hi hun t ht
    rcases hcase with he | ⟨hs, hc⟩
    · intro hr
      obtain ⟨_, o, ho, _⟩ := mem_ready.1 hr
      have := (Array.getElem?_eq_some_iff.1 ho).1
      have := beq_true he
      omega
    · rcases Nat.lt_or_ge n l.toArray.size with hn | hn
      · exact tail_waits hs hc hn inv _ i rfl hi hun t ht
      · intro hr
        obtain ⟨_, o, ho, _⟩ := mem_ready.1 hr
        have := (Array.getElem?_eq_some_iff.1 ho).1
        omega
  intro base w0 M a hs
  have H := DAny_lex (P := P) (md := .any) (ops := l.toArray) (n := n) (g := l.toArray.size - n) (Lq := AOps P l.toArray Q (l.drop n)) (fun s t e hh => fun base w0 M a hs' => hh base w0 M a (e.symm.sim hs')) htail (l.take n) 0 _ st (fun j hj => by
    have hj' : j < n := by rw [htl] at hj; exact hj
    simp [hj']) (by simpa using htl) inv0 (by rw [htl]; exact hlex) h
  refine wp_region_any hm ?_
  have := wpAny_of_DAny (P := P) (md := .any) (ops := l.toArray) (n := n) (base := base) (w0 := w0) (M0 := M) (Q := Q) (g := l.toArray.size - n) (fun listed st' M' a' hL hs' he => by
    have h1 := wpList_monoQ (fun e a w => Lift.ext he) _ _ _ (hL.2 base w0 M' a' hs')
    have h2 := wpAny_of_seq (md := .any) (l.drop n) n listed a' M'.w (fun j => by simp) (by rw [hdl]; exact hL.1) h1
    rwa [hdl] at h2) (l.take n).length (Array.replicate l.toArray.size false) st M.drew a hs.drew (Ext.drew M) H
  rw [htl] at this
  rw [show n + (l.toArray.size - n) = l.toArray.size by omega] at this
  exact this
class Mixed (P : Program) : Prop where
  h : P.follows .mixedOrders = true
theorem aw_drawq {id : Nat} {l : List Oper} {Q : Exit → St → Prop} {st : St} [m : Mixed P] (hB : drawB l.toArray l.length = true) (h : DSeq P l.toArray (AOps P l.toArray Q []) l st) : Awp P (.region id l.toArray true) Q st :=
  aw_draw l.length m.h hB (by rw [List.take_length, List.drop_length]; exact h)
theorem aw_drawt {id : Nat} {l : List Oper} {Q : Exit → St → Prop} {st : St} [m : Mixed P] (n : Nat) (hB : drawB l.toArray n = true) (h : DSeq P l.toArray (AOps P l.toArray Q (l.drop n)) (l.take n) st) : Awp P (.region id l.toArray true) Q st :=
  aw_draw n m.h hB h
end
end Go.Proofs.YtkhljpbkebnnmaaGreatDoor.Ev
/- Rules of a walk over abstract states: new lists and appends. Nothing here names a program. -/
namespace Go.Proofs.YtkhljpbkebnnmaaGreatDoor.Ev
set_option linter.unusedVariables false
set_option linter.unusedSimpArgs false
open Go.RowKit
theorem envW_nil {s : St} {nx : Nat} : EnvW s nx [] := trivial
theorem envW_cons {s : St} {nx i : Nat} {x : AV} {l : List (Nat × AV)} (h1 : look i s.env = some x) (h2 : AV.lt nx x = true) (h3 : EnvW s nx l) : EnvW s nx ((i, x) :: l) := ⟨h1, h2, h3⟩
theorem heapW_nil {s : St} {nx : Nat} : HeapW s nx [] := trivial
theorem heapW_cons {s : St} {nx i : Nat} {x : AB} {l : List (Nat × Option AB)} (h1 : s.H i = some x) (h0 : Nat.blt i nx = true) (h2 : abLt nx x = true) (h3 : HeapW s nx l) : HeapW s nx ((i, some x) :: l) := ⟨h1, h0, h2, h3⟩
theorem weak_mk {n : Nat} {env env' : List (Nat × AV)} {heap heap' : List (Nat × Option AB)} {nx nx' : Nat} {gl : List (Nat × List CV)} (h : Nat.ble nx' nx = true) (he : EnvW ⟨n, env, heap, nx, gl⟩ nx' env') (hh : HeapW ⟨n, env, heap, nx, gl⟩ nx' heap') : Weak ⟨n, env, heap, nx, gl⟩ ⟨n, env', heap', nx', gl⟩ := ⟨rfl, rfl, Nat.le_of_ble_eq_true h, fun i x hx => EnvW.get he i x hx, fun b x hx => HeapW.get hh b x (St.H_some hx)⟩
theorem aw_loopG {P : Program} {c : Code} {Q : Exit → St → Prop} {n : Nat} {env : List (Nat × AV)} {heap : List (Nat × Option AB)} {nx : Nat} {gl : List (Nat × List CV)} {G : Type} (inv : G → Prop) (μ : G → Nat) (E : G → List (Nat × AV)) (Hp : G → List (Nat × Option AB)) (X : Nat) (g0 : G) (h0 : inv g0)
    (hw : Weak ⟨n, env, heap, nx, gl⟩ ⟨n, E g0, Hp g0, X, gl⟩) (hx : Nat.ble nx X = true)
    (round : ∀ g, inv g → Awp P c (thn (fun st' => ∃ g', μ g' < μ g ∧ inv g' ∧ Weak st' ⟨n, E g', Hp g', X, gl⟩) Q) ⟨n, E g, Hp g, X, gl⟩) : Awp P (.loop c) Q ⟨n, env, heap, nx, gl⟩ :=
  aw_loop (fun m st => ∃ g, m = μ g ∧ inv g ∧ st = ⟨n, E g, Hp g, X, gl⟩) (μ g0) ⟨_, ⟨g0, rfl, h0, rfl⟩, hw, Nat.le_of_ble_eq_true hx⟩ (by
    rintro _ _ ⟨g, rfl, hg, rfl⟩
    refine aw_mono (round g hg) fun e st hq => ?_
    cases e with
    | normal =>
      obtain ⟨g', h1, h2, h3⟩ := hq
      exact ⟨_, _, h1, ⟨g', rfl, h2, rfl⟩, h3, Nat.le_refl _⟩
    | _ => exact hq)
theorem ret_i {P : Program} {t : Nat} {kk : IntKind} {k m : Int} {st : St} (h : look t st.env = some (.c (.v (.int kk k)))) (he : k = m) : Ret P [.tmp t] (.v (.int kk m)) .ret st := ret1 (.tmp h (Or.inl (by rw [he])))
theorem ret_b {P : Program} {t : Nat} {k m : Bool} {st : St} (h : look t st.env = some (.c (.v (.bool k)))) (he : k = m) : Ret P [.tmp t] (.v (.bool m)) .ret st := ret1 (.tmp h (Or.inl (by rw [he])))
theorem rc_one {F : Nat → Prop} {w : World} {x : CV} {u : Value} (h : RC F w x u) (hc : x.cellB = true) : u.oneCell' = true := by
  cases h with
  | v x => exact hc
  | agg => cases hc
  | tup => cases hc
  | nil => rfl
  | e0 => cases hc
  | lst => rfl
def cvs : List AV → Option (List CV)
  | [] => some []
  | .c x :: l => bif x.cellB then (cvs l).map (x :: ·) else none
  | _ :: _ => none
def cvL : AV → Option (List CV)
  | .agg xs => cvs xs
  | .c x => bif x.cellB then some [x] else none
  | _ => none
theorem cvs_get {M : Wd} : ∀ {xs : List AV} {zs : List CV}, cvs xs = some zs → zs.length = xs.length ∧ (∀ z ∈ zs, z.cellB = true) ∧ ∀ (i : Nat) (x : AV), xs[i]? = some x → ∃ z, zs[i]? = some z ∧ x = .c z
  | [], zs, h => by simp only [cvs, Option.some.injEq] at h; subst h; exact ⟨rfl, fun z hz => by simp at hz, fun i x h => by simp at h⟩
  | .c y :: l, zs, h => by
    simp only [cvs] at h
    cases hb : y.cellB with
    | false => rw [hb] at h; cases h
    | true =>
      rw [hb] at h
      simp only [cond_true, Option.map_eq_some_iff] at h
      obtain ⟨ws, h1, rfl⟩ := h
      obtain ⟨e1, e2, e3⟩ := cvs_get (M := M) h1
      refine ⟨by simp [e1], fun z hz => ?_, fun i x hx => ?_⟩
      · rcases List.mem_cons.1 hz with rfl | hz
        · exact hb
        · exact e2 z hz
      · cases i with
        | zero => simp at hx; exact ⟨y, rfl, hx.symm⟩
        | succ i => exact e3 i x (by simpa using hx)
  | .agg _ :: _, zs, h => by cases h
  | .tup _ :: _, zs, h => by cases h
  | .ptr _ _ :: _, zs, h => by cases h
  | .vec _ _ :: _, zs, h => by cases h
  | .vptr _ _ _ :: _, zs, h => by cases h
  | .eptr _ _ :: _, zs, h => by cases h
  | .fn _ _ :: _, zs, h => by cases h
  | .ghost _ _ _ :: _, zs, h => by cases h
  | .ref _ _ :: _, zs, h => by cases h
theorem cvL_ra {M : Wd} {y : AV} {u : Value} {zs : List CV} (h : cvL y = some zs) (hr : RA M y u) : zs.length = u.cells.size ∧ (∀ v ∈ u.cells.toList, v.oneCell' = true) ∧ ∀ (i : Nat) (z : CV) (v : Value), zs[i]? = some z → u.cells[i]? = some v → RC M.F M.w z v := by
  cases y with
  | agg xs =>
    obtain ⟨e1, e2, e3⟩ := cvs_get (M := M) (show cvs xs = some zs from h)
    cases hr with
    | agg hl hh =>
      rename_i vs
      have key : ∀ (i : Nat) (z : CV) (v : Value), zs[i]? = some z → vs[i]? = some v → RC M.F M.w z v := fun i z v hz hv => by
        have hi : i < xs.length := by rw [← e1]; exact (List.getElem?_eq_some_iff.1 hz).1
        obtain ⟨z', g1, g2⟩ := e3 i xs[i] (by simp [hi])
        rw [hz] at g1; cases g1
        have := hh i xs[i] v (by simp [hi]) hv
        rw [g2] at this
        cases this with
        | c h => exact h
      refine ⟨by rw [e1]; exact hl, fun v hv => ?_, key⟩
      have hv : v ∈ vs.toList := hv
      obtain ⟨i, hi, rfl⟩ := List.mem_iff_getElem.1 hv
      have hi3 : i < vs.size := by simpa using hi
      have hi2 : i < zs.length := by rw [e1, hl]; exact hi3
      exact rc_one (key i zs[i] vs.toList[i] (by simp [hi2]) (by simp [hi3])) (e2 _ (List.getElem_mem hi2))
  | c x =>
    simp only [cvL] at h
    cases hb : x.cellB with
    | false => rw [hb] at h; cases h
    | true =>
      rw [hb] at h
      simp only [cond_true, Option.some.injEq] at h; subst h
      cases hr with
      | c hr =>
        have ho := rc_one hr hb
        rw [cells_one ho]
        refine ⟨rfl, by simpa using ho, fun i z v hz hv => ?_⟩
        cases i with
        | zero => simp at hz hv; subst hz; subst hv; exact hr
        | succ i => simp at hz
  | _ => cases h
def Src (P : Program) (st : St) (x : Operand) (size m : Nat) (ys : List CV) : Prop :=
  ∀ base w0 M a, Sim base w0 st M a → ∃ (ad : Option Addr) (cap : Nat) (cs : List Value), a.eval x = .slice ad m cap ∧ cs.length = m * size ∧ ys.length = m * size ∧ (ad = none → m = 0) ∧ (∀ a0, ad = some a0 → ∀ j u, cs[j]? = some u → M.w.cell? (a0.add j) = some u) ∧
    (∀ u ∈ cs, u.oneCell' = true) ∧ ∀ (i : Nat) (z : CV) (v : Value), ys[i]? = some z → cs[i]? = some v → RC M.F M.w z v
theorem pair_one {F : Nat → Prop} {w : World} {ys : List CV} {cs : List Value} (hl : cs.length = ys.length) (hone : ys.all CV.cellB = true) (h : ∀ (i : Nat) (z : CV) (v : Value), ys[i]? = some z → cs[i]? = some v → RC F w z v) : ∀ u ∈ cs, u.oneCell' = true := by
  intro u hu
  obtain ⟨i, hi, rfl⟩ := List.mem_iff_getElem.1 hu
  have hi2 : i < ys.length := by omega
  exact rc_one (h i ys[i] cs[i] (by simp [hi2]) (by simp [hi])) (List.all_eq_true.1 hone _ (List.getElem_mem hi2))
theorem src_vec {P : Program} {st : St} {x : Operand} {b m E size : Nat} {ys : List CV} (hx : st.ev x = some (.vec b m)) (hH : st.H b = some (.vec E size ys)) (hn : ys.length = m * size) (hone : ys.all CV.cellB = true) : Src P st x size m ys := by
  intro base w0 M a hs
  have hM : M.H b = some (.vec E size ys) := by rw [hs.H]; exact hH
  have hv := hs.ev hx
  generalize a.eval x = u at hv ⊢
  cases hv with
  | vec hb ho hh =>
    obtain ⟨_, h2⟩ := hh E size ys hM
    obtain ⟨v, n', cs, e1, e2, e3, e4, e5, e6⟩ := hs.heap.vec b E size ys hM
    rw [h2 hn] at e1; cases e1
    have hnn : m = n' := Nat.eq_of_mul_eq_mul_right e3 (by rw [← hn, e2])
    subst hnn
    have hlen : cs.length = ys.length := by rw [e4.1, e2]
    have h1 := pair_one hlen hone e5
    rcases e4.2 with ⟨rfl, hn0⟩ | ⟨g, cap, cur, rfl, f1, f2, f3⟩
    · exact ⟨none, 0, cs, by rw [hn0], e4.1, hn, fun _ => hn0, fun a0 h => (by cases h), h1, e5⟩
    · exact ⟨_, cap, cs, rfl, e4.1, hn, fun h => (by cases h), fun a0 h => (by cases h; exact World.ownsRow.cells e4 (g := g) rfl), h1, e5⟩
theorem src_lst {P : Program} {st : St} {x : Operand} {m size : Nat} {ys : List CV} (hx : st.ev x = some (.c (.lst size ys))) (hpos : 0 < size) (hn : ys.length = m * size) (hone : ys.all CV.cellB = true) : Src P st x size m ys := by
  intro base w0 M a hs
  have hv := hs.ev hx
  generalize a.eval x = u at hv ⊢
  cases hv with
  | c hv =>
    cases hv with
    | nil =>
      rename_i cap ad
      have : m = 0 := by
        simp only [List.length_nil] at hn
        rcases Nat.mul_eq_zero.1 hn.symm with h | h <;> omega
      subst this
      exact ⟨ad, cap, [], rfl, by simp, hn, fun _ => rfl, fun a0 h => fun j u hu => by simp at hu, fun u hu => by simp at hu, fun i z v hz => by simp at hz⟩
    | lst cs hn' hc hF hcell hr =>
      rename_i blk off n cap
      have hnn : n = m := Nat.eq_of_mul_eq_mul_right hpos (by rw [← hn', hn])
      subst hnn
      have hget : ∀ (i : Nat) (v : Value), ((List.range ys.length).map cs)[i]? = some v → i < ys.length ∧ cs i = v := fun i v hv => by
        have hi : i < ys.length := by have := (List.getElem?_eq_some_iff.1 hv).1; simpa using this
        exact ⟨hi, by simpa [hi] using hv⟩
      have hpair : ∀ (i : Nat) (z : CV) (v : Value), ys[i]? = some z → ((List.range ys.length).map cs)[i]? = some v → RC M.F M.w z v := fun i z v hz hv => by
        rw [← (hget i v hv).2]; exact hr i z hz
      refine ⟨_, cap, (List.range ys.length).map cs, rfl, by simpa using hn', hn', fun h => (by cases h), fun a0 h => ?_, pair_one (by simp) hone hpair, hpair⟩
      cases h
      intro j u hu
      obtain ⟨hj, e⟩ := hget j u hu
      rw [Kit.addr_add, hcell j ys[j] (by simp [hj]), e]
section
variable {P : Program}
theorem run_append_nil0 {t E size bytes : Nat} (I : SlT P t E size bytes) (w : World) (base : Nat) (ty : TypeId) (v : Value) (n : Nat) (xs : List Value) (hown : w.ownsRow base E size v n xs) (c : Nat) : (Builtin.append_ #[t, t] ty #[v, .slice none 0 c]).run P w = .ok v w := by
  obtain ⟨i, z, h1, h2, h3, h4, h5, h6⟩ := I.out
  rcases hown.2 with ⟨rfl, h0⟩ | ⟨g, cap, cur, rfl, hg, hh, hnc, _⟩
  · simp [Builtin.append_, run_underlying h1, sizeOf, typeInfo, h2, Builtin.lenOf, Builtin.firstCells]
  · simp [Builtin.append_, run_underlying h1, sizeOf, typeInfo, h2, Builtin.lenOf, Builtin.firstCells, hnc, storeCells]
theorem append_core {base : Nat} {w0 : W0} {st : St} {M : Wd} {a : Act} (hs : Sim base w0 st M a) {t E size bytes b n m cap : Nat} (I : SlT P t E size bytes) {xs ys : List CV} {v : Value} {ad : Option Addr} {cs : List Value} {ty : TypeId} (hH : st.H b = some (.vec E size xs)) (hm : M.m b = .row v) (hn : xs.length = n * size)
    (c1 : cs.length = m * size) (c2 : ys.length = m * size) (c3 : ad = none → m = 0) (c4 : ∀ a0, ad = some a0 → ∀ j u, cs[j]? = some u → M.w.cell? (a0.add j) = some u) (c5 : ∀ u ∈ cs, u.oneCell' = true) (c6 : ∀ (i : Nat) (z : CV) (v : Value), ys[i]? = some z → cs[i]? = some v → RC M.F M.w z v)
    (hb1 : n + m ≤ maxLen) (hb2 : (n + m) * bytes ≤ 140737488355328) :
    ∃ v' w' M', (Builtin.append_ #[t, t] ty #[v, .slice ad m cap]).run P M.w = .ok v' w' ∧ M'.w = w' ∧ Sim base w0 (st.set b (.vec E size (xs ++ ys))) M' a ∧ Ext M M' ∧ RA M' (.vec b (n + m)) v' := by
  have hM : M.H b = some (.vec E size xs) := by rw [hs.H]; exact hH
  obtain ⟨v2, n', us, e1, e2, e3, e4, e5, e6⟩ := hs.heap.vec b E size xs hM
  rw [hm] at e1; cases e1
  have hnn : n = n' := Nat.eq_of_mul_eq_mul_right e3 (by rw [← hn, e2])
  subst hnn
  obtain ⟨i, z, f1, f2, f3, f4, f5, f6⟩ := I.out
  have hrun : ∃ v' w', (Builtin.append_ #[t, t] ty #[v, .slice ad m cap]).run P M.w = .ok v' w' ∧ w'.ownsRow base E size v' (n + m) (us ++ cs) ∧ M.w.grownBy w' v.ownBlock ∧ (v'.ownBlock = v.ownBlock ∨ v'.ownBlock = some M.w.heap.size) ∧ (m = 0 → v' = v) := by
    cases ad with
    | none =>
      have h0 := c3 rfl
      subst h0
      have : cs = [] := List.eq_nil_of_length_eq_zero (by simpa using c1)
      subst this
      exact ⟨v, M.w, run_append_nil0 I M.w base ty v n us e4 cap, by simpa using e4, World.grownBy.refl M.w _, .inl rfl, fun _ => rfl⟩
    | some a0 =>
      obtain ⟨v', w', g1, g2, g3, g4, g5⟩ := run_append_own_at (P := P) M.w base t ty E i z size bytes f1 f2 f3 f4 f5 f6 e3 v n us e4 a0 m cap cs c1 (c4 a0 rfl) c5 hb1 hb2 hs.base
      by_cases hm0 : m = 0
      · subst hm0
        have : cs = [] := List.eq_nil_of_length_eq_zero (by simpa using c1)
        subst this
        have hsame : (Builtin.append_ #[t, t] ty #[v, .slice (some a0) 0 cap]).run P M.w = .ok v M.w := by
          rcases e4.2 with ⟨rfl, h0⟩ | ⟨g, cap', cur, rfl, hg, hh, hnc, _⟩
          · simp [Builtin.append_, run_underlying f1, sizeOf, typeInfo, f2, Builtin.lenOf, Builtin.firstCells, loadCells, loadCellsFrom]
          · simp [Builtin.append_, run_underlying f1, sizeOf, typeInfo, f2, Builtin.lenOf, Builtin.firstCells, hnc, storeCells, loadCells, loadCellsFrom]
        exact ⟨v, M.w, hsame, by simpa using e4, World.grownBy.refl M.w _, .inl rfl, fun _ => rfl⟩
      · exact ⟨v', w', g1, g2, g3, g5, fun h => absurd h hm0⟩
  obtain ⟨v', w', g1, g2, g3, g4, g5⟩ := hrun
  have hblk : ∀ k, v.ownBlock = some k → base ≤ k ∧ k < M.w.heap.size := fun k hk => World.ownsRow.lt e4 k hk
  obtain ⟨h1, h2⟩ := hs.change (b := b) (x := .vec E size (xs ++ ys)) (c := .row v') (w' := w') (by rw [hM]; simp) (fun k hk hne => g3.block k hk (fun he => hne (by rw [hm]; exact he.symm))) g3.size g3.os g3.tape g3.output (fun k hk => by rw [hm] at hk; exact (hblk k hk).1)
    (fun k hk => by
      rcases g4 with g4 | g4
      · left; rw [hm]; exact g4.symm.trans hk
      · right; have : some M.w.heap.size = some k := g4.symm.trans hk; simp at this; omega)
    (fun k hk => by rw [hm] at hk; exact e6 k hk) (fun g hg => by rw [hm] at hg; cases hg)
    (fun E' size' l' h => by
      simp only [AB.vec.injEq] at h
      obtain ⟨rfl, rfl, rfl⟩ := h
      refine ⟨xs, hM, by simp, fun hl => ?_⟩
      have hm0 : m = 0 := by
        have : ys.length = 0 := by simpa using hl
        rw [c2] at this
        rcases Nat.mul_eq_zero.1 this with h | h <;> omega
      rw [hm, g5 hm0])
    (fun M' _ _ _ t' l' h => by cases h)
    (fun E' size' l' h => by
      simp only [AB.vec.injEq] at h
      obtain ⟨rfl, rfl, rfl⟩ := h
      refine ⟨v', n + m, us ++ cs, rfl, by rw [List.length_append, hn, c2, Nat.add_mul], e3, g2, fun i y u hy hu => ?_⟩
      have hF : ∀ k, M.F k → M.F k ∧ w'.heap[k]? = M.w.heap[k]? := fun k hk => ⟨hk, g3.block k (hs.heap.frz k hk) (fun he => e6 k he.symm hk)⟩
      have hul : us.length = xs.length := by rw [e4.1, hn]
      rcases Nat.lt_or_ge i xs.length with hi | hi
      · rw [List.getElem?_append_left hi] at hy
        rw [List.getElem?_append_left (by omega)] at hu
        exact (e5 i y u hy hu).mono hF
      · rw [List.getElem?_append_right hi] at hy
        rw [List.getElem?_append_right (by omega), hul] at hu
        exact (c6 _ y u hy hu).mono hF)
  refine ⟨v', w', _, g1, rfl, h1, h2, .vec (by show b < M.nx; exact hs.heap.lt b (by rw [hM]; simp)) ?_ (fun E' size' l' hl => ?_)⟩
  · rcases g2.2 with ⟨rfl, _⟩ | ⟨g, cap', cur, rfl, _⟩ <;> rfl
  · have hl' : some (AB.vec E size (xs ++ ys)) = some (.vec E' size' l') := by
      have : (st.set b (.vec E size (xs ++ ys))).H b = some (.vec E' size' l') := hl
      rwa [H_set, if_pos rfl] at this
    simp only [Option.some.injEq, AB.vec.injEq] at hl'
    obtain ⟨rfl, rfl, rfl⟩ := hl'
    refine ⟨by rw [List.length_append, hn, c2, Nat.add_mul]; exact Nat.le_refl _, fun _ => by simp [Wd.set]⟩
theorem Sim.newNil {base : Nat} {w0 : W0} {st : St} {M : Wd} {a : Act} (hs : Sim base w0 st M a) (E size : Nat) (hpos : 0 < size) :
    ∃ M', M'.w = M.w ∧ M'.m M.nx = .row (.slice none 0 0) ∧ Sim base w0 (st.new (.vec E size [])) M' a ∧ Ext M M' := by
  let M' : Wd := { m := fun b => if b = M.nx then .row (.slice none 0 0) else M.m b, H := (st.new (.vec E size [])).H, nx := M.nx + 1, F := M.F, w := M.w, fp := M.fp }
  have hH : ∀ b, M'.H b = if M.nx = b then some (.vec E size []) else M.H b := fun b => by
    show (st.new _).H b = _
    rw [H_new, hs.nx, hs.H]
  have hm : M'.m M.nx = .row (.slice none 0 0) := by simp [M']
  have hm' : ∀ b, b ≠ M.nx → M'.m b = M.m b := fun b hb => by simp [M', hb]
  have hext : Ext M M' := by
    refine ⟨fun b g hb => ?_, fun b E' size' l' hb hl => ?_, by simp [M'], fun b hb => ⟨hb, rfl⟩⟩
    · rw [hm' b (fun he => hs.heap.fresh b (by omega) g hb)]; exact hb
    · rw [hH, if_neg (by omega)] at hl
      exact ⟨l', hl, Nat.le_refl _, fun _ => hm' b (by omega)⟩
  refine ⟨M', rfl, hm, ⟨rfl, by show M.nx + 1 = st.nx + 1; rw [hs.nx], hs.n, fun i y hy => ?_, fun g xs hg => (hs.gl g xs hg).mono hext, ⟨?_, ?_, ?_, ?_, ?_, hs.heap.frz, ?_⟩, hs.below, hs.base, hs.defs, hs.old⟩, hext⟩
  · obtain ⟨v, h1, h2⟩ := hs.env i y hy
    exact ⟨v, h1, h2.mono hext⟩
  · intro b t l hl
    rw [hH] at hl
    by_cases hb : M.nx = b
    · rw [if_pos hb] at hl; cases hl
    · rw [if_neg hb] at hl
      obtain ⟨g, arr, e1, e2, e3, e4, e5, e6⟩ := hs.heap.cells b t l hl
      exact ⟨g, arr, by rw [hm' b (Ne.symm hb)]; exact e1, e2, e3, e4, e5, fun i y u h1 h2 => (e6 i y u h1 h2).mono hext⟩
  · intro b E' size' l hl
    rw [hH] at hl
    by_cases hb : M.nx = b
    · subst hb
      rw [if_pos rfl] at hl
      simp only [Option.some.injEq, AB.vec.injEq] at hl
      obtain ⟨rfl, rfl, rfl⟩ := hl
      exact ⟨_, 0, [], hm, by simp, hpos, ⟨by simp, .inl ⟨rfl, rfl⟩⟩, fun i y u h => by simp at h, fun g hg => by simp [Value.ownBlock] at hg⟩
    · rw [if_neg hb] at hl
      obtain ⟨v, n, cs, e1, e2, e3, e4, e5, e6⟩ := hs.heap.vec b E' size' l hl
      exact ⟨v, n, cs, by rw [hm' b (Ne.symm hb)]; exact e1, e2, e3, e4, e5, e6⟩
  · intro b b' g hbb hb hb' hg hg'
    rw [hH] at hb hb'
    by_cases h1 : b = M.nx
    · subst h1; rw [hm] at hg; simp [Conc.block, Value.ownBlock] at hg
    · by_cases h2 : b' = M.nx
      · subst h2; rw [hm] at hg'; simp [Conc.block, Value.ownBlock] at hg'
      · rw [if_neg (Ne.symm h1)] at hb
        rw [if_neg (Ne.symm h2)] at hb'
        rw [hm' b h1] at hg
        rw [hm' b' h2] at hg'
        exact hs.heap.sep b b' g hbb hb hb' hg hg'
  · intro b hb
    rw [hH] at hb
    show b < M.nx + 1
    by_cases h1 : M.nx = b
    · omega
    · rw [if_neg h1] at hb
      have := hs.heap.lt b hb; omega
  · intro b hb g
    have hb : M.nx + 1 ≤ b := hb
    rw [hm' b (by omega)]
    exact hs.heap.fresh b (by omega) g
  · intro b p hp
    rw [hH] at hp
    by_cases h1 : M.nx = b
    · rw [if_pos h1] at hp; cases hp
    rw [if_neg h1] at hp
    obtain ⟨g, e1, e2, e3, e4, e5⟩ := hs.heap.obj b p hp
    refine ⟨g, by rw [hm' b (Ne.symm h1)]; exact e1, e2, e3, e4, fun b' k hbb hk => ⟨fun hb' => ?_, fun p' hp' => ?_⟩⟩
    · by_cases h2 : M.nx = b'
      · subst h2; rw [hm]; simp [Conc.block, Value.ownBlock]
      · rw [hH, if_neg h2] at hb'
        rw [hm' b' (Ne.symm h2)]
        exact (e5 b' k hbb hk).1 hb'
    · rw [hH] at hp'
      by_cases h2 : M.nx = b'
      · rw [if_pos h2] at hp'; cases hp'
      · rw [if_neg h2] at hp'
        exact (e5 b' k hbb hk).2 p' hp'
theorem Sim.congr {base : Nat} {w0 : W0} {s t : St} {M : Wd} {a : Act} (hs : Sim base w0 s M a) (hH : s.H = t.H) (hn : s.n = t.n) (hx : s.nx = t.nx) (hg : s.gl = t.gl) (he : s.env = t.env) : Sim base w0 t M a :=
  ⟨hs.H.trans hH, hs.nx.trans hx, hs.n.trans hn, fun i x h => hs.env i x (by rw [he]; exact h), fun g xs h => hs.gl g xs (by rw [hg]; exact h), hs.heap, hs.below, hs.base, hs.defs, hs.old⟩
end
section
variable {P : Program} {ops : Array Oper} {Q : Exit → St → Prop} {rest : List Oper} {st : St} {d : Nat} {ty : TypeId} {pos : String} {af : Array Edge}
theorem ex_append {t : Nat} {a : Act} {w w' : World} {s x : Operand} {dst : Option Tmp} {v v' : Value} {ad : Option Addr} {m cap : Nat} (hs : a.eval s = v) (hx : a.eval x = .slice ad m cap) (h : (Builtin.append_ #[t, t] ty #[v, .slice ad m cap]).run P w = .ok v' w') :
    (execOp a.eval ⟨dst, .call ⟨.builtin .append, #[s, x], #[t, t]⟩, ty, pos, af, none⟩).run P w = .ok (.value v') w' := by
  simp only [execOp, resolve, List.map_toArray, List.map_cons, List.map_nil, hs, hx]
  simp [invoke, builtin, h]
theorem ao_append {s x : Operand} {t E size bytes b n m : Nat} [I : SlT P t E size bytes] {xs ys : List CV} (hs0 : st.ev s = some (.vec b n)) (hH : st.H b = some (.vec E size xs)) (hn : xs.length = n * size) (hx : Src P st x size m ys) (hb1 : n + m ≤ maxLen) (hb2 : (n + m) * bytes ≤ 140737488355328) (hd : Nat.blt d st.n = true)
    (h : AOps P ops Q rest ((st.set b (.vec E size (xs ++ ys))).put d (.vec b (n + m)))) : AOps P ops Q (⟨some d, .call ⟨.builtin .append, #[s, x], #[t, t]⟩, ty, pos, af, none⟩ :: rest) st := by
  intro base w0 M a hs
  obtain ⟨ad, cap, cs, c0, c1, c2, c3, c4, c5, c6⟩ := hx base w0 M a hs
  have hv := hs.ev hs0
  generalize he : a.eval s = v at hv
  cases hv with
  | vec hb ho hh =>
    have hM : M.H b = some (.vec E size xs) := by rw [hs.H]; exact hH
    obtain ⟨v', w', M', g1, g2, g3, g4, g5⟩ := append_core (P := P) (ty := ty) hs I hH ((hh E size xs hM).2 hn) hn c1 c2 c3 c4 c5 c6 hb1 hb2
    refine wl_value rfl (ex_append he c0 g1) ?_
    subst g2
    exact wpList_monoQ (fun e a w => Lift.ext g4) _ _ _ (h base w0 M' _ (g3.put hd g5))
end
end Go.Proofs.YtkhljpbkebnnmaaGreatDoor.Ev
/- Rules of a walk over abstract states: list literals, make, stores into lists, lists that stand from now on, calls. Nothing here names a program. -/
namespace Go.Proofs.YtkhljpbkebnnmaaGreatDoor.Ev
set_option linter.unusedVariables false
set_option linter.unusedSimpArgs false
open Go.RowKit
theorem flat_one {α : Type} {enc : α → List CV} {size : Nat} (J : EncL enc size) (l : List α) : (l.flatMap enc).all CV.cellB = true := by
  rw [List.all_flatMap, List.all_eq_true]; exact fun x _ => J.one x
section
variable {P : Program} {ops : Array Oper} {Q : Exit → St → Prop} {rest : List Oper} {st : St} {d : Nat} {ty : TypeId} {pos : String} {af : Array Edge}
theorem ao_push {α : Type} {enc : α → List CV} {s x : Operand} {t E E2 size bytes b b2 n : Nat} [I : SlT P t E size bytes] {l : List α} {ys : List CV} (x0 : α) (hs0 : st.ev s = some (.vec b n)) (hH : st.H b = some (.vec E size (l.flatMap enc))) (J : EncL enc size) (hn : l.length = n) (hx : st.ev x = some (.vec b2 1)) (hH2 : st.H b2 = some (.vec E2 size ys)) (hy : ys = enc x0) (hb1 : n < 1000000000000) (hb2 : (n + 1) * bytes ≤ 140737488355328) (hd : Nat.blt d st.n = true)
    (h : AOps P ops Q rest ((st.set b (.vec E size ((l ++ [x0]).flatMap enc))).put d (.vec b (n + 1)))) : AOps P ops Q (⟨some d, .call ⟨.builtin .append, #[s, x], #[t, t]⟩, ty, pos, af, none⟩ :: rest) st := by
  subst hy
  have e : (l ++ [x0]).flatMap enc = l.flatMap enc ++ enc x0 := by simp
  rw [e] at h
  have hb1 : n + 1 ≤ maxLen := by unfold maxLen; omega
  exact ao_append hs0 hH (by rw [flat_len J.len, hn]) (src_vec hx hH2 (by rw [J.len]; omega) (J.one x0)) hb1 hb2 hd h
theorem ao_appendl {α : Type} {enc : α → List CV} {s x : Operand} {t E size bytes b n : Nat} [I : SlT P t E size bytes] {l l2 : List α} (hs0 : st.ev s = some (.vec b n)) (hH : st.H b = some (.vec E size (l.flatMap enc))) (J : EncL enc size) (hn : l.length = n) (hx : st.ev x = some (.c (.lst size (l2.flatMap enc)))) (hb1 : n + l2.length < 1000000000000) (hb2 : (n + l2.length) * bytes ≤ 140737488355328) (hd : Nat.blt d st.n = true)
    (h : AOps P ops Q rest ((st.set b (.vec E size ((l ++ l2).flatMap enc))).put d (.vec b (n + l2.length)))) : AOps P ops Q (⟨some d, .call ⟨.builtin .append, #[s, x], #[t, t]⟩, ty, pos, af, none⟩ :: rest) st := by
  have e : (l ++ l2).flatMap enc = l.flatMap enc ++ l2.flatMap enc := by simp
  rw [e] at h
  exact ao_append hs0 hH (by rw [flat_len J.len, hn]) (src_lst hx J.pos (flat_len J.len l2) (flat_one J l2)) (by unfold maxLen; omega) hb2 hd h
def lits : List AV → Option (List CV)
  | [] => some []
  | y :: l => match cvL y, lits l with | some zs, some r => some (zs ++ r) | _, _ => none
def litB (size : Nat) : List AV → Bool
  | [] => true
  | y :: l => (match cvL y with | some zs => Nat.beq zs.length size | none => false) && litB size l
theorem lits_get {M : Wd} {size : Nat} (hpos : 0 < size) : ∀ {ys : List AV} {zs : List CV} {vs : List Value}, lits ys = some zs → litB size ys = true → ys.length = vs.length → (∀ (i : Nat) (y : AV) (v : Value), ys[i]? = some y → vs[i]? = some v → RA M y v) →
    zs.length = vs.length * size ∧ (vs.flatMap fun v => v.cells.toList).length = vs.length * size ∧ (∀ v ∈ vs, v.cells.size = size) ∧ ∀ (i : Nat) (z : CV) (u : Value), zs[i]? = some z → (vs.flatMap fun v => v.cells.toList)[i]? = some u → RC M.F M.w z u
  | [], zs, vs, h, _, hl, _ => by
    simp only [lits, Option.some.injEq] at h; subst h
    have : vs = [] := List.eq_nil_of_length_eq_zero (by simpa using hl.symm)
    subst this
    exact ⟨by simp, by simp, by simp, fun i z u h => by simp at h⟩
  | y :: ys, zs, vs, h, hb, hl, hr => by
    match vs, hl with
    | v :: vs, hl =>
      simp only [lits] at h
      simp only [litB, Bool.and_eq_true] at hb
      obtain ⟨b1, b2⟩ := hb
      cases hc : cvL y with
      | none => rw [hc] at h; cases h
      | some ws =>
        rw [hc] at h b1
        dsimp only at b1
        have b1 := beq_true b1
        cases hr2 : lits ys with
        | none => rw [hr2] at h; cases h
        | some r =>
          rw [hr2] at h
          simp only [Option.some.injEq] at h; subst h
          obtain ⟨e1, e2, e3⟩ := cvL_ra hc (hr 0 y v rfl rfl)
          obtain ⟨f1, f2, f3, f4⟩ := lits_get hpos hr2 b2 (by simpa using hl) (fun i y' v' h1 h2 => hr (i + 1) y' v' (by simpa using h1) (by simpa using h2))
          have hvl : v.cells.toList.length = size := by simp; omega
          refine ⟨by rw [List.length_append, f1, List.length_cons, Nat.add_mul]; omega, by rw [List.flatMap_cons, List.length_append, f2, hvl, List.length_cons, Nat.add_mul]; omega, fun u hu => ?_, fun i z u hz hu => ?_⟩
          · rcases List.mem_cons.1 hu with rfl | hu
            · simpa using hvl
            · exact f3 u hu
          · rw [List.flatMap_cons] at hu
            rcases Nat.lt_or_ge i size with hi | hi
            · rw [List.getElem?_append_left (by omega)] at hz
              rw [List.getElem?_append_left (by omega)] at hu
              exact e3 i z u hz (by simpa using hu)
            · rw [List.getElem?_append_right (by omega), b1] at hz
              rw [List.getElem?_append_right (by omega), hvl] at hu
              exact f4 _ z u hz hu
theorem ao_lit {t E size bytes len : Nat} [I : SlT P t E size bytes] {parts : List (Nat × Operand)} {ps : List (Nat × AV)} {zs : List CV} (hp : evp st parts = some ps) (hi : ps.map (·.1) = List.range len) (hz : lits (ps.map (·.2)) = some zs) (hb : litB size (ps.map (·.2)) = true) (hl : Nat.ble 1 len = true) (hs2 : Nat.ble (len * size) 100000 = true) (hd : Nat.blt d st.n = true)
    (h : AOps P ops Q rest ((st.new (.vec E size zs)).put d (.vec st.nx len))) : AOps P ops Q (⟨some d, .buildSlice t len parts.toArray, ty, pos, af, none⟩ :: rest) st := by
  refine ao_new rfl rfl hd (fun base w0 M a hs => ?_) h
  obtain ⟨i, z, f1, f2, f3, f4, f5, f6⟩ := I.out
  obtain ⟨e1, e2⟩ := evp_get hp
  have hl := Nat.le_of_ble_eq_true hl
  have hs2 := Nat.le_of_ble_eq_true hs2
  have hplen : ps.length = len := by
    have := congrArg List.length hi
    simpa using this
  let vs : List Value := parts.map fun q => a.eval q.2
  have hvl : vs.length = len := by show (parts.map _).length = _; simp; omega
  have hra : ∀ (k : Nat) (y : AV) (v : Value), (ps.map (·.2))[k]? = some y → vs[k]? = some v → RA M y v := fun k y v hy hv => by
    obtain ⟨p, g1, rfl⟩ : ∃ p, ps[k]? = some p ∧ p.2 = y := by simpa using hy
    obtain ⟨q, g2, rfl⟩ : ∃ q, parts[k]? = some q ∧ a.eval q.2 = v := by simpa [vs] using hv
    exact hs.ev (e2 k p q g1 g2).2
  obtain ⟨c1, c2, c3, c4⟩ := lits_get I.pos hz hb (by simp; omega) hra
  have hparts : (parts.map fun q => (q.1, a.eval q.2)) = (vs.zipIdx 0).map fun x => (x.2, x.1) := by
    apply List.ext_getElem?
    intro k
    simp only [List.getElem?_map, List.getElem?_zipIdx, vs]
    cases hk : parts[k]? with
    | none => simp
    | some q =>
      have hk' : k < parts.length := (List.getElem?_eq_some_iff.1 hk).1
      obtain ⟨p, hpk⟩ : ∃ p, ps[k]? = some p := ⟨_, List.getElem?_eq_getElem (by omega)⟩
      have h1 := (e2 k p q hpk hk).1
      have h2 : (ps.map (·.1))[k]? = some p.1 := by simp [hpk]
      rw [hi] at h2
      have h3 : k = p.1 := by
        have : k < len := by omega
        simpa [this] using h2
      simp [← h1, ← h3]
  have hfill := Great.fill_whole I.pos vs ((Array.range (len * size)).map (z.cells[· % z.cells.size]!)) c3 (by simp [hvl])
  have hne : len * size ≠ 0 := by
    have := I.pos
    exact Nat.mul_ne_zero (by omega) (by omega)
  refine ⟨.slice (some ⟨M.w.heap.size, 0, none⟩) len len, .row (.slice (some ⟨M.w.heap.size, 0, none⟩) len len), (vs.flatMap fun v => v.cells.toList).toArray, E, ?_, hs.newB (fun g hg => by simpa [Conc.block, Value.ownBlock] using hg.symm) (fun t' l' h' => by cases h') (fun E' size' l' h' => ?_), .vec (by simp [Wd.new, hs.nx]) rfl (fun E' size' l' hl' => ?_)⟩
  · simp only [execOp]
    rw [Sem.run_bind, run_buildSlice (P := P) M.w t E len _ _ i z f1 f2 f3 (by rw [f4]; omega) (by rw [f4]; exact hne) (by rw [f4, show (Array.map (fun x : Nat × Operand => (x.fst, a.eval x.snd)) parts.toArray).toList = parts.map fun q => (q.1, a.eval q.2) from by simp, hparts]; exact hfill)]
    rfl
  · simp only [AB.vec.injEq] at h'
    obtain ⟨rfl, rfl, rfl⟩ := h'
    refine ⟨len, len, rfl, rfl, I.pos, by rw [c1, hvl], Nat.le_refl _, by unfold maxLen; have := I.pos; have : len * 1 ≤ len * size := Nat.mul_le_mul_left _ this; omega, by simp [c2, hvl], fun k y u hy hu => c4 k y u hy (by simpa using hu)⟩
  · have hl2 : some (AB.vec E size zs) = some (.vec E' size' l') := by
      have : (st.new (.vec E size zs)).H st.nx = some (.vec E' size' l') := hl'
      rwa [H_new, if_pos rfl] at this
    simp only [Option.some.injEq, AB.vec.injEq] at hl2
    obtain ⟨rfl, rfl, rfl⟩ := hl2
    exact ⟨by rw [c1, hvl]; exact Nat.le_refl _, fun _ => by simp [Wd.new, hs.nx]⟩
theorem ao_lit0 {t E size bytes : Nat} [I : SlT P t E size bytes] (hd : Nat.blt d st.n = true) (h : AOps P ops Q rest ((st.new (.vec E size [])).put d (.vec st.nx 0))) : AOps P ops Q (⟨some d, .buildSlice t 0 #[], ty, pos, af, none⟩ :: rest) st := by
  refine ao_new rfl rfl hd (fun base w0 M a hs => ?_) h
  obtain ⟨i, z, f1, f2, f3, f4, f5, f6⟩ := I.out
  refine ⟨.slice (some ⟨M.w.heap.size, 0, none⟩) 0 0, .row (.slice (some ⟨M.w.heap.size, 0, none⟩) 0 0), #[], E, ?_, hs.newB (fun g hg => by simpa [Conc.block, Value.ownBlock] using hg.symm) (fun t' l' h' => by cases h') (fun E' size' l' h' => ?_), .vec (by simp [Wd.new, hs.nx]) rfl (fun E' size' l' hl' => ?_)⟩
  · simp only [execOp]
    simp [Instr.buildSlice, run_underlying f1, sizeOf, typeInfo, f2, f4, Instr.fill, newRow]
    congr 1; simp [Array.range_zero']
  · simp only [AB.vec.injEq] at h'
    obtain ⟨rfl, rfl, rfl⟩ := h'
    exact ⟨0, 0, rfl, rfl, I.pos, by simp, Nat.le_refl _, Nat.zero_le _, by simp, fun k y u hy => by simp at hy⟩
  · have hl2 : some (AB.vec E size []) = some (.vec E' size' l') := by
      have : (st.new (.vec E size [])).H st.nx = some (.vec E' size' l') := hl'
      rwa [H_new, if_pos rfl] at this
    simp only [Option.some.injEq, AB.vec.injEq] at hl2
    obtain ⟨rfl, rfl, rfl⟩ := hl2
    exact ⟨by simp, fun _ => by simp [Wd.new, hs.nx]⟩
theorem ao_make {α : Type} {enc : α → List CV} {t E size bytes : Nat} {zs : List Value} [I : SlT P t E size bytes] [Z : ZeroT P E zs] {x y : Operand} {k1 k2 : IntKind} {i1 i2 : Int} (z0 : α) (n : Nat) (J : EncL enc size) (hz : enc z0 = zs.map .v) (hx : st.ev x = some (.c (.v (.int k1 i1)))) (hy : st.ev y = some (.c (.v (.int k2 i2)))) (h1 : i1 = (n : Int)) (h2 : i2 = (n : Int)) (hb1 : n < 1000000000000) (hb2 : bytes * n ≤ 281474976710656) (hd : Nat.blt d st.n = true)
    (h : AOps P ops Q rest ((st.new (.vec E size ((List.replicate n z0).flatMap enc))).put d (.vec st.nx n))) : AOps P ops Q (⟨some d, .makeSlice t x y, ty, pos, af, none⟩ :: rest) st := by
  refine ao_new rfl rfl hd (fun base w0 M a hs => ?_) h
  obtain ⟨i, z, f1, f2, f3, f4, f5, f6⟩ := I.out
  obtain ⟨i', z', g1, g2, g3⟩ := Z.out
  rw [f2] at g1; cases g1
  rw [f3] at g2; cases g2
  subst h1; subst h2
  have hlen := flat_len J.len (List.replicate n z0)
  rw [List.length_replicate] at hlen
  have hrun := run_make (P := P) M.w t E i z f1 f2 f3 k1 k2 (n : Int) (n : Int) (by omega) (by omega) (by rw [f5, ← Int.natCast_mul]; omega) (by omega)
  simp only [Int.toNat_natCast, f4] at hrun
  have hget : ∀ (k : Nat) (q : CV), ((List.replicate n z0).flatMap enc)[k]? = some q → (madeCells z.cells (n * size))[k]? = some (match q with | .v u => u | _ => undef) ∧ ∃ u, q = .v u := fun k q hq => by
    have hk : k < n * size := by rw [← hlen]; exact (List.getElem?_eq_some_iff.1 hq).1
    have hpos := I.pos
    have hq1 : k / size < n := (Nat.div_lt_iff_lt_mul hpos).2 hk
    have hr : k % size < size := Nat.mod_lt _ hpos
    have e : k / size * size + k % size = k := by rw [Nat.mul_comm]; exact Nat.div_add_mod k size
    have hdrop := drop_atj J (List.replicate n z0) (k / size) (k % size) (by rw [List.length_replicate]; exact hq1) (Nat.le_of_lt hr)
    rw [e] at hdrop
    have h0 : ((List.replicate n z0).flatMap enc)[k]? = (enc z0)[k % size]? := by
      have : (((List.replicate n z0).flatMap enc).drop k)[0]? = (enc z0)[k % size]? := by
        rw [hdrop, List.getElem?_append_left (by rw [List.length_drop, J.len]; omega), List.getElem?_drop, List.getElem_replicate, Nat.add_zero]
      rwa [List.getElem?_drop] at this
    rw [h0, hz, List.getElem?_map, ← g3, Array.getElem?_toList] at hq
    have hzs : k % size < z.cells.size := by rw [f6]; exact hr
    simp only [Array.getElem?_eq_getElem hzs, Option.map_some, Option.some.injEq] at hq
    subst hq
    refine ⟨?_, _, rfl⟩
    simp [madeCells, hk, f6, hr]
  refine ⟨.slice (some ⟨M.w.heap.size, 0, none⟩) n n, .row (.slice (some ⟨M.w.heap.size, 0, none⟩) n n), madeCells z.cells (n * size), E, ?_, hs.newB (fun g hg => by simpa [Conc.block, Value.ownBlock] using hg.symm) (fun t' l' h' => by cases h') (fun E' size' l' h' => ?_), .vec (by simp [Wd.new, hs.nx]) rfl (fun E' size' l' hl' => ?_)⟩
  · simp only [execOp, (hs.ev hx).bool, (hs.ev hy).bool]
    rw [Sem.run_bind, hrun]; rfl
  · simp only [AB.vec.injEq] at h'
    obtain ⟨rfl, rfl, rfl⟩ := h'
    refine ⟨n, n, rfl, rfl, I.pos, hlen, Nat.le_refl _, by unfold maxLen; omega, size_madeCells _ _, fun k q u hq hu => ?_⟩
    obtain ⟨h1, v, rfl⟩ := hget k q hq
    rw [hu] at h1
    simp only [Option.some.injEq] at h1; subst h1
    exact .v _
  · have hl2 : some (AB.vec E size ((List.replicate n z0).flatMap enc)) = some (.vec E' size' l') := by
      have : (st.new (.vec E size ((List.replicate n z0).flatMap enc))).H st.nx = some (.vec E' size' l') := hl'
      rwa [H_new, if_pos rfl] at this
    simp only [Option.some.injEq, AB.vec.injEq] at hl2
    obtain ⟨rfl, rfl, rfl⟩ := hl2
    exact ⟨by rw [hlen]; exact Nat.le_refl _, fun _ => by simp [Wd.new, hs.nx]⟩
end
end Go.Proofs.YtkhljpbkebnnmaaGreatDoor.Ev
/- Rules of a walk over abstract states: stores into lists, lists that stand from now on, more calls, comparison of structs. Nothing here names a program. -/
namespace Go.Proofs.YtkhljpbkebnnmaaGreatDoor.Ev
set_option linter.unusedVariables false
set_option linter.unusedSimpArgs false
open Go.RowKit
theorem splice_mid {α : Type} (A e B ys : List α) (j : Nat) (hj : j + ys.length ≤ e.length) : splice (A ++ (e ++ B)) ys (A.length + j) = A ++ (splice e ys j ++ B) := by
  unfold splice
  rw [List.take_append, List.take_of_length_le (by omega), Nat.add_sub_cancel_left, List.take_append_of_le_length (by omega), Nat.add_assoc, List.drop_append, List.drop_eq_nil_of_le (by omega), Nat.add_sub_cancel_left, List.drop_append_of_le_length (by omega)]
  simp only [List.append_assoc, List.nil_append]
theorem splice_flat {α : Type} {enc : α → List CV} {size : Nat} (J : EncL enc size) (l : List α) (k j : Nat) (hk : k < l.length) (ys : List CV) (hj : j + ys.length ≤ size) (x0 : α) (hx : enc x0 = splice (enc l[k]) ys j) : splice (l.flatMap enc) ys (k * size + j) = (l.set k x0).flatMap enc := by
  have hl : l.flatMap enc = (l.take k).flatMap enc ++ (enc l[k] ++ (l.drop (k + 1)).flatMap enc) := by
    conv => lhs; rw [← List.take_append_drop k l, List.drop_eq_getElem_cons hk]
    rw [List.flatMap_append, List.flatMap_cons]
  have hlen : ((l.take k).flatMap enc).length = k * size := by
    rw [flat_len J.len, List.length_take, Nat.min_eq_left (Nat.le_of_lt hk)]
  rw [hl, ← hlen, splice_mid _ _ _ _ j (by rw [J.len]; exact hj), ← hx, List.set_eq_take_append_cons_drop, if_pos hk, List.flatMap_append, List.flatMap_cons]
section
variable {P : Program} {ops : Array Oper} {Q : Exit → St → Prop} {rest : List Oper} {st : St} {d : Nat} {ty : TypeId} {pos : String} {af : Array Edge}
theorem store_v {base : Nat} {w0 : W0} {M : Wd} {a : Act} {t m b n off g cap E size : Nat} {ag : Bool} {xs ys : List CV} {v : Value} (I : TyC P t ag m) (hs : Sim base w0 st M a) (hH : st.H b = some (.vec E size xs)) (hm : M.m b = .row (.slice (some ⟨g, 0, none⟩) n cap)) (hn : xs.length = n * size)
    (hy : ys.length = m) (hl : off + m ≤ xs.length) (hsz : v.cells.size = m) (hone : ∀ u ∈ v.cells.toList, u.oneCell' = true) (hr : ∀ (i : Nat) (y : CV) (u : Value), ys[i]? = some y → v.cells[i]? = some u → RC M.F M.w y u) :
    ∃ w' M', (Instr.storeAt t (.pointer (some ⟨g, off, none⟩)) v).run P M.w = .ok () w' ∧ M'.w = w' ∧ Sim base w0 (st.set b (.vec E size (splice xs ys off))) M' a ∧ Ext M M' := by
  have hb : M.H b = some (.vec E size xs) := by rw [hs.H]; exact hH
  obtain ⟨v', n', us, e1, e2, e3, e4, e5, e6⟩ := hs.heap.vec b E size xs hb
  rw [hm] at e1; cases e1
  have hnn : n = n' := Nat.eq_of_mul_eq_mul_right e3 (by rw [← hn, e2])
  subst hnn
  rcases e4.2 with ⟨h0, _⟩ | ⟨g', cap', cur, hv, f1, f2, f3, f4, f5, f6⟩
  · cases h0
  simp only [Value.slice.injEq, Option.some.injEq, Addr.mk.injEq] at hv
  obtain ⟨⟨rfl, _, _⟩, _, rfl⟩ := hv
  have hcl : n * size ≤ cur.size := by rw [f5]; exact Nat.mul_le_mul_right _ f3
  have hspl : (splice xs ys off).length = xs.length := by simp [splice]; omega
  have hFk : ∀ k, M.F k → M.F k ∧ (M.w.setRow g (cur.toList.take off ++ v.cells.toList ++ cur.toList.drop (off + m)).toArray).heap[k]? = M.w.heap[k]? := fun k hk => ⟨hk, setRow_heap_ne _ _ _ _ (fun he => e6 g rfl (he ▸ hk))⟩
  refine ⟨_, M.set st b (.vec E size (splice xs ys off)) (.row (.slice (some ⟨g, 0, none⟩) n cap)) (M.w.setRow g (cur.toList.take off ++ v.cells.toList ++ cur.toList.drop (off + m)).toArray), run_store_row I M.w g off E cur v f2 hsz (by omega) hone, rfl, ?_⟩
  refine hs.change (by rw [hb]; simp) (fun k hk hne => setRow_heap_ne _ _ _ _ (fun he => hne (by rw [hm, he]; rfl))) (by rw [setRow_size]; exact Nat.le_refl _) rfl rfl rfl (fun k hk => ?_) (fun k hk => Or.inl (by rw [hm]; exact hk)) (fun k hk => by rw [hm] at hk; exact e6 k hk) (fun g' hg' => by rw [hm] at hg'; cases hg') (fun E' size' l' h => ?_) (fun M' _ _ _ t' l' h => by cases h) (fun E' size' l' h => ?_)
  · rw [hm] at hk; simp only [Conc.block, Value.ownBlock, Option.some.injEq] at hk; omega
  · simp only [AB.vec.injEq] at h
    obtain ⟨rfl, rfl, rfl⟩ := h
    exact ⟨xs, hb, by omega, fun _ => hm.symm⟩
  · simp only [AB.vec.injEq] at h
    obtain ⟨rfl, rfl, rfl⟩ := h
    have hcells : v.cells.toList.length = m := by simpa using hsz
    refine ⟨_, n, splice us v.cells.toList off, rfl, by omega, e3, ⟨?_, Or.inr ⟨g, cap, _, rfl, f1, setRow_heap _ _ _ _ _ _ f2, f3, f4, ?_, ?_⟩⟩, fun i y u hy' hu => ?_⟩
    · simp only [splice, List.length_append, List.length_take, List.length_drop, hcells]
      have := e4.1; omega
    · simp; omega
    · rw [← f6]
      apply List.ext_getElem?
      intro i
      have hul : (cur.toList.take (n * size)).length = n * size := by simp; omega
      rw [splice, aget_splice _ _ off v.cells.toList.length i rfl (by rw [hul, hcells]; omega), hcells]
      by_cases hi : i < n * size
      · rw [List.getElem?_take_of_lt hi, aget_splice _ _ off m i hcells (by simp; omega), List.getElem?_take_of_lt hi]
      · rw [List.getElem?_eq_none (by simp; omega), if_neg (by omega), if_neg (by omega), List.getElem?_eq_none (by rw [hul]; omega)]
    · have hul : us.length = n * size := e4.1
      rw [splice, aget_splice xs ys off ys.length i rfl (by omega), hy] at hy'
      rw [splice, aget_splice us v.cells.toList off v.cells.toList.length i rfl (by rw [hcells]; omega), hcells] at hu
      split at hy'
      · rename_i h1; rw [if_pos h1] at hu; exact (e5 i y u hy' hu).mono hFk
      · rename_i h1; rw [if_neg h1] at hu
        split at hy'
        · rename_i h2; rw [if_pos h2] at hu; exact (hr _ y u hy' (by simpa using hu)).mono hFk
        · rename_i h2; rw [if_neg h2] at hu; exact (e5 i y u hy' hu).mono hFk
theorem ao_store_v {α : Type} {enc : α → List CV} {x z : Operand} {t m b n k E size : Nat} {ag : Bool} {l : List α} {y : AV} {ys : List CV} [I : TyC P t ag m] (x0 : α) (hx : st.ev x = some (.vptr b n (k * size))) (hH : st.H b = some (.vec E size (l.flatMap enc))) (J : EncL enc size) (hn : l.length = n) (hk : k < l.length) (hz : st.ev z = some y) (hy : cvL y = some ys) (hm : ys.length = m) (hxe : enc x0 = ys)
    (h : AOps P ops Q rest (st.set b (.vec E size ((l.set k x0).flatMap enc)))) : AOps P ops Q (⟨none, .store t x z, ty, pos, af, none⟩ :: rest) st := by
  have hfl : (l.flatMap enc).length = n * size := by rw [flat_len J.len, hn]
  have hys : ys.length = size := by rw [← hxe, J.len]
  have hsp := splice_flat J l k 0 hk ys (by omega) x0 (by
    rw [hxe]; unfold splice
    rw [List.take_zero, List.nil_append, Nat.zero_add, List.drop_eq_nil_of_le (by rw [J.len]; omega), List.append_nil])
  rw [Nat.add_zero] at hsp
  rw [← hsp] at h
  refine ao_store_gen (fun base w0 M a hs => ?_) h
  have hv := hs.ev hx
  obtain ⟨c1, c2, c3⟩ := cvL_ra hy (hs.ev hz)
  generalize he : a.eval x = u at hv
  cases hv with
  | vptr hb ho hh =>
    obtain ⟨_, h2⟩ := hh E size _ (by rw [hs.H]; exact hH)
    obtain ⟨g, cap, h3, rfl⟩ := h2 hfl
    have hmul : (k + 1) * size ≤ n * size := Nat.mul_le_mul_right _ (by omega)
    rw [Nat.add_mul] at hmul
    exact store_v I hs hH h3 hfl hm (by rw [hfl]; omega) (by omega) c2 c3
def St.drop (s : St) (b : Nat) : St := { s with heap := (b, none) :: s.heap }
theorem H_drop (st : St) (b' b : Nat) : (st.drop b').H b = if b' = b then none else st.H b := by
  unfold St.H St.drop
  simp only [look_cons]
  by_cases h : b' = b
  · simp [h]
  · simp [h]
theorem Sim.freeze {base : Nat} {w0 : W0} {M : Wd} {a : Act} (hs : Sim base w0 st M a) {b E size : Nat} {l : List CV} (hH : st.H b = some (.vec E size l)) :
    ∃ M', M'.w = M.w ∧ Sim base w0 (st.drop b) M' a ∧ Ext M M' ∧ ∀ n v, l.length = n * size → RA M (.vec b n) v → RC M'.F M'.w (.lst size l) v := by
  have hb : M.H b = some (.vec E size l) := by rw [hs.H]; exact hH
  obtain ⟨v, n, cs, e1, e2, e3, e4, e5, e6⟩ := hs.heap.vec b E size l hb
  let M' : Wd := { M with H := (st.drop b).H, F := fun k => M.F k ∨ v.ownBlock = some k }
  have hH' : ∀ k, M'.H k = if b = k then none else M.H k := fun k => by
    show (st.drop b).H k = _
    rw [H_drop, hs.H]
  have hne : ∀ k x, M'.H k = some x → b ≠ k ∧ M.H k = some x := fun k x hx => by
    rw [hH'] at hx
    by_cases h : b = k
    · rw [if_pos h] at hx; cases hx
    · rw [if_neg h] at hx; exact ⟨h, hx⟩
  have hext : Ext M M' := ⟨fun _ _ h => h, fun k E' size' l' _ hl => ⟨l', (hne k _ hl).2, Nat.le_refl _, fun _ => rfl⟩, Nat.le_refl _, fun k hk => ⟨Or.inl hk, rfl⟩⟩
  have hblk : (M.m b).block = v.ownBlock := by rw [e1]; rfl
  refine ⟨M', rfl, ⟨rfl, hs.nx, hs.n, fun i y hy => ?_, fun g xs hg => (hs.gl g xs hg).mono hext, ⟨?_, ?_, ?_, ?_, hs.heap.fresh, ?_, ?_⟩, hs.below, hs.base, hs.defs, ?_⟩, hext, fun n' v' hl hv => ?_⟩
  · obtain ⟨u, h1, h2⟩ := hs.env i y hy
    exact ⟨u, h1, h2.mono hext⟩
  · intro k t l' hl
    obtain ⟨h1, h2⟩ := hne k _ hl
    obtain ⟨g, arr, g1, g2, g3, g4, g5, g6⟩ := hs.heap.cells k t l' h2
    refine ⟨g, arr, g1, g2, fun hf => ?_, g4, g5, fun i y u h3 h4 => (g6 i y u h3 h4).mono hext⟩
    rcases hf with hf | hf
    · exact g3 hf
    · exact hs.heap.sep k b g (Ne.symm h1) (by rw [h2]; simp) (by rw [hb]; simp) (by rw [g1]; rfl) (by rw [hblk]; exact hf)
  · intro k E' size' l' hl
    obtain ⟨h1, h2⟩ := hne k _ hl
    obtain ⟨v', n', cs', g1, g2, g3, g4, g5, g6⟩ := hs.heap.vec k E' size' l' h2
    refine ⟨v', n', cs', g1, g2, g3, g4, fun i y u h3 h4 => (g5 i y u h3 h4).mono hext.F, fun g hg hf => ?_⟩
    rcases hf with hf | hf
    · exact g6 g hg hf
    · exact hs.heap.sep k b g (Ne.symm h1) (by rw [h2]; simp) (by rw [hb]; simp) (by rw [g1]; exact hg) (by rw [hblk]; exact hf)
  · intro k k' g hkk hk hk'
    have h1 : M.H k ≠ none := fun h0 => hk (by rw [hH']; split <;> first | rfl | exact h0)
    have h2 : M.H k' ≠ none := fun h0 => hk' (by rw [hH']; split <;> first | rfl | exact h0)
    exact hs.heap.sep k k' g hkk h1 h2
  · intro k hk
    exact hs.heap.lt k (fun h0 => hk (by rw [hH']; split <;> first | rfl | exact h0))
  · intro k hk
    rcases hk with hk | hk
    · exact hs.heap.frz k hk
    · exact (World.ownsRow.lt e4 k hk).2
  · intro k p hp
    obtain ⟨h1, h2⟩ := hne k _ hp
    obtain ⟨g, g1, g2, g3, g4, g5⟩ := hs.heap.obj k p h2
    refine ⟨g, g1, g2, g3, fun q hq => ⟨(g4 q hq).1, (g4 q hq).2.1, fun hf => ?_⟩, fun b' q hbb hq => ⟨fun hb' => (g5 b' q hbb hq).1 (fun h0 => hb' (by rw [hH']; split <;> first | rfl | exact h0)), fun p' hp' => (g5 b' q hbb hq).2 p' (hne b' _ hp').2⟩⟩
    rcases hf with hf | hf
    · exact (g4 q hq).2.2 hf
    · exact (g5 b q h1 hq).1 (by rw [hb]; simp) (by rw [hblk]; exact hf)
  · intro k hk hlt
    rcases hk with hk | hk
    · exact hs.old k hk hlt
    · have := (World.ownsRow.lt e4 k hk).1; omega
  · refine cl_rc hs.heap (F' := M'.F) (fun k hk => Or.inl hk) (H := fun k => if k = b then M.H k else none) (fun k E' s' l' hk => ?_) hv ?_
    · by_cases h : k = b
      · subst h; rw [if_pos rfl] at hk; exact ⟨hk, fun g hg => Or.inr (by rw [← hblk]; exact hg)⟩
      · rw [if_neg h] at hk; cases hk
    · exact cl_vec (E := E) (by rw [if_pos rfl]; exact hb) hl
theorem ao_freeze {l : List Oper} (i : Nat) {b n E size : Nat} {xs : List CV} (hi : look i st.env = some (.vec b n)) (hH : st.H b = some (.vec E size xs)) (hn : xs.length = n * size) (h : AOps P ops Q l ((st.drop b).put i (.c (.lst size xs)))) : AOps P ops Q l st := by
  intro base w0 M a hs
  obtain ⟨M', h1, h2, h3, h4⟩ := hs.freeze hH
  obtain ⟨v, g1, g2⟩ := hs.env i _ hi
  have hs' : Sim base w0 ((st.drop b).put i (.c (.lst size xs))) M' a := by
    refine ⟨h2.H, h2.nx, h2.n, fun j y hy => ?_, h2.gl, h2.heap, h2.below, h2.base, h2.defs, h2.old⟩
    simp only [St.put, look_cons] at hy
    split at hy
    · rename_i hj; subst hj; simp only [Option.some.injEq] at hy; subst hy; exact ⟨v, g1, .c (h4 n v hn g2)⟩
    · exact h2.env j y hy
  rw [← h1]
  exact wpList_monoQ (fun e a w => Lift.ext h3) _ _ _ (h base w0 M' a hs')
def CV.plain : CV → Bool
  | .v _ => true
  | .agg xs => plainL xs
  | .tup xs => plainL xs
  | .lst _ _ => false
  | .e0 => true
where plainL : List CV → Bool
  | [] => true
  | x :: l => CV.plain x && plainL l
theorem plainL_get : ∀ {xs : List CV}, CV.plain.plainL xs = true → ∀ (i : Nat) (x : CV), xs[i]? = some x → x.plain = true
  | [], _, i, x, h => by simp at h
  | y :: l, hl, 0, x, h => by
    simp only [CV.plain.plainL, Bool.and_eq_true] at hl
    simp only [List.getElem?_cons_zero, Option.some.injEq] at h; subst h; exact hl.1
  | y :: l, hl, i + 1, x, h => by
    simp only [CV.plain.plainL, Bool.and_eq_true] at hl
    exact plainL_get hl.2 i x (by simpa using h)
theorem RC.plain {F F' : Nat → Prop} {w w' : World} {x : CV} {u : Value} (h : RC F w x u) : x.plain = true → RC F' w' x u := by
  induction h with
  | v x => exact fun _ => .v x
  | agg hl _ ih => exact fun hp => .agg hl (fun i x u hx hu => ih i x u hx hu (plainL_get hp i x hx))
  | tup hl _ ih => exact fun hp => .tup hl (fun i x u hx hu => ih i x u hx hu (plainL_get hp i x hx))
  | nil => exact fun hp => by cases hp
  | e0 => exact fun _ => .e0
  | lst _ _ _ _ _ _ _ => exact fun hp => by cases hp
theorem ao_callv {f : FuncId} {args : List Operand} {tys : Array TypeId} {ys : List AV} {zs : List CV} {r : CV} (hcon : Con P st.gl f zs r) (hys : evs st args = some ys) (hz : cl.clL st.H ys zs) (hr : r.plain = true) (hd : Nat.blt d st.n = true)
    (h : AOps P ops Q rest (st.put d (ofC r))) : AOps P ops Q (⟨some d, .call ⟨.value (.func f), args.toArray, tys⟩, ty, pos, af, none⟩ :: rest) st := by
  intro base w0 M a hs
  obtain ⟨e1, e2⟩ := evs_get hys
  obtain ⟨e3, e4⟩ := clL_get hz
  have hFm : ∀ b, M.F b → b < M.w.heap.size := hs.heap.frz
  refine wl_enter rfl (run_call hcon.1 a M.w) (R := fun v w'' => Below M.w.heap.size M.w w'' ∧ RC (M.after w'').F w'' r v) (Calls.mono (hcon.2 M.w (fun b => b < M.w.heap.size) _ (fun b h => h) (fun g xs hg => ?_) (by simp; omega) (fun i x u hx hu => ?_)) (fun e w'' ⟨v, he, hb, hrc⟩ => ⟨v, he, hb, hrc.plain hr⟩)) (fun v w'' hR => ?_)
  · have := hs.gl g xs hg
    generalize hq : Value.pointer (some ⟨g, 0, none⟩) = q at this ⊢
    cases this with
    | eptr cs hF hcell hr => exact .eptr cs (hFm _ hF) hcell (fun i x hi => (hr i x hi).mono (fun b hb => ⟨hFm b hb, rfl⟩))
  · have hi : i < args.length := by have := (List.getElem?_eq_some_iff.1 hx).1; omega
    obtain ⟨y, hy⟩ : ∃ y, ys[i]? = some y := ⟨_, List.getElem?_eq_getElem (by omega)⟩
    have hev := hs.ev (e2 i args[i] y (by simp [hi]) hy)
    have hu' : a.eval args[i] = u := by simpa [hi] using hu
    rw [hu'] at hev
    refine cl_rc hs.heap (F' := fun b => b < M.w.heap.size) hFm (fun b E s l hb => ?_) hev (e4 i y x hy hx)
    rw [← hs.H] at hb
    refine ⟨hb, fun g hg => conc_lt hs.heap (by rw [hb]; simp) hg⟩
  · obtain ⟨hb, hrc⟩ := hR
    have := h base w0 (M.after w'') _ ((hs.after hb).put hd (RA.ofC (M := M.after w'') hrc))
    exact wpList_monoQ (fun e a w => Lift.ext (Ext.after hb hs.heap.frz)) _ _ _ this
class EqInts (P : Program) (t : Nat) (n : outParam Nat) : Prop where
  h : ∀ (w : World) (x y : Operand) (as bs : List Int), as.length = n → bs.length = n →
    (do eqGuard .eql t x y (.agg (as.map (Value.int .i64)).toArray) (.agg (bs.map (Value.int .i64)).toArray); binOp .eql t (.agg (as.map (Value.int .i64)).toArray) (.agg (bs.map (Value.int .i64)).toArray)).run P w = .ok (.bool (decide (as = bs))) w ∧
    (do eqGuard .neq t x y (.agg (as.map (Value.int .i64)).toArray) (.agg (bs.map (Value.int .i64)).toArray); binOp .neq t (.agg (as.map (Value.int .i64)).toArray) (.agg (bs.map (Value.int .i64)).toArray)).run P w = .ok (.bool (!decide (as = bs))) w
def ints : List AV → Option (List Int)
  | [] => some []
  | .c (.v (.int .i64 k)) :: l => (ints l).map (k :: ·)
  | _ :: _ => none
theorem ints_val {M : Wd} : ∀ {xs : List AV} {as : List Int} {vs : List Value}, ints xs = some as → xs.length = vs.length → (∀ (i : Nat) (x : AV) (u : Value), xs[i]? = some x → vs[i]? = some u → RA M x u) → vs = as.map (Value.int .i64)
  | [], as, vs, h, hl, _ => by
    simp only [ints, Option.some.injEq] at h; subst h
    exact List.eq_nil_of_length_eq_zero (by simpa using hl.symm)
  | x :: xs, as, vs, h, hl, hr => by
    match vs, hl with
    | v :: vs, hl =>
      unfold ints at h
      split at h
      · rename_i heq; exact absurd heq (by simp)
      · rename_i k l heq
        simp only [List.cons.injEq] at heq
        obtain ⟨rfl, rfl⟩ := heq
        simp only [Option.map_eq_some_iff] at h
        obtain ⟨as', h1, rfl⟩ := h
        have h2 := (hr 0 _ v rfl rfl).bool
        have h3 := ints_val h1 (by simpa using hl) (fun i x u hx hu => hr (i + 1) x u (by simpa using hx) (by simpa using hu))
        rw [h2, h3]; rfl
      · cases h
theorem ao_eqs {X : List Oper → St → Prop} [W : Walk P X] {x y : Operand} {t t2 n : Nat} {xs ys : List AV} {as bs : List Int} [I : EqInts P t n] (hx : st.ev x = some (.agg xs)) (hy : st.ev y = some (.agg ys)) (ha : ints xs = some as) (hb : ints ys = some bs) (hn : as.length = n) (hn2 : bs.length = n) (hd : Nat.blt d st.n = true) (h : X rest (st.put d (.c (.v (.bool (decide (as = bs))))))) : X (⟨some d, .binOp .eql t x y t2, ty, pos, af, none⟩ :: rest) st := by
  refine ao_val rfl rfl hd (fun _ _ M a hs => ?_) h
  have h1 := hs.ev (by simp [Op.operands]) hx
  have h2 := hs.ev (by simp [Op.operands]) hy
  generalize he1 : a.eval x = u1 at h1
  generalize he2 : a.eval y = u2 at h2
  cases h1 with
  | agg l1 r1 =>
    cases h2 with
    | agg l2 r2 =>
      rename_i v1 v2
      have e1 : v1.toList = _ := ints_val ha (by simpa using l1) (fun i x u hx hu => r1 i x u hx (by simpa using hu))
      have e2 : v2.toList = _ := ints_val hb (by simpa using l2) (fun i x u hx hu => r2 i x u hx (by simpa using hu))
      have e1' : v1 = (as.map (Value.int .i64)).toArray := by rw [← e1]
      have e2' : v2 = (bs.map (Value.int .i64)).toArray := by rw [← e2]
      subst e1'; subst e2'
      refine ⟨_, ?_, .c (.v _)⟩
      simp only [execOp, he1, he2]
      rw [Sem.run_bind, (I.h M.w x y as bs hn hn2).1]; rfl
theorem ao_neqs {X : List Oper → St → Prop} [W : Walk P X] {x y : Operand} {t t2 n : Nat} {xs ys : List AV} {as bs : List Int} [I : EqInts P t n] (hx : st.ev x = some (.agg xs)) (hy : st.ev y = some (.agg ys)) (ha : ints xs = some as) (hb : ints ys = some bs) (hn : as.length = n) (hn2 : bs.length = n) (hd : Nat.blt d st.n = true) (h : X rest (st.put d (.c (.v (.bool (!decide (as = bs))))))) : X (⟨some d, .binOp .neq t x y t2, ty, pos, af, none⟩ :: rest) st := by
  refine ao_val rfl rfl hd (fun _ _ M a hs => ?_) h
  have h1 := hs.ev (by simp [Op.operands]) hx
  have h2 := hs.ev (by simp [Op.operands]) hy
  generalize he1 : a.eval x = u1 at h1
  generalize he2 : a.eval y = u2 at h2
  cases h1 with
  | agg l1 r1 =>
    cases h2 with
    | agg l2 r2 =>
      rename_i v1 v2
      have e1 : v1.toList = _ := ints_val ha (by simpa using l1) (fun i x u hx hu => r1 i x u hx (by simpa using hu))
      have e2 : v2.toList = _ := ints_val hb (by simpa using l2) (fun i x u hx hu => r2 i x u hx (by simpa using hu))
      have e1' : v1 = (as.map (Value.int .i64)).toArray := by rw [← e1]
      have e2' : v2 = (bs.map (Value.int .i64)).toArray := by rw [← e2]
      subst e1'; subst e2'
      refine ⟨_, ?_, .c (.v _)⟩
      simp only [execOp, he1, he2]
      rw [Sem.run_bind, (I.h M.w x y as bs hn hn2).2]; rfl
end
end Go.Proofs.YtkhljpbkebnnmaaGreatDoor.Ev
/- Rules of a walk over abstract states: calls that are walked through, the nil slice as a list of the call's own. Nothing here names a program. -/
namespace Go.Proofs.YtkhljpbkebnnmaaGreatDoor.Ev
set_option linter.unusedVariables false
set_option linter.unusedSimpArgs false
open Go.RowKit
def argEnvA : Nat → List AV → List (Nat × AV)
  | _, [] => []
  | k, x :: l => (k, x) :: argEnvA (k + 1) l
theorem argEnvA_get : ∀ (l : List AV) (k i : Nat) (y : AV), look i (argEnvA k l) = some y → k ≤ i ∧ l[i - k]? = some y
  | [], k, i, y, h => by simp [argEnvA, look] at h
  | x :: l, k, i, y, h => by
    rw [argEnvA, look_cons] at h
    split at h
    · rename_i hk; subst hk; simp only [Option.some.injEq] at h; exact ⟨Nat.le_refl _, by simp [h]⟩
    · obtain ⟨h1, h2⟩ := argEnvA_get l (k + 1) i y h
      refine ⟨by omega, ?_⟩
      rw [show i - k = (i - (k + 1)) + 1 by omega]
      simpa using h2
section
variable {P : Program} {ops : Array Oper} {Q : Exit → St → Prop} {rest : List Oper} {st : St} {d : Nat} {ty : TypeId} {pos : String} {af : Array Edge}
def Back (t : Nat) (gl : List (Nat × List CV)) (K : AV → List (Nat × Option AB) → Nat → Prop) : Exit → St → Prop
  | e, s => (e = .normal ∨ e = .ret) ∧ s.gl = gl ∧ ∃ y, look t s.env = some y ∧ K y s.heap s.nx
theorem back_ret {t : Nat} {n : Nat} {env : List (Nat × AV)} {heap : List (Nat × Option AB)} {nx : Nat} {gl : List (Nat × List CV)} {y : AV} {K : AV → List (Nat × Option AB) → Nat → Prop} (h : look t env = some y) (hK : K y heap nx) : Back t gl K .ret ⟨n, env, heap, nx, gl⟩ := ⟨Or.inr rfl, rfl, y, h, hK⟩
theorem ao_in {f : FuncId} {fn : Func} {c : Code} {t : Nat} {args : List Operand} {tys : Array TypeId} {ys : List AV} (hf : P.funcs[f]? = some fn) (hb : fn.body = some c) (hr : fn.results = #[.tmp t]) (hcall : callableB P f = true) (hys : evs st args = some ys) (hn : Nat.ble ys.length fn.ntmps = true) (hd : Nat.blt d st.n = true)
    (h : Awp P c (Back t st.gl (fun y heap nx => AOps P ops Q rest ⟨st.n, (d, y) :: st.env, heap, nx, st.gl⟩)) ⟨fn.ntmps, argEnvA 0 ys, st.heap, st.nx, st.gl⟩) : AOps P ops Q (⟨some d, .call ⟨.value (.func f), args.toArray, tys⟩, ty, pos, af, none⟩ :: rest) st := by
  intro base w0 M a hs
  obtain ⟨e1, e2⟩ := evs_get hys
  have hn := Nat.le_of_ble_eq_true hn
  have hsim : Sim base w0 ⟨fn.ntmps, argEnvA 0 ys, st.heap, st.nx, st.gl⟩ M { tmps := (args.map a.eval).toArray ++ Array.replicate (fn.ntmps - (args.map a.eval).toArray.size) undef, defers := [] } := by
    refine ⟨hs.H, hs.nx, by simp; omega, fun i y hy => ?_, hs.gl, hs.heap, hs.below, hs.base, rfl, hs.old⟩
    obtain ⟨_, h1⟩ := argEnvA_get ys 0 i y hy
    rw [Nat.sub_zero] at h1
    have hi : i < args.length := by have := (List.getElem?_eq_some_iff.1 h1).1; omega
    exact ⟨a.eval args[i], by simp [Array.getElem?_append, hi], hs.ev (e2 i args[i] y (by simp [hi]) h1)⟩
  refine wl_enter rfl (run_call hcall a M.w) (R := fun v w'' => wpList P ops (Lift base w0 M Q) rest (a.put (some d) v) w'') (calls_of_wp hf hb ?_) (fun v w'' hR => hR)
  refine Code.wp_mono ?_ (h base w0 M _ hsim)
  intro e a' w' ⟨M', s', h1, h2, h3, h4, h5, y, h6, h7⟩
  subst h1
  obtain ⟨v, g1, g2⟩ := h2.env t y h6
  have hres : (results fn a'.tmps).run P M'.w = .ok v M'.w := by
    unfold results
    rw [hr]
    simp [Array.getD_eq_getD_getElem?, g1]
  have hd' := blt_true hd
  have hcaller : Sim base w0 ⟨st.n, (d, y) :: st.env, s'.heap, s'.nx, st.gl⟩ M' (a.put (some d) v) := by
    refine ⟨h2.H, h2.nx, by show (a.tmps.setIfInBounds d v).size = _; rw [Array.size_setIfInBounds]; exact hs.n, fun i z hz => ?_, fun g xs hg => h2.gl g xs (by rw [h5]; exact hg), h2.heap, h2.below, h2.base, by simpa [Act.put] using hs.defs, h2.old⟩
    rw [look_cons] at hz
    by_cases hi : d = i
    · subst hi
      rw [if_pos rfl] at hz
      simp only [Option.some.injEq] at hz; subst hz
      exact ⟨v, by simp [Act.put, hs.n, hd'], g2⟩
    · rw [if_neg hi] at hz
      obtain ⟨u, q1, q2⟩ := hs.env i z hz
      exact ⟨u, by simp [Act.put, Array.getElem?_setIfInBounds_ne hi, q1], q2.mono h3⟩
  have hgoal : wpList P ops (Lift base w0 M Q) rest (a.put (some d) v) M'.w := wpList_monoQ (fun e a w => Lift.ext h3) _ _ _ (h7 base w0 M' _ hcaller)
  have : bodyPost P fn (fun e w'' => ∃ v, e = .returned v ∧ wpList P ops (Lift base w0 M Q) rest (a.put (some d) v) w'') e a' M'.w := by
    rcases h4 with rfl | rfl
    · exact ⟨h2.defs, v, hres, v, rfl, hgoal⟩
    · exact ⟨h2.defs, v, hres, v, rfl, hgoal⟩
  exact this
theorem ra_lt {M : Wd} (hf : ∀ b, M.nx ≤ b → ∀ g, M.m b ≠ .blk g) {x : AV} {u : Value} (h : RA M x u) : AV.lt M.nx x = true := by
  have hall : ∀ (xs : List AV) (vs : Array Value), xs.length = vs.size → (∀ (i : Nat) (x : AV) (u : Value), xs[i]? = some x → vs[i]? = some u → AV.lt M.nx x = true) → AV.lt.ltL M.nx xs = true := by
    intro xs vs hl hh
    have key : ∀ (ys : List AV), (∀ y ∈ ys, AV.lt M.nx y = true) → AV.lt.ltL M.nx ys = true := by
      intro ys
      induction ys with
      | nil => intro _; rfl
      | cons y ys ih => intro h; simp only [AV.lt.ltL, Bool.and_eq_true]; exact ⟨h y (by simp), ih (fun z hz => h z (by simp [hz]))⟩
    refine key xs (fun y hy => ?_)
    obtain ⟨i, hi, rfl⟩ := List.mem_iff_getElem.1 hy
    exact hh i xs[i] (vs[i]'(by omega)) (by simp [hi]) (by simp)
  induction h with
  | c _ => rfl
  | agg hl _ ih => exact hall _ _ hl ih
  | tup hl _ ih => exact hall _ _ hl ih
  | fn hl _ ih => exact hall _ _ hl ih
  | ptr hb =>
    rename_i b off g
    have : b < M.nx := Nat.lt_of_not_le fun hc => hf b hc g hb
    exact Nat.ble_eq_true_of_le this
  | vec hb _ _ => exact Nat.ble_eq_true_of_le hb
  | vptr hb _ _ => exact Nat.ble_eq_true_of_le hb
  | ghost hb _ _ => exact Nat.ble_eq_true_of_le hb
  | @ref b g f hb _ =>
    have : b < M.nx := Nat.lt_of_not_le fun hc => hf b hc g hb
    exact Nat.ble_eq_true_of_le this
  | eptr _ _ _ _ => rfl
structure Fewer (h : List (Nat × Option AB)) (nx : Nat) (h2 h' : List (Nat × Option AB)) : Prop where
  same : ∀ i, i < nx → look i h' = look i h2
  none : ∀ i, nx ≤ i → look i h' = look i h
  cells : ∀ i t l, look i h' = some (some (.cells t l)) → look i h = some (some (.cells t l))
theorem ao_inW {f : FuncId} {fn : Func} {c : Code} {t : Nat} {args : List Operand} {tys : Array TypeId} {ys : List AV} (hf : P.funcs[f]? = some fn) (hb : fn.body = some c) (hr : fn.results = #[.tmp t]) (hcall : callableB P f = true) (hys : evs st args = some ys) (hn : Nat.ble ys.length fn.ntmps = true) (hd : Nat.blt d st.n = true)
    (h : Awp P c (Back t st.gl (fun y heap nx => ∃ heap', st.nx ≤ nx ∧ Fewer st.heap st.nx heap heap' ∧ AV.lt st.nx y = true ∧ AOps P ops Q rest ⟨st.n, (d, y) :: st.env, heap', st.nx, st.gl⟩)) ⟨fn.ntmps, argEnvA 0 ys, st.heap, st.nx, st.gl⟩) : AOps P ops Q (⟨some d, .call ⟨.value (.func f), args.toArray, tys⟩, ty, pos, af, none⟩ :: rest) st := by
  intro base w0 M a hs
  obtain ⟨e1, e2⟩ := evs_get hys
  have hn := Nat.le_of_ble_eq_true hn
  have hsim : Sim base w0 ⟨fn.ntmps, argEnvA 0 ys, st.heap, st.nx, st.gl⟩ M { tmps := (args.map a.eval).toArray ++ Array.replicate (fn.ntmps - (args.map a.eval).toArray.size) undef, defers := [] } := by
    refine ⟨hs.H, hs.nx, by simp; omega, fun i y hy => ?_, hs.gl, hs.heap, hs.below, hs.base, rfl, hs.old⟩
    obtain ⟨_, h1⟩ := argEnvA_get ys 0 i y hy
    rw [Nat.sub_zero] at h1
    have hi : i < args.length := by have := (List.getElem?_eq_some_iff.1 h1).1; omega
    exact ⟨a.eval args[i], by simp [Array.getElem?_append, hi], hs.ev (e2 i args[i] y (by simp [hi]) h1)⟩
  refine wl_enter rfl (run_call hcall a M.w) (R := fun v w'' => wpList P ops (Lift base w0 M Q) rest (a.put (some d) v) w'') (calls_of_wp hf hb ?_) (fun v w'' hR => hR)
  refine Code.wp_mono ?_ (h base w0 M _ hsim)
  intro e a' w' ⟨M', s', h1, h2, h3, h4, h5, y, h6, heap', h7, h8, h9, h10⟩
  subst h1
  obtain ⟨v, g1, g2⟩ := h2.env t y h6
  have hres : (results fn a'.tmps).run P M'.w = .ok v M'.w := by
    unfold results
    rw [hr]
    simp [Array.getD_eq_getD_getElem?, g1]
  have hd' := blt_true hd
  have hw : Weak ⟨st.n, [], s'.heap, s'.nx, st.gl⟩ ⟨st.n, [], heap', st.nx, st.gl⟩ := by
    refine ⟨rfl, rfl, h7, fun i x hx => by simp [look] at hx, fun b x hx => ?_⟩
    have hx := St.H_some hx
    have hlt : b < st.nx := by
      rcases Nat.lt_or_ge b st.nx with hc | hc
      · exact hc
      · have h0 : st.H b ≠ none := by
          unfold St.H
          rw [show look b st.heap = some (some x) from (h8.none b hc) ▸ hx]; simp
        have := hs.heap.lt b (by rw [hs.H]; exact h0)
        rw [hs.nx] at this; exact this
    refine ⟨?_, hlt, ?_⟩
    · unfold St.H
      rw [show look b s'.heap = some (some x) from (h8.same b hlt) ▸ hx]
    · cases x with
      | vec _ _ _ => rfl
      | obj _ => rfl
      | cells t l =>
        have h0 : st.H b = some (.cells t l) := by unfold St.H; rw [h8.cells b t l hx]
        obtain ⟨g, arr, _, _, _, _, e5, e6⟩ := hs.heap.cells b t l (by rw [hs.H]; exact h0)
        show AV.lt.ltL st.nx l = true
        have key : ∀ (ys : List AV), (∀ y ∈ ys, AV.lt st.nx y = true) → AV.lt.ltL st.nx ys = true := by
          intro ys
          induction ys with
          | nil => intro _; rfl
          | cons y ys ih => intro h; simp only [AV.lt.ltL, Bool.and_eq_true]; exact ⟨h y (by simp), ih (fun z hz => h z (by simp [hz]))⟩
        refine key l (fun y hy => ?_)
        obtain ⟨i, hi, rfl⟩ := List.mem_iff_getElem.1 hy
        rw [← hs.nx]
        exact ra_lt hs.heap.fresh (e6 i l[i] (arr[i]'(by omega)) (by simp [hi]) (by simp))
  have hs0 : Sim base w0 ⟨st.n, [], s'.heap, s'.nx, st.gl⟩ M' (a.put (some d) v) :=
    ⟨h2.H, h2.nx, by show (a.tmps.setIfInBounds d v).size = _; rw [Array.size_setIfInBounds]; exact hs.n, fun i x hx => by simp [look] at hx, fun g xs hg => h2.gl g xs (by rw [h5]; exact hg), h2.heap, h2.below, h2.base, by simpa [Act.put] using hs.defs, h2.old⟩
  have hs1 := hs0.weak hw
  have hnx : M.nx = st.nx := hs.nx
  have hext : Ext M (M'.cut ⟨st.n, [], heap', st.nx, st.gl⟩) := h3.cut hs.heap.fresh (s := ⟨st.n, [], s'.heap, s'.nx, st.gl⟩) h2.H hw (by rw [hnx]; exact Nat.le_refl _)
  have hcaller : Sim base w0 ⟨st.n, (d, y) :: st.env, heap', st.nx, st.gl⟩ (M'.cut ⟨st.n, [], heap', st.nx, st.gl⟩) (a.put (some d) v) := by
    refine ⟨hs1.H, hs1.nx, hs1.n, fun i z hz => ?_, hs1.gl, hs1.heap, hs1.below, hs1.base, hs1.defs, hs1.old⟩
    rw [look_cons] at hz
    by_cases hi : d = i
    · subst hi
      rw [if_pos rfl] at hz
      simp only [Option.some.injEq] at hz; subst hz
      exact ⟨v, by simp [Act.put, hs.n, hd'], g2.cut (s := ⟨st.n, [], s'.heap, s'.nx, st.gl⟩) h2.H hw h9⟩
    · rw [if_neg hi] at hz
      obtain ⟨u, q1, q2⟩ := hs.env i z hz
      exact ⟨u, by simp [Act.put, Array.getElem?_setIfInBounds_ne hi, q1], q2.mono hext⟩
  have hgoal : wpList P ops (Lift base w0 M Q) rest (a.put (some d) v) M'.w := wpList_monoQ (fun e a w => Lift.ext hext) _ _ _ (h10 base w0 _ _ hcaller)
  have : bodyPost P fn (fun e w'' => ∃ v, e = .returned v ∧ wpList P ops (Lift base w0 M Q) rest (a.put (some d) v) w'') e a' M'.w := by
    rcases h4 with rfl | rfl
    · exact ⟨h2.defs, v, hres, v, rfl, hgoal⟩
    · exact ⟨h2.defs, v, hres, v, rfl, hgoal⟩
  exact this
theorem aw_nilvec {c : Code} {n : Nat} {env : List (Nat × AV)} {heap : List (Nat × Option AB)} {nx : Nat} {gl : List (Nat × List CV)} (i E size : Nat) (hi : look i env = some (.c (.v (.slice none 0 0)))) (hpos : Nat.blt 0 size = true) (h : Awp P c Q ⟨n, (i, .vec nx 0) :: env, (nx, some (.vec E size [])) :: heap, nx + 1, gl⟩) : Awp P c Q ⟨n, env, heap, nx, gl⟩ := by
  intro base w0 M a hs
  obtain ⟨M', m1, m2, m3, m4⟩ := hs.newNil E size (blt_true hpos)
  obtain ⟨v, g1, g2⟩ := hs.env i _ hi
  have hv := g2.bool
  subst hv
  have hs' : Sim base w0 ⟨n, (i, .vec nx 0) :: env, (nx, some (.vec E size [])) :: heap, nx + 1, gl⟩ M' a := by
    refine ⟨m3.H, m3.nx, m3.n, fun j y hy => ?_, m3.gl, m3.heap, m3.below, m3.base, m3.defs, m3.old⟩
    rw [look_cons] at hy
    split at hy
    · rename_i hj; subst hj; simp only [Option.some.injEq] at hy; subst hy
      refine ⟨_, g1, .vec (by rw [m3.nx]; exact Nat.lt_succ_self _) rfl (fun E' s' l' hl => ?_)⟩
      have hl' : some (AB.vec E size []) = some (.vec E' s' l') := by
        have : (St.new ⟨n, env, heap, nx, gl⟩ (.vec E size [])).H nx = some (.vec E' s' l') := by rw [← m3.H]; exact hl
        rwa [H_new, if_pos rfl] at this
      simp only [Option.some.injEq, AB.vec.injEq] at hl'
      obtain ⟨rfl, rfl, rfl⟩ := hl'
      exact ⟨by simp, fun _ => by rw [← show M.nx = nx from hs.nx]; exact m2⟩
    · exact m3.env j y hy
  rw [← m1]
  exact wp_mono (h base w0 M' a hs') fun e a w => Lift.ext m4
end
end Go.Proofs.YtkhljpbkebnnmaaGreatDoor.Ev
/- Rules of a walk: reading the call's own lists. Nothing here names a program. -/
namespace Go.Proofs.YtkhljpbkebnnmaaGreatDoor.Ev
set_option linter.unusedVariables false
set_option linter.unusedSimpArgs false
open Go.RowKit
section
variable {P : Program} {X : List Oper → St → Prop} {rest : List Oper} {d : Nat} {ty : TypeId} {pos : String} {af : Array Edge} {st : St}
theorem ao_index_vf [W : Walk P X] {α : Type} {enc : α → List CV} {x i : Operand} {t E E2 size bytes b m : Nat} [I : SlT P t E size bytes] {l : List α} {kk : IntKind} {idx : Int} (k : Nat) (hx : st.ev x = some (.vec b m)) (hH : st.H b = some (.vec E2 size (l.flatMap enc))) (J : EncL enc size) (hn : l.length = m) (hi : st.ev i = some (.c (.v (.int kk idx)))) (hk : idx = (k : Int)) (hlt : k < m) (hd : Nat.blt d st.n = true)
    (h : X rest (st.put d (.vptr b m (k * size)))) : X (⟨some d, .indexAddr t x i, ty, pos, af, none⟩ :: rest) st :=
  ao_index_v k hx hH (by rw [flat_len J.len, hn]) hi hk hlt hd h
theorem ao_field_vf [W : Walk P X] {α : Type} {enc : α → List CV} {x : Operand} {s i k b m off : Nat} [I : FieldAt P s i k] {E size : Nat} {l : List α} (hx : st.ev x = some (.vptr b m off)) (hH : st.H b = some (.vec E size (l.flatMap enc))) (J : EncL enc size) (hn : l.length = m) (hd : Nat.blt d st.n = true) (h : X rest (st.put d (.vptr b m (off + k)))) : X (⟨some d, .fieldAddr s x i, ty, pos, af, none⟩ :: rest) st :=
  ao_field_v hx hH (by rw [flat_len J.len, hn]) hd h
theorem ao_load_vf0 [W : Walk P X] {α : Type} {enc : α → List CV} {x : Operand} {t b m q k E size : Nat} {l : List α} {r : α} {y : CV} {ys : List CV} [I : TyC P t false q] (hx : st.ev x = some (.vptr b m (k * size))) (hH : st.H b = some (.vec E size (l.flatMap enc))) (J : EncL enc size) (hn : l.length = m) (hr : l[k]? = some r) (hy : enc r = y :: ys) (hd : Nat.blt d st.n = true) (h : X rest (st.put d (.c y))) : X (⟨some d, .load t x, ty, pos, af, none⟩ :: rest) st := by
  obtain ⟨hk, rfl⟩ := List.getElem?_eq_some_iff.1 hr
  exact ao_load_v hx hH (by rw [flat_len J.len, hn]) (by rw [drop_at J l k hk, hy]; rfl) hd h
theorem ao_load_vf [W : Walk P X] {α : Type} {enc : α → List CV} {x : Operand} {t b m q k j E size : Nat} {l : List α} {r : α} {y : CV} {ys : List CV} [I : TyC P t false q] (hx : st.ev x = some (.vptr b m (k * size + j))) (hH : st.H b = some (.vec E size (l.flatMap enc))) (J : EncL enc size) (hn : l.length = m) (hr : l[k]? = some r) (hj : Nat.ble j size = true) (hy : (enc r).drop j = y :: ys) (hd : Nat.blt d st.n = true) (h : X rest (st.put d (.c y))) : X (⟨some d, .load t x, ty, pos, af, none⟩ :: rest) st := by
  obtain ⟨hk, rfl⟩ := List.getElem?_eq_some_iff.1 hr
  exact ao_load_v hx hH (by rw [flat_len J.len, hn]) (by rw [drop_atj J l k j hk (Nat.le_of_ble_eq_true hj), hy]; rfl) hd h
theorem ao_load_vfa0 [W : Walk P X] {α : Type} {enc : α → List CV} {x : Operand} {t b m q k E size : Nat} {l : List α} {r : α} {zs : List AV} [I : TyC P t true q] (hx : st.ev x = some (.vptr b m (k * size))) (hH : st.H b = some (.vec E size (l.flatMap enc))) (J : EncL enc size) (hn : l.length = m) (hr : l[k]? = some r) (hq : Nat.beq q size = true) (hz : (enc r).map .c = zs) (hd : Nat.blt d st.n = true) (h : X rest (st.put d (.agg zs))) : X (⟨some d, .load t x, ty, pos, af, none⟩ :: rest) st := by
  obtain ⟨hk, rfl⟩ := List.getElem?_eq_some_iff.1 hr
  subst hz
  exact ao_load_va (enc l[k]) hx hH (by rw [flat_len J.len, hn]) (drop_at J l k hk) (by rw [J.len, beq_true hq]) hd h
theorem ao_load_vfa [W : Walk P X] {α : Type} {enc : α → List CV} {x : Operand} {t b m q k j E size : Nat} {l : List α} {r : α} {zs : List AV} [I : TyC P t true q] (hx : st.ev x = some (.vptr b m (k * size + j))) (hH : st.H b = some (.vec E size (l.flatMap enc))) (J : EncL enc size) (hn : l.length = m) (hr : l[k]? = some r) (hj : Nat.ble (j + q) size = true) (hz : (((enc r).drop j).take q).map .c = zs) (hd : Nat.blt d st.n = true) (h : X rest (st.put d (.agg zs))) : X (⟨some d, .load t x, ty, pos, af, none⟩ :: rest) st := by
  obtain ⟨hk, rfl⟩ := List.getElem?_eq_some_iff.1 hr
  subst hz
  have hle := Nat.le_of_ble_eq_true hj
  refine ao_load_va (((enc l[k]).drop j).take q) (ys := ((enc l[k]).drop j).drop q ++ (l.drop (k + 1)).flatMap enc) hx hH (by rw [flat_len J.len, hn]) ?_ ?_ hd h
  · rw [drop_atj J l k j hk (by omega), ← List.append_assoc, List.take_append_drop]
  · rw [List.length_take, List.length_drop, J.len]; omega
theorem cell_new (w : World) (c : Array Value) (t : TypeId) (k : Nat) : (w.alloc (.cells c t)).cell? ⟨w.heap.size, k, none⟩ = c[k]? := by
  have h : (w.alloc (.cells c t)).heap[w.heap.size]? = some (.cells c t) := alloc_new _ _
  unfold World.cell?
  dsimp only
  rw [h]
  rfl
theorem ao_litq [W : Walk P X] {t E size bytes len : Nat} [I : SlT P t E size bytes] {parts : List (Nat × Operand)} {ps : List (Nat × AV)} {zs : List CV} (hp : evp st parts = some ps) (hi : ps.map (·.1) = List.range len) (hz : lits (ps.map (·.2)) = some zs) (hb : litB size (ps.map (·.2)) = true) (hl : Nat.ble 1 len = true) (hs2 : Nat.ble (len * size) 100000 = true) (hd : Nat.blt d st.n = true)
    (h : X rest (st.put d (.c (.lst size zs)))) : X (⟨some d, .buildSlice t len parts.toArray, ty, pos, af, none⟩ :: rest) st := by
  refine W.step rfl rfl hd (fun base w0 M a hs K Q hK => ?_) h
  obtain ⟨i, z, f1, f2, f3, f4, f5, f6⟩ := I.out
  obtain ⟨e1, e2⟩ := evp_get hp
  have hl := Nat.le_of_ble_eq_true hl
  have hs2 := Nat.le_of_ble_eq_true hs2
  have hplen : ps.length = len := by
    have := congrArg List.length hi
    simpa using this
  let vs : List Value := parts.map fun q => a.eval q.2
  have hvl : vs.length = len := by show (parts.map _).length = _; simp; omega
  have hra : ∀ (k : Nat) (y : AV) (v : Value), (ps.map (·.2))[k]? = some y → vs[k]? = some v → RA M y v := fun k y v hy hv => by
    obtain ⟨p, g1, rfl⟩ : ∃ p, ps[k]? = some p ∧ p.2 = y := by simpa using hy
    obtain ⟨q, g2, rfl⟩ : ∃ q, parts[k]? = some q ∧ a.eval q.2 = v := by simpa [vs] using hv
    exact hs.ev (by simp [Op.operands]; exact ⟨q.1, List.mem_of_getElem? g2⟩) (e2 k p q g1 g2).2
  obtain ⟨c1, c2, c3, c4⟩ := lits_get I.pos hz hb (by simp; omega) hra
  have hparts : (parts.map fun q => (q.1, a.eval q.2)) = (vs.zipIdx 0).map fun x => (x.2, x.1) := by
    apply List.ext_getElem?
    intro k
    simp only [List.getElem?_map, List.getElem?_zipIdx, vs]
    cases hk : parts[k]? with
    | none => simp
    | some q =>
      have hk' : k < parts.length := (List.getElem?_eq_some_iff.1 hk).1
      obtain ⟨p, hpk⟩ : ∃ p, ps[k]? = some p := ⟨_, List.getElem?_eq_getElem (by omega)⟩
      have h1 := (e2 k p q hpk hk).1
      have h2 : (ps.map (·.1))[k]? = some p.1 := by simp [hpk]
      rw [hi] at h2
      have h3 : k = p.1 := by
        have : k < len := by omega
        simpa [this] using h2
      simp [← h1, ← h3]
  have hfill := Great.fill_whole I.pos vs ((Array.range (len * size)).map (z.cells[· % z.cells.size]!)) c3 (by simp [hvl])
  have hne : len * size ≠ 0 := by
    have := I.pos
    exact Nat.mul_ne_zero (by omega) (by omega)
  have hrun : (execOp a.eval ⟨some d, .buildSlice t len parts.toArray, ty, pos, af, none⟩).run P M.w = .ok (.value (.slice (some ⟨M.w.heap.size, 0, none⟩) len len)) (M.w.alloc (.cells (vs.flatMap fun v => v.cells.toList).toArray E)) := by
    simp only [execOp]
    rw [Sem.run_bind, run_buildSlice (P := P) M.w t E len _ _ i z f1 f2 f3 (by rw [f4]; omega) (by rw [f4]; exact hne) (by rw [f4, show (Array.map (fun x : Nat × Operand => (x.fst, a.eval x.snd)) parts.toArray).toList = parts.map fun q => (q.1, a.eval q.2) from by simp, hparts]; exact hfill)]
    rfl
  have hb : Below M.w.heap.size M.w (M.w.alloc (.cells (vs.flatMap fun v => v.cells.toList).toArray E)) := (Below.refl _ _).alloc (Nat.le_refl _) _
  unfold Oper.wp
  rw [hrun]
  have hext := Ext.after hb hs.sim.heap.frz
  refine hK _ (M.after _) hext (fun s hs' => hs'.after hb) (.c (.lst (fun k => (vs.flatMap fun v => v.cells.toList).getD k undef) (by rw [c1, hvl]) (Nat.le_refl _) (.inr ⟨Nat.le_refl _, by simp [World.alloc]⟩) (fun k x hk => ?_) (fun k x hk => ?_)))
  · have hkl : k < (vs.flatMap fun v => v.cells.toList).length := by
      have := (List.getElem?_eq_some_iff.1 hk).1
      omega
    show (M.w.alloc _).cell? _ = _
    rw [cell_new, List.getD_eq_getElem?_getD, List.getElem?_eq_getElem hkl, Nat.zero_add]
    simp only [List.getElem?_toArray, List.getElem?_eq_getElem hkl, Option.getD_some]
  · have hkl : k < (vs.flatMap fun v => v.cells.toList).length := by
      have := (List.getElem?_eq_some_iff.1 hk).1
      omega
    have := c4 k x _ hk (List.getElem?_eq_getElem hkl)
    rw [List.getD_eq_getElem?_getD, List.getElem?_eq_getElem hkl]
    exact this.mono hext.F
end
end Go.Proofs.YtkhljpbkebnnmaaGreatDoor.Ev
/- Rules of a walk: regions that draw their order and make one box. Nothing here names a program. -/
namespace Go.Proofs.YtkhljpbkebnnmaaGreatDoor.Ev
set_option linter.unusedVariables false
set_option linter.unusedSimpArgs false
open Go.RowKit
section
variable {P : Program} {ops : Array Oper}
def AOp (P : Program) (o : Oper) (d : Nat) (x : AB) : Prop :=
  o.guard = none ∧ o.dst = some d ∧ ∀ (st : St) base w0 M a, Sim base w0 st M a → ∃ (u : Value) (c : Conc) (arr : Array Value) (t : TypeId), (execOp a.eval o).run P M.w = .ok (.value u) (M.w.alloc (.cells arr t)) ∧ Sim base w0 (st.new x) (M.new st x c (.cells arr t)) a ∧ RA (M.new st x c (.cells arr t)) (.ptr st.nx 0) u
theorem aop_alloc {d : Nat} {t : TypeId} {zs : List Value} {ty : TypeId} {pos : String} {af : Array Edge} [I : ZeroT P t zs] : AOp P ⟨some d, .alloc t, ty, pos, af, none⟩ d (.cells t (zs.map fun z => .c (.v z))) := by
  refine ⟨rfl, rfl, fun st base w0 M a hs => ?_⟩
  obtain ⟨i, z, h1, h2, h3⟩ := I.out
  refine ⟨.pointer (some ⟨M.w.heap.size, 0, none⟩), .blk M.w.heap.size, z.cells, t, ?_, hs.newB (fun g hg => by simpa [Conc.block] using hg.symm) ?_ (fun _ _ _ h => by cases h), ?_⟩
  · simp only [execOp]
    simp [Instr.alloc, zeroValue, typeInfo, h1, h2, newVar, newRow]
  · intro t' l hl
    simp only [AB.cells.injEq] at hl
    obtain ⟨rfl, rfl⟩ := hl
    subst h3
    refine ⟨rfl, rfl, by simp, fun i y u hy hu => ?_⟩
    simp only [List.getElem?_map, Array.getElem?_toList, hu, Option.map_some, Option.some.injEq] at hy
    subst hy; exact .c (.v _)
  · refine .ptr ?_
    simp [Wd.new, hs.nx]
inductive DG (P : Program) (ops : Array Oper) (o : Oper) (st : St) : St → Prop
  | q {d : Nat} {y : AV} (h : DY P ops o st d y) : DG P ops o st (st.put d y)
  | a {d : Nat} {x : AB} (h : AOp P o d x) (hd : Nat.blt d st.n = true) : DG P ops o st ((st.new x).put d (.ptr st.nx 0))
theorem StEq.new {s t : St} (h : StEq s t) (x : AB) : StEq (s.new x) (t.new x) :=
  ⟨h.n, by simp only [St.new]; rw [h.heap, h.nx], by simp only [St.new]; rw [h.nx], h.gl, h.env⟩
theorem DG.eq {o : Oper} {s t s' : St} (h : DG P ops o s s') (e : StEq s t) : ∃ t', DG P ops o t t' ∧ StEq s' t' := by
  cases h with
  | q h => exact ⟨_, .q (h.eq e), e.put _ _⟩
  | a h hd => exact ⟨_, .a h (by rw [← e.n]; exact hd), by rw [e.nx]; exact (e.new _).put _ _⟩
def Fr (st : St) : Prop := ∀ b, st.nx ≤ b → st.H b = none
def frB (heap : List (Nat × Option AB)) (nx : Nat) : Bool := heap.all fun p => Nat.blt p.1 nx
theorem fr_of {st : St} (h : frB st.heap st.nx = true) : Fr st := by
  intro b hb
  have : look b st.heap = none := by
    have h : ∀ p ∈ st.heap, p.1 < st.nx := fun p hp => blt_true (List.all_eq_true.1 h p hp)
    generalize st.heap = l at h
    induction l with
    | nil => rfl
    | cons p l ih =>
      rw [show p :: l = (p.1, p.2) :: l from rfl, look_cons, if_neg (by have := h p (by simp); omega)]
      exact ih (fun q hq => h q (by simp [hq]))
  unfold St.H; rw [this]
theorem Fr.put {st : St} (h : Fr st) (d : Nat) (y : AV) : Fr (st.put d y) := h
theorem Fr.new {st : St} (h : Fr st) (x : AB) : Fr (st.new x) := fun b hb => by
  have : st.nx + 1 ≤ b := hb
  rw [H_new, if_neg (by omega)]; exact h b (by omega)
theorem DY.new {o : Oper} {s : St} {d : Nat} {y : AV} (h : DY P ops o s d y) (hf : Fr s) (x : AB) : DY P ops o (s.new x) d y :=
  h.of rfl (fun b z hz => by
    rw [H_new, if_neg]
    · exact hz
    · intro e; subst e
      rw [hf _ (Nat.le_refl _)] at hz; cases hz) rfl (fun x _ => by cases x <;> rfl) (fun _ _ _ _ _ => rfl)
def DAny2 (P : Program) (md : Region.Mode) (ops : Array Oper) (n : Nat) (L : Array Bool → St → Prop) : Nat → Array Bool → St → Prop
  | 0, listed, st => L listed st
  | f + 1, listed, st => Region.ready md ops listed ≠ [] ∧ ∀ i ∈ Region.ready md ops listed, i < n ∧ ∃ o st', ops[i]? = some o ∧ DG P ops o st st' ∧ DAny2 P md ops n L f (listed.setIfInBounds i true) st'
variable {md : Region.Mode} {n : Nat} {L : Array Bool → St → Prop}
theorem DAny2.eq (hL : ∀ listed s t, StEq s t → L listed s → L listed t) : ∀ (f : Nat) (listed : Array Bool) (s t : St), StEq s t → DAny2 P md ops n L f listed s → DAny2 P md ops n L f listed t
  | 0, listed, s, t, e, h => hL listed s t e h
  | f + 1, listed, s, t, e, h => ⟨h.1, fun i hi => by
    obtain ⟨h1, o, s', h2, h3, h4⟩ := h.2 i hi
    obtain ⟨t', h5, h6⟩ := h3.eq e
    exact ⟨h1, o, t', h2, h5, DAny2.eq hL f _ _ _ h6 h4⟩⟩
theorem DAny2_last {i : Nat} {oi : Oper} (hi : ops[i]? = some oi) (hin : i < n) (hdone : ∀ listed st, L listed st → ∀ j ∈ Region.ready md ops listed, n ≤ j)
    (htail : ∀ listed, HeadInv md ops n listed → ∀ i, i < n → listed.getD i true = false → ∀ t, n ≤ t → t ∉ Region.ready md ops listed)
    (listed : Array Bool) (st st' : St) (inv : HeadInv md ops n listed) (hr : i ∈ Region.ready md ops listed) (hy : DG P ops oi st st') (H : L (listed.setIfInBounds i true) st') : DAny2 P md ops n L 1 listed st := by
  refine ⟨fun h0 => (by rw [h0] at hr; cases hr), fun j hj => ?_⟩
  have hjn : j < n := Nat.lt_of_not_le fun hc => htail listed inv i hin (mem_ready.1 hr).1 j hc hj
  by_cases hji : j = i
  · subst hji; exact ⟨hjn, oi, st', hi, hy, H⟩
  · have := hdone _ _ H j (ready_mono hj hji)
    omega
theorem DAny2_first {i : Nat} {oi : Oper} (hi : ops[i]? = some oi) (hin : i < n) (hL : ∀ listed s t, StEq s t → L listed s → L listed t) (hdone : ∀ listed st, L listed st → ∀ j ∈ Region.ready md ops listed, n ≤ j)
    (htail : ∀ listed, HeadInv md ops n listed → ∀ i, i < n → listed.getD i true = false → ∀ t, n ≤ t → t ∉ Region.ready md ops listed) :
    ∀ (f : Nat) (listed : Array Bool) (st : St) (d : Nat) (y : AV), Fr st → HeadInv md ops n listed →
      (∀ j oj, ops[j]? = some oj → j ≠ i → listed.getD j true = false → (∀ e ∈ oj.after, Region.binds md e = true → e.on ≠ i) → oi.apart ops oj = true) →
      i ∈ Region.ready md ops listed → DY P ops oi st d y → DAny2 P md ops n L f (listed.setIfInBounds i true) (st.put d y) → DAny2 P md ops n L (f + 1) listed st := by
  intro f
  induction f with
  | zero =>
    intro listed st d y _ inv hfree hr hy H
    exact DAny2_last hi hin hdone htail listed st _ inv hr (.q hy) H
  | succ f ih =>
    intro listed st d y fr inv hfree hr hy H
    refine ⟨fun h0 => (by rw [h0] at hr; cases hr), fun j hj => ?_⟩
    have hjn : j < n := Nat.lt_of_not_le fun hc => htail listed inv i hin (mem_ready.1 hr).1 j hc hj
    by_cases hji : j = i
    · subst hji; exact ⟨hjn, oi, _, hi, .q hy, H⟩
    · obtain ⟨_, oj, sj, h2, h3, h4⟩ := H.2 j (ready_mono hj hji)
      obtain ⟨hjun, oj', hoj, hall⟩ := mem_ready.1 hj
      have hoo : oj' = oj := Option.some.inj (hoj.symm.trans h2)
      subst hoo
      have hnot : ∀ e ∈ oj'.after, Region.binds md e = true → e.on ≠ i := fun e he hb heq => by
        have h1 := hall e he hb
        have h0 := getD_both (mem_ready.1 hr).1
        rw [heq, h0] at h1
        cases h1
      obtain ⟨a1, a2, a3⟩ := Oper.apart_spec (hfree j oj' hoj hji hjun hnot)
      have hdi : oi.dst = some d := hy.1
      have hfree' : ∀ k ok, ops[k]? = some ok → k ≠ i → (listed.setIfInBounds j true).getD k true = false → (∀ e ∈ ok.after, Region.binds md e = true → e.on ≠ i) → oi.apart ops ok = true := fun k ok hk hki hun hno => by
        refine hfree k ok hk hki ?_ hno
        by_cases hjk : j = k
        · subst hjk; exact hjun
        · rw [getD_set_ne true hjk] at hun; exact hun
      cases h3 with
      | @q dj yj h3 =>
        have hdj : oj'.dst = some dj := h3.1
        have hne : d ≠ dj := fun e => a2 d hdi (by rw [hdj, e])
        refine ⟨hjn, oj', _, h2, .q (h3.unput (a1 d hdi)), ?_⟩
        refine ih (listed.setIfInBounds j true) (st.put dj yj) d y (fr.put _ _) (inv.set hj hjn) hfree' (ready_mono hr (Ne.symm hji)) (hy.put yj (a3 dj hdj)) ?_
        rw [Array.setIfInBounds_comm _ _ hji]
        exact DAny2.eq hL f _ _ _ (StEq.comm st hne y yj) h4
      | @a dj x h3 hd3 =>
        have hdj : oj'.dst = some dj := h3.2.1
        have hne : d ≠ dj := fun e => a2 d hdi (by rw [hdj, e])
        refine ⟨hjn, oj', _, h2, .a h3 hd3, ?_⟩
        refine ih (listed.setIfInBounds j true) ((st.new x).put dj (.ptr st.nx 0)) d y ((fr.new x).put _ _) (inv.set hj hjn) hfree' (ready_mono hr (Ne.symm hji)) ((hy.new fr x).put _ (a3 dj hdj)) ?_
        rw [Array.setIfInBounds_comm _ _ hji]
        exact DAny2.eq hL f _ _ _ (StEq.comm (st.new x) hne y _) h4
theorem DAny2_lex {g : Nat} {Lq : St → Prop} {oa : Oper} {da : Nat} {x : AB} (hoa : ops[n]? = some oa) (ha : AOp P oa da x) (hLq : ∀ s t, StEq s t → Lq s → Lq t)
    (htail : ∀ listed, HeadInv md ops (n + 1) listed → ∀ i, i < n + 1 → listed.getD i true = false → ∀ t, n + 1 ≤ t → t ∉ Region.ready md ops listed) :
    ∀ (l : List Oper) (k : Nat) (listed : Array Bool) (st : St), (∀ j, j < l.length → l[j]? = ops[k + j]?) → k + l.length = n → HeadInv md ops (n + 1) listed → Fr st →
    Region.lexHead md ops g (l.length + 1) k listed = true → DSeq P ops (fun s => Nat.blt da s.n = true ∧ Lq ((s.new x).put da (.ptr s.nx 0))) l st → DAny2 P md ops (n + 1) (fun listed' st' => Region.seqB md ops g (n + 1) listed' = true ∧ Lq st') (l.length + 1) listed st
  | [], k, listed, st, _, hk, inv, _, hB, h => by
    have : k = n := by simpa using hk
    subst this
    simp only [List.length_nil, Region.lexHead, Bool.and_eq_true] at hB
    obtain ⟨⟨hr, hf⟩, hB'⟩ := hB
    have hr' : k ∈ Region.ready md ops listed := by simpa using hr
    exact DAny2_last hoa (Nat.lt_succ_self _) (fun listed' st' hL => seqB_ready hL.1) htail listed st _ inv hr' (.a ha h.1) ⟨hB', h.2⟩
  | o :: l, k, listed, st, hl, hk, inv, fr, hB, h => by
    have h0 : ops[k]? = some o := by simpa using (hl 0 (by simp)).symm
    simp only [List.length_cons] at hB
    unfold Region.lexHead at hB
    simp only [Bool.and_eq_true] at hB
    obtain ⟨⟨hr, hf⟩, hB'⟩ := hB
    have hkn : k < n + 1 := by simp only [List.length_cons] at hk; omega
    have hr' : k ∈ Region.ready md ops listed := by simpa using hr
    obtain ⟨d, y, hy, hK⟩ := h
    exact DAny2_first h0 hkn (fun listed s t e hh => ⟨hh.1, hLq s t e hh.2⟩) (fun listed' st' hL => seqB_ready hL.1) htail (l.length + 1) listed st d y fr inv (Region.free_spec h0 hf) hr' hy
      (DAny2_lex hoa ha hLq htail l (k + 1) _ _ (fun j hj => by have := hl (j + 1) (by simp; omega); simpa [Nat.add_assoc, Nat.add_comm 1 j] using this) (by simp only [List.length_cons] at hk; omega) (inv.set hr' hkn) (fr.put _ _) hB' hK)
theorem DG.wp {base : Nat} {w0 : W0} {st st' : St} {M : Wd} {a : Act} {i : Nat} {o : Oper} {K : Act → World → Prop} {Q' : Exit → Act → World → Prop} (hi : ops[i]? = some o) (h : DG P ops o st st') (hs : Sim base w0 st M a)
    (hK : ∀ M' a', Ext M M' → Sim base w0 st' M' a' → K a' M'.w) : wpOp P ops Q' i K a M.w := by
  cases h with
  | q h => exact h.wp hi hs hK
  | @a d x h hd =>
    obtain ⟨g, hdst, hrun⟩ := h
    obtain ⟨u, c, arr, t, e1, e2, e3⟩ := hrun st base w0 M a hs
    unfold wpOp
    simp only [hi]
    rw [if_pos (by simp [Region.wanted, g])]
    refine .inl ?_
    unfold Oper.wp
    rw [e1]
    have := hK (M.new st x c (.cells arr t)) (a.put o.dst u) (hs.extNew x c _) (by rw [hdst]; exact e2.put hd e3)
    exact this
theorem wpAny_of_DAny2 {base : Nat} {w0 : W0} {M0 : Wd} {Q : Exit → St → Prop} {g : Nat} (hL : ∀ listed st M a, L listed st → Sim base w0 st M a → Ext M0 M → wpAny P md ops (Lift base w0 M0 Q) g listed a M.w) :
    ∀ (f : Nat) (listed : Array Bool) (st : St) (M : Wd) (a : Act), Sim base w0 st M a → Ext M0 M → DAny2 P md ops n L f listed st → wpAny P md ops (Lift base w0 M0 Q) (f + g) listed a M.w
  | 0, listed, st, M, a, hs, he, h => by rw [Nat.zero_add]; exact hL _ _ _ _ h hs he
  | f + 1, listed, st, M, a, hs, he, h => by
    rw [show f + 1 + g = (f + g) + 1 by omega]
    refine ⟨fun h0 => absurd h0 h.1, fun i hi => ?_⟩
    obtain ⟨_, o, st', h1, h2, h3⟩ := h.2 i hi
    exact h2.wp h1 hs fun M' a' hext hs' => wpAny_of_DAny2 hL f _ _ M' a' hs' (he.trans hext) h3
theorem aw_drawA {id : Nat} {l : List Oper} {Q : Exit → St → Prop} {st : St} [m : Mixed P] (n : Nat) {oa : Oper} {da : Nat} {x : AB} (hB : drawB l.toArray (n + 1) = true) (hoa : l[n]? = some oa) (ha : AOp P oa da x) (hf : frB st.heap st.nx = true)
    (h : DSeq P l.toArray (fun s => Nat.blt da s.n = true ∧ AOps P l.toArray Q (l.drop (n + 1)) ((s.new x).put da (.ptr s.nx 0))) (l.take n) st) : Awp P (.region id l.toArray true) Q st := by
  simp only [drawB, Bool.and_eq_true, Bool.or_eq_true] at hB
  obtain ⟨⟨⟨hsel, hle⟩, hcase⟩, hlex⟩ := hB
  have hle := Nat.le_of_ble_eq_true hle
  have hle' : n + 1 ≤ l.length := by simpa using hle
  have htl : (l.take n).length = n := by simp; omega
  have hdl : (l.drop (n + 1)).length = l.toArray.size - (n + 1) := by simp
  have inv0 : HeadInv .any l.toArray (n + 1) (Array.replicate l.toArray.size false) :=
    ⟨by simp, fun j oj _ hl => (by rw [getD_replicate_false] at hl; cases hl), fun t _ ht => getD_in (by simpa using ht) (getD_replicate_false _ _)⟩
  have htail : ∀ listed, HeadInv .any l.toArray (n + 1) listed → ∀ i, i < n + 1 → listed.getD i true = false → ∀ t, n + 1 ≤ t → t ∉ Region.ready .any l.toArray listed := by
    intro listed inv i hi hun t ht
    rcases hcase with he | ⟨hs, hc⟩
    · intro hr
      obtain ⟨_, o, ho, _⟩ := mem_ready.1 hr
      have := (Array.getElem?_eq_some_iff.1 ho).1
      have := beq_true he
      omega
    · rcases Nat.lt_or_ge (n + 1) l.toArray.size with hn | hn
      · exact tail_waits hs hc hn inv _ i rfl hi hun t ht
      · intro hr
        obtain ⟨_, o, ho, _⟩ := mem_ready.1 hr
        have := (Array.getElem?_eq_some_iff.1 ho).1
        omega
  intro base w0 M a hs
  have H := DAny2_lex (P := P) (md := .any) (ops := l.toArray) (n := n) (g := l.toArray.size - (n + 1)) (Lq := AOps P l.toArray Q (l.drop (n + 1))) (by simpa using hoa) ha (fun s t e hh => fun base w0 M a hs' => hh base w0 M a (e.symm.sim hs')) htail (l.take n) 0 _ st (fun j hj => by
    have hj' : j < n := by rw [htl] at hj; exact hj
    simp [hj']) (by simpa using htl) inv0 (fr_of hf) (by rw [htl]; exact hlex) h
  refine wp_region_any m.h ?_
  have := wpAny_of_DAny2 (P := P) (md := .any) (ops := l.toArray) (n := n + 1) (base := base) (w0 := w0) (M0 := M) (Q := Q) (g := l.toArray.size - (n + 1)) (fun listed st' M' a' hL hs' he => by
    have h1 := wpList_monoQ (fun e a w => Lift.ext he) _ _ _ (hL.2 base w0 M' a' hs')
    have h2 := wpAny_of_seq (md := .any) (l.drop (n + 1)) (n + 1) listed a' M'.w (fun j => by simp) (by rw [hdl]; exact hL.1) h1
    rwa [hdl] at h2) ((l.take n).length + 1) (Array.replicate l.toArray.size false) st M.drew a hs.drew (Ext.drew M) H
  rw [htl] at this
  rw [show n + 1 + (l.toArray.size - (n + 1)) = l.toArray.size by omega] at this
  exact this
theorem ds_nilA {da nn nx : Nat} {x : AB} {tl : List Oper} {env : List (Nat × AV)} {heap : List (Nat × Option AB)} {gl : List (Nat × List CV)} {Q : Exit → St → Prop} (h1 : Nat.blt da nn = true) (h2 : AOps P ops Q tl ⟨nn, (da, .ptr nx 0) :: env, (nx, some x) :: heap, nx + 1, gl⟩) : DSeq P ops (fun s => Nat.blt da s.n = true ∧ AOps P ops Q tl ((s.new x).put da (.ptr s.nx 0))) [] ⟨nn, env, heap, nx, gl⟩ := ⟨h1, h2⟩
end
end Go.Proofs.YtkhljpbkebnnmaaGreatDoor.Ev
