/- Rules of a walk over abstract states: new memory and stores. Nothing here names a program. -/
import Derived.Test.YtokkpocccgdilaaEv3
import Derived.Maps.AppendAt
import Derived.OwnWalk
namespace Go.Proofs.Ytokkpocccgdilaa.Ev
set_option linter.unusedVariables false
set_option linter.unusedSimpArgs false
open Go.RowKit

theorem H_new (st : St) (x : AB) (b : Nat) : (st.new x).H b = if st.nx = b then some x else st.H b := by
  unfold St.H St.new
  simp only [look_cons]
  by_cases h : st.nx = b
  · simp [h]
  · simp [h]
theorem H_set (st : St) (b' : Nat) (x : AB) (b : Nat) : (st.set b' x).H b = if b' = b then some x else st.H b := by
  unfold St.H St.set
  simp only [look_cons]
  by_cases h : b' = b
  · simp [h]
  · simp [h]

def Wd.new (M : Wd) (st : St) (x : AB) (c : Conc) (o : Obj) : Wd :=
  { m := fun b => if b = M.nx then c else M.m b, H := (st.new x).H, nx := M.nx + 1, F := M.F, w := M.w.alloc o }

theorem alloc_heap (w : World) (o : Obj) (b : Nat) (h : b < w.heap.size) : (w.alloc o).heap[b]? = w.heap[b]? := Below.heap_alloc w o b h
theorem alloc_size (w : World) (o : Obj) : (w.alloc o).heap.size = w.heap.size + 1 := by show (w.heap.push o).size = _; simp
theorem alloc_new (w : World) (o : Obj) : (w.alloc o).heap[w.heap.size]? = some o := by show (w.heap.push o)[w.heap.size]? = _; simp

section
variable {base : Nat} {w0 : W0} {st : St} {M : Wd} {a : Act}

theorem Sim.extNew (hs : Sim base w0 st M a) (x : AB) (c : Conc) (o : Obj) : Ext M (M.new st x c o) where
  m := fun b g hb => by
    have : b ≠ M.nx := fun he => hs.heap.fresh b (by omega) g hb
    simp only [Wd.new]; rw [if_neg this]; exact hb
  v := fun b E size l' hb hl => by
    simp only [Wd.new] at hl ⊢
    rw [H_new, if_neg (by rw [← hs.nx]; omega), ← hs.H] at hl
    exact ⟨l', hl, Nat.le_refl _, fun _ => if_neg (by omega)⟩
  nx := by simp [Wd.new]
  F := fun b hb => ⟨hb, alloc_heap _ _ _ (hs.heap.frz b hb)⟩

theorem conc_lt {M : Wd} {base : Nat} (h : HeapOK M base) {b g : Nat} (hb : M.H b ≠ none) (hg : (M.m b).block = some g) : g < M.w.heap.size := by
  cases hx : M.H b with
  | none => exact absurd hx hb
  | some x =>
    cases x with
    | cells t l =>
      obtain ⟨g', arr, e1, _, _, e4, _⟩ := h.cells b t l hx
      rw [e1] at hg
      simp only [Conc.block, Option.some.injEq] at hg; subst hg
      exact (Array.getElem?_eq_some_iff.1 e4).1
    | vec E size l =>
      obtain ⟨v, n, cs, e1, _, _, e4, _⟩ := h.vec b E size l hx
      rw [e1] at hg
      exact (World.ownsRow.lt e4 g hg).2

theorem Sim.newB (hs : Sim base w0 st M a) {x : AB} {c : Conc} {arr : Array Value} {t : TypeId} (hc : ∀ g, c.block = some g → g = M.w.heap.size)
    (hcells : ∀ t' l, x = .cells t' l → t' = t ∧ c = .blk M.w.heap.size ∧ l.length = arr.size ∧ ∀ (i : Nat) (y : AV) (u : Value), l[i]? = some y → arr[i]? = some u → RA M y u)
    (hvec : ∀ E size l, x = .vec E size l → ∃ n cap, c = .row (.slice (some ⟨M.w.heap.size, 0, none⟩) n cap) ∧ E = t ∧ 0 < size ∧ l.length = n * size ∧ n ≤ cap ∧ cap ≤ maxLen ∧ arr.size = cap * size ∧ ∀ (i : Nat) (y : CV) (u : Value), l[i]? = some y → arr[i]? = some u → RC M.F M.w y u) :
    Sim base w0 (st.new x) (M.new st x c (.cells arr t)) a := by
  have hext := hs.extNew x c (.cells arr t)
  have hH : ∀ b, (M.new st x c (.cells arr t)).H b = if M.nx = b then some x else M.H b := fun b => by
    show (st.new x).H b = _
    rw [H_new, hs.nx, hs.H]
  have hm : (M.new st x c (.cells arr t)).m M.nx = c := by simp [Wd.new]
  have hm' : ∀ b, b ≠ M.nx → (M.new st x c (.cells arr t)).m b = M.m b := fun b hb => by simp [Wd.new, hb]
  have hF : ∀ b, M.F b → M.F b ∧ (M.new st x c (.cells arr t)).w.heap[b]? = M.w.heap[b]? := hext.F
  refine ⟨rfl, by show M.nx + 1 = st.nx + 1; rw [hs.nx], hs.n, fun i y hy => ?_, fun g xs hg => (hs.gl g xs hg).mono hext, ⟨?_, ?_, ?_, ?_, ?_, ?_⟩, ?_, ?_, hs.defs, hs.old⟩
  · obtain ⟨v, h1, h2⟩ := hs.env i y hy
    exact ⟨v, h1, h2.mono hext⟩
  · intro b t' l hl
    rw [hH] at hl
    by_cases hb : M.nx = b
    · subst hb
      rw [if_pos rfl] at hl
      simp only [Option.some.injEq] at hl
      obtain ⟨rfl, h2, h3, h4⟩ := hcells t' l hl
      refine ⟨M.w.heap.size, arr, by rw [hm]; exact h2, hs.base, fun hf => absurd (hs.heap.frz _ hf) (by omega), alloc_new _ _, h3, fun i y u h5 h6 => (h4 i y u h5 h6).mono hext⟩
    · rw [if_neg hb] at hl
      obtain ⟨g, arr', e1, e2, e3, e4, e5, e6⟩ := hs.heap.cells b t' l hl
      refine ⟨g, arr', by rw [hm' b (Ne.symm hb)]; exact e1, e2, e3, ?_, e5, fun i y u h5 h6 => (e6 i y u h5 h6).mono hext⟩
      show (M.w.alloc _).heap[g]? = _
      rw [alloc_heap _ _ _ (Array.getElem?_eq_some_iff.1 e4).1]; exact e4
  · intro b E size l hl
    rw [hH] at hl
    by_cases hb : M.nx = b
    · subst hb
      rw [if_pos rfl] at hl
      simp only [Option.some.injEq] at hl
      obtain ⟨n, cap, h1, rfl, h3, h4, h5, h6, h7, h8⟩ := hvec E size l hl
      have hle : n * size ≤ arr.size := by rw [h7]; exact Nat.mul_le_mul_right _ h5
      refine ⟨_, n, arr.toList.take (n * size), by rw [hm]; exact h1, h4, h3, ⟨by simp; omega, Or.inr ⟨M.w.heap.size, cap, arr, rfl, hs.base, alloc_new _ _, h5, h6, h7, rfl⟩⟩, fun i y u h9 h10 => ?_, fun g hg hf => ?_⟩
      · have hi : i < n * size := by rw [← h4]; exact (List.getElem?_eq_some_iff.1 h9).1
        rw [List.getElem?_take_of_lt hi, Array.getElem?_toList] at h10
        exact (h8 i y u h9 h10).mono hF
      · simp only [Value.ownBlock, Option.some.injEq] at hg; subst hg
        exact absurd (hs.heap.frz _ hf) (by omega)
    · rw [if_neg hb] at hl
      obtain ⟨v, n, cs, e1, e2, e3, e4, e5, e6⟩ := hs.heap.vec b E size l hl
      exact ⟨v, n, cs, by rw [hm' b (Ne.symm hb)]; exact e1, e2, e3, World.ownsRow.alloc e4 _, fun i y u h9 h10 => (e5 i y u h9 h10).mono hF, e6⟩
  · intro b b' g hbb hb hb' hg hg'
    rw [hH] at hb hb'
    have hold : ∀ k, k ≠ M.nx → (if M.nx = k then some x else M.H k) ≠ none → ((M.new st x c (.cells arr t)).m k).block = some g → g < M.w.heap.size := fun k hk h1 h2 => by
      rw [if_neg (Ne.symm hk)] at h1
      rw [hm' k hk] at h2
      exact conc_lt hs.heap h1 h2
    by_cases h1 : b = M.nx
    · subst h1
      rw [hm] at hg
      have := hc g hg
      have := hold b' (Ne.symm hbb) hb' hg'
      omega
    · by_cases h2 : b' = M.nx
      · subst h2
        rw [hm] at hg'
        have := hc g hg'
        have := hold b h1 hb hg
        omega
      · rw [if_neg (Ne.symm h1)] at hb
        rw [if_neg (Ne.symm h2)] at hb'
        rw [hm' b h1] at hg
        rw [hm' b' h2] at hg'
        exact hs.heap.sep b b' g hbb hb hb' hg hg'
  · intro b hb
    rw [hH] at hb
    show b < M.nx + 1
    by_cases h1 : M.nx = b
    · omega
    · rw [if_neg h1] at hb
      have := hs.heap.lt b hb; omega
  · intro b hb g
    have hb : M.nx + 1 ≤ b := hb
    rw [hm' b (by omega)]
    exact hs.heap.fresh b (by omega) g
  · intro b hb
    show b < (M.w.alloc _).heap.size
    rw [alloc_size]
    have := hs.heap.frz b hb; omega
  · exact hs.below.alloc hs.base _
  · show base ≤ (M.w.alloc _).heap.size
    rw [alloc_size]; have := hs.base; omega
end

def AV.cellB : AV → Bool
  | .c (.v x) => x.oneCell'
  | .c (.lst _ _) => true
  | .c _ => false
  | .agg _ => false
  | .tup _ => false
  | _ => true
theorem RA.one {M : Wd} {y : AV} {u : Value} (h : RA M y u) (hc : y.cellB = true) : u.oneCell' = true := by
  cases h with
  | c h =>
    cases h with
    | v x => exact hc
    | agg => cases hc
    | tup => cases hc
    | nil => rfl
    | e0 => cases hc
    | lst => rfl
  | agg => cases hc
  | tup => cases hc
  | ptr => rfl
  | vec _ ho _ => exact ho
  | vptr _ ho _ => exact ho
  | eptr => rfl
  | fn => rfl
theorem cells_one {u : Value} (h : u.oneCell' = true) : u.cells = #[u] := by
  cases u <;> first | rfl | cases h

section
variable {P : Program} {ops : Array Oper} {Q : Exit → St → Prop} {rest : List Oper} {st : St} {d : Nat} {ty : TypeId} {pos : String} {af : Array Edge}

/-- A step that makes one block and yields a value. -/
theorem ao_new {o : Oper} {x : AB} {y : AV} (hg : o.guard = none) (hdst : o.dst = some d) (hd : Nat.blt d st.n = true)
    (hrun : ∀ base w0 M a, Sim base w0 st M a → ∃ (u : Value) (c : Conc) (arr : Array Value) (t : TypeId), (execOp a.eval o).run P M.w = .ok (.value u) (M.w.alloc (.cells arr t)) ∧ Sim base w0 (st.new x) (M.new st x c (.cells arr t)) a ∧ RA (M.new st x c (.cells arr t)) y u)
    (h : AOps P ops Q rest ((st.new x).put d y)) : AOps P ops Q (o :: rest) st := by
  intro base w0 M a hs
  obtain ⟨u, c, arr, t, hr, h1, h2⟩ := hrun base w0 M a hs
  refine wl_value hg hr ?_
  rw [hdst]
  have := h base w0 (M.new st x c (.cells arr t)) _ (h1.put hd h2)
  exact wpList_monoQ (fun e a w => Lift.ext (hs.extNew x c _)) _ _ _ this

theorem ao_box {x : Operand} {t : TypeId} {y : AV} (hx : st.ev x = some y) (hc : y.cellB = true) (hd : Nat.blt d st.n = true) (h : AOps P ops Q rest ((st.new (.cells t [y])).put d (.ptr st.nx 0))) : AOps P ops Q (⟨some d, .box t x, ty, pos, af, none⟩ :: rest) st := by
  refine ao_new rfl rfl hd (fun base w0 M a hs => ?_) h
  have hv := hs.ev hx
  have h1 := hv.one hc
  refine ⟨.pointer (some ⟨M.w.heap.size, 0, none⟩), .blk M.w.heap.size, #[a.eval x], t, ?_, hs.newB (fun g hg => by simpa [Conc.block] using hg.symm) ?_ (fun _ _ _ h => by cases h), ?_⟩
  · simp only [execOp]
    simp [Instr.box, newVar, newRow, cells_one h1]
  · intro t' l hl
    simp only [AB.cells.injEq] at hl
    obtain ⟨rfl, rfl⟩ := hl
    refine ⟨rfl, rfl, rfl, fun i z u h2 h3 => ?_⟩
    cases i with
    | zero => simp at h2 h3; subst h2; subst h3; exact hv
    | succ i => simp at h2
  · refine .ptr ?_
    simp [Wd.new, hs.nx]
theorem ao_box_a {x : Operand} {t : TypeId} {ys : List AV} (hx : st.ev x = some (.agg ys)) (hd : Nat.blt d st.n = true) (h : AOps P ops Q rest ((st.new (.cells t ys)).put d (.ptr st.nx 0))) : AOps P ops Q (⟨some d, .box t x, ty, pos, af, none⟩ :: rest) st := by
  refine ao_new rfl rfl hd (fun base w0 M a hs => ?_) h
  have hv := hs.ev hx
  generalize he : a.eval x = u at hv
  cases hv with
  | agg hl hh =>
    rename_i vs
    refine ⟨.pointer (some ⟨M.w.heap.size, 0, none⟩), .blk M.w.heap.size, vs, t, ?_, hs.newB (fun g hg => by simpa [Conc.block] using hg.symm) ?_ (fun _ _ _ h => by cases h), ?_⟩
    · simp only [execOp, he]
      simp [Instr.box, newVar, newRow, Value.cells]
    · intro t' l hl'
      simp only [AB.cells.injEq] at hl'
      obtain ⟨rfl, rfl⟩ := hl'
      exact ⟨rfl, rfl, hl, hh⟩
    · refine .ptr ?_
      simp [Wd.new, hs.nx]
def zeroB (P : Program) (t : Nat) : Option (List Value) := match P.info? t with | some i => i.zero.map (fun z => z.cells.toList) | none => none
class ZeroT (P : Program) (t : Nat) (zs : outParam (List Value)) : Prop where
  h : zeroB P t = some zs
theorem ZeroT.out {t : Nat} {zs : List Value} (I : ZeroT P t zs) : ∃ i z, P.info? t = some i ∧ i.zero = some z ∧ z.cells.toList = zs := by
  have h := I.h
  unfold zeroB at h
  split at h
  · rename_i i hi
    cases hz : i.zero with
    | none => rw [hz] at h; cases h
    | some z => rw [hz] at h; exact ⟨i, z, hi, hz, by simpa using h⟩
  · cases h
theorem ao_alloc {t : TypeId} {zs : List Value} [I : ZeroT P t zs] (hd : Nat.blt d st.n = true) (h : AOps P ops Q rest ((st.new (.cells t (zs.map fun z => .c (.v z)))).put d (.ptr st.nx 0))) : AOps P ops Q (⟨some d, .alloc t, ty, pos, af, none⟩ :: rest) st := by
  refine ao_new rfl rfl hd (fun base w0 M a hs => ?_) h
  obtain ⟨i, z, h1, h2, h3⟩ := I.out
  refine ⟨.pointer (some ⟨M.w.heap.size, 0, none⟩), .blk M.w.heap.size, z.cells, t, ?_, hs.newB (fun g hg => by simpa [Conc.block] using hg.symm) ?_ (fun _ _ _ h => by cases h), ?_⟩
  · simp only [execOp]
    simp [Instr.alloc, zeroValue, typeInfo, h1, h2, newVar, newRow]
  · intro t' l hl
    simp only [AB.cells.injEq] at hl
    obtain ⟨rfl, rfl⟩ := hl
    subst h3
    refine ⟨rfl, rfl, by simp, fun i y u hy hu => ?_⟩
    simp only [List.getElem?_map, Array.getElem?_toList, hu, Option.map_some, Option.some.injEq] at hy
    subst hy; exact .c (.v _)
  · refine .ptr ?_
    simp [Wd.new, hs.nx]
end
end Go.Proofs.Ytokkpocccgdilaa.Ev
