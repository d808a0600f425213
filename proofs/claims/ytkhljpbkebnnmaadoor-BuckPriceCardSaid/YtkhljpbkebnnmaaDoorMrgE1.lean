/- Ev3 Ev4 Ev5: texts laid together. -/
import Derived.Test.YtkhljpbkebnnmaaDoorMrgE0
import Derived.Deep.MidRow
import Derived.Laws.CopyRow
import Derived.Maps.AppendAt
import Derived.OwnWalk
/- Rules of a walk over abstract states: addresses, loads, lengths, boxes, stores. Nothing here names a program. -/
namespace Go.Proofs.YtkhljpbkebnnmaaDoor.Ev
set_option linter.unusedVariables false
set_option linter.unusedSimpArgs false
open Go.RowKit

def fieldOffB (P : Program) (s i : Nat) : Option Nat :=
  match P.underlying s with
  | some (.struct fs) => match fs[i]? with
    | some f => match P.info? f.type with
      | some inf => if inf.size = 0 then none else some f.offset
      | none => none
    | none => none
  | _ => none
class FieldAt (P : Program) (s i : Nat) (off : outParam Nat) : Prop where
  h : fieldOffB P s i = some off
def tyB (P : Program) (t : Nat) : Option (Bool × Nat) :=
  match P.underlying t, P.info? t with
  | some d, some i => some (d.isRow, i.size)
  | _, _ => none
class TyC (P : Program) (t : Nat) (ag : outParam Bool) (n : outParam Nat) : Prop where
  h : tyB P t = some (ag, n)
def slB (P : Program) (t : Nat) : Option (Nat × Nat × Nat × Nat) :=
  match P.underlying t with
  | some (.slice E) => match P.info? E with
    | some i => match i.zero with
      | some z => some (E, i.size, i.bytes, z.cells.size)
      | none => none
    | none => none
  | _ => none
class SlT (P : Program) (t : Nat) (E size bytes : outParam Nat) : Prop where
  h : slB P t = some (E, size, bytes, size)
  pos : 0 < size
def CV.cellB : CV → Bool
  | .v x => x.oneCell'
  | .lst _ _ => true
  | _ => false
class EncL {α : Type} (enc : α → List CV) (size : outParam Nat) : Prop where
  len : ∀ x, (enc x).length = size
  pos : 0 < size
  one : ∀ x, (enc x).all CV.cellB = true

section
variable {P : Program}
theorem FieldAt.out {s i off : Nat} (I : FieldAt P s i off) : ∃ fs f inf, P.underlying s = some (.struct fs) ∧ fs[i]? = some f ∧ P.info? f.type = some inf ∧ inf.size ≠ 0 ∧ f.offset = off := by
  have h := I.h
  unfold fieldOffB at h
  split at h
  · rename_i fs hu
    split at h
    · rename_i f hf
      split at h
      · rename_i inf hi
        split at h
        · cases h
        · rename_i hz; exact ⟨fs, f, inf, hu, hf, hi, hz, by simpa using h⟩
      · cases h
    · cases h
  · cases h
theorem TyC.out {t : Nat} {ag : Bool} {n : Nat} (I : TyC P t ag n) : ∃ d i, P.underlying t = some d ∧ d.isRow = ag ∧ P.info? t = some i ∧ i.size = n := by
  have h := I.h
  unfold tyB at h
  split at h
  · rename_i d i hu hi
    simp only [Option.some.injEq, Prod.mk.injEq] at h
    exact ⟨d, i, hu, h.1, hi, h.2⟩
  · cases h
theorem SlT.out {t E size bytes : Nat} (I : SlT P t E size bytes) : ∃ i z, P.underlying t = some (.slice E) ∧ P.info? E = some i ∧ i.zero = some z ∧ i.size = size ∧ i.bytes = bytes ∧ z.cells.size = size := by
  have h := I.h
  unfold slB at h
  split at h
  · rename_i e hu
    split at h
    · rename_i i hi
      split at h
      · rename_i z hz
        simp only [Option.some.injEq, Prod.mk.injEq] at h
        obtain ⟨rfl, h2, h3, h4⟩ := h
        exact ⟨i, z, hu, hi, hz, h2, h3, h4⟩
      · cases h
    · cases h
  · cases h

theorem run_fieldAt {s i off : Nat} (I : FieldAt P s i off) (w : World) (g o : Nat) : (Instr.fieldAt s (.pointer (some ⟨g, o, none⟩)) i).run P w = .ok (.pointer (some ⟨g, o + off, none⟩)) w := by
  obtain ⟨fs, f, inf, h1, h2, h3, h4, h5⟩ := I.out
  have : (Addr.add ⟨g, o, none⟩ off) = ⟨g, o + off, none⟩ := Kit.addr_add g o off
  simp [Instr.fieldAt, run_underlying h1, h2, Instr.sureAddr, fieldPlace, sizeOf, typeInfo, h3, h4, h5, this]
theorem run_load_s {t : Nat} {n : Nat} (I : TyC P t false n) (w : World) (p : Addr) (v : Value) (h : w.cell? p = some v) : (Instr.loadAt t (.pointer (some p))).run P w = .ok v w := by
  obtain ⟨d, i, h1, h2, h3, h4⟩ := I.out
  have hagg : (isAgg t).run P w = .ok false w := by
    unfold isAgg
    rw [Sem.run_bind, run_underlying h1 w]
    cases d <;> simp_all
  simp [Instr.loadAt, Instr.sureAddr, loadVar, hagg, h]
theorem run_load_a {t : Nat} {n : Nat} (I : TyC P t true n) (w : World) (g o : Nat) (cs : List Value) (hn : cs.length = n) (h : ∀ (j : Nat) (v : Value), cs[j]? = some v → w.cell? ⟨g, o + j, none⟩ = some v) : (Instr.loadAt t (.pointer (some ⟨g, o, none⟩))).run P w = .ok (.agg cs.toArray) w := by
  obtain ⟨d, i, h1, h2, h3, h4⟩ := I.out
  exact run_loadAt_mid w g o t cs d h h1 h2 (by rw [h3]; simp [h4, hn])
theorem ex_load_s {t : Nat} {n : Nat} (I : TyC P t false n) {w : World} {p : Addr} {v : Value} {ρ : Operand → Value} {x : Operand} {dst : Option Tmp} {ty : TypeId} {pos : String} {af : Array Edge} (hx : ρ x = .pointer (some p)) (h : w.cell? p = some v) : (execOp ρ ⟨dst, .load t x, ty, pos, af, none⟩).run P w = .ok (.value v) w := by
  simp only [execOp, hx]
  rw [Sem.run_bind, run_load_s I w p v h]; rfl
theorem ex_load_a {t : Nat} {n : Nat} (I : TyC P t true n) {w : World} {g o : Nat} {cs : List Value} {ρ : Operand → Value} {x : Operand} {dst : Option Tmp} {ty : TypeId} {pos : String} {af : Array Edge} (hx : ρ x = .pointer (some ⟨g, o, none⟩)) (hn : cs.length = n) (h : ∀ (j : Nat) (v : Value), cs[j]? = some v → w.cell? ⟨g, o + j, none⟩ = some v) : (execOp ρ ⟨dst, .load t x, ty, pos, af, none⟩).run P w = .ok (.value (.agg cs.toArray)) w := by
  simp only [execOp, hx]
  rw [Sem.run_bind, run_load_a I w g o cs hn h]; rfl
end

section
variable {P : Program} {ops : Array Oper} {Q : Exit → St → Prop} {X : List Oper → St → Prop} {rest : List Oper} {st : St} {d : Nat} {ty : TypeId} {pos : String} {af : Array Edge}

theorem ao_field_p [W : Walk P X] {x : Operand} {s i k b off : Nat} [I : FieldAt P s i k] (hx : st.ev x = some (.ptr b off)) (hd : Nat.blt d st.n = true) (h : X rest (st.put d (.ptr b (off + k)))) : X (⟨some d, .fieldAddr s x i, ty, pos, af, none⟩ :: rest) st := by
  refine ao_val rfl rfl hd (fun _ _ M a hs => ?_) h
  have hv := hs.ev (by simp [Op.operands, Call.operands]) hx
  generalize he : a.eval x = u at hv
  cases hv with
  | ptr hm =>
    refine ⟨_, ?_, .ptr hm⟩
    simp only [execOp, he]
    simp [run_fieldAt I]
theorem ao_field_e [W : Walk P X] {x : Operand} {s i k off : Nat} {xs : List CV} [I : FieldAt P s i k] (hx : st.ev x = some (.eptr xs off)) (hd : Nat.blt d st.n = true) (h : X rest (st.put d (.eptr xs (off + k)))) : X (⟨some d, .fieldAddr s x i, ty, pos, af, none⟩ :: rest) st := by
  refine ao_val rfl rfl hd (fun _ _ M a hs => ?_) h
  have hv := hs.ev (by simp [Op.operands, Call.operands]) hx
  generalize he : a.eval x = u at hv
  cases hv with
  | eptr cs hF hc hr =>
    rename_i blk o
    refine ⟨.pointer (some ⟨blk, o + (off + k), none⟩), ?_, .eptr cs hF hc hr⟩
    simp only [execOp, he]
    simp [run_fieldAt I, Nat.add_assoc]
theorem ao_load_p [W : Walk P X] {x : Operand} {t b off n : Nat} {t' : TypeId} {l : List AV} {y : AV} [I : TyC P t false n] (hx : st.ev x = some (.ptr b off)) (hH : st.H b = some (.cells t' l)) (hy : l[off]? = some y) (hd : Nat.blt d st.n = true) (h : X rest (st.put d y)) : X (⟨some d, .load t x, ty, pos, af, none⟩ :: rest) st := by
  refine ao_val rfl rfl hd (fun _ _ M a hs => ?_) h
  have hv := hs.ev (by simp [Op.operands, Call.operands]) hx
  generalize he : a.eval x = u at hv
  cases hv with
  | ptr hm =>
    rename_i g
    obtain ⟨g', arr, e1, _, _, e4, e5, e6⟩ := hs.sim.heap.cells b t' l (hs.H _ _ hH)
    rw [hm] at e1; cases e1
    have hlt : off < arr.size := by rw [← e5]; exact (List.getElem?_eq_some_iff.1 hy).1
    exact ⟨arr[off], ex_load_s I he (by simp [World.cell?, e4, hlt]), e6 off y _ hy (by simp [hlt])⟩
theorem ao_load_pa [W : Walk P X] {x : Operand} {t b off n : Nat} {t' : TypeId} {l : List AV} [I : TyC P t true n] (ys : List AV) (hx : st.ev x = some (.ptr b off)) (hH : st.H b = some (.cells t' l)) (hy : (l.drop off).take n = ys) (hn : ys.length = n) (hd : Nat.blt d st.n = true) (h : X rest (st.put d (.agg ys))) : X (⟨some d, .load t x, ty, pos, af, none⟩ :: rest) st := by
  refine ao_val rfl rfl hd (fun _ _ M a hs => ?_) h
  have hv := hs.ev (by simp [Op.operands, Call.operands]) hx
  generalize he : a.eval x = u at hv
  cases hv with
  | ptr hm =>
    rename_i g
    obtain ⟨g', arr, e1, _, _, e4, e5, e6⟩ := hs.sim.heap.cells b t' l (hs.H _ _ hH)
    rw [hm] at e1; cases e1
    have hln : ((arr.toList.drop off).take n).length = n := by
      have : ((l.drop off).take n).length = n := by rw [hy]; exact hn
      simp only [List.length_take, List.length_drop, Array.length_toList] at this ⊢
      rw [← e5]; exact this
    refine ⟨.agg ((arr.toList.drop off).take n).toArray, ?_, .agg (by rw [hn]; simpa using hln.symm) ?_⟩
    · refine ex_load_a I he hln (fun j v hv => ?_)
      have hj : j < n := by have := (List.getElem?_eq_some_iff.1 hv).1; omega
      rw [List.getElem?_take_of_lt hj, List.getElem?_drop, Array.getElem?_toList] at hv
      simp [World.cell?, e4, hv]
    · intro i y u hy' hu
      subst hy
      have hi : i < n := by have := (List.getElem?_eq_some_iff.1 hy').1; omega
      rw [List.getElem?_take_of_lt hi, List.getElem?_drop] at hy'
      rw [List.getElem?_toArray, List.getElem?_take_of_lt hi, List.getElem?_drop, Array.getElem?_toList] at hu
      exact e6 _ y u hy' hu
theorem ao_load_e [W : Walk P X] {x : Operand} {t off n : Nat} {xs : List CV} {y : CV} {ys : List CV} [I : TyC P t false n] (hx : st.ev x = some (.eptr xs off)) (hy : xs.drop off = y :: ys) (hd : Nat.blt d st.n = true) (h : X rest (st.put d (.c y))) : X (⟨some d, .load t x, ty, pos, af, none⟩ :: rest) st := by
  refine ao_val rfl rfl hd (fun _ _ M a hs => ?_) h
  have hv := hs.ev (by simp [Op.operands, Call.operands]) hx
  generalize he : a.eval x = u at hv
  have hg : xs[off]? = some y := by
    have : (xs.drop off)[0]? = some y := by rw [hy]; rfl
    rwa [List.getElem?_drop] at this
  cases hv with
  | eptr cs hF hc hr =>
    exact ⟨cs off, ex_load_s I he (hc off y hg), .c (hr off y hg)⟩
theorem ao_load_ea [W : Walk P X] {x : Operand} {t off n : Nat} {xs : List CV} (zs : List CV) {ys : List CV} [I : TyC P t true n] (hx : st.ev x = some (.eptr xs off)) (hy : xs.drop off = zs ++ ys) (hn : zs.length = n) (hd : Nat.blt d st.n = true) (h : X rest (st.put d (.agg (zs.map .c)))) : X (⟨some d, .load t x, ty, pos, af, none⟩ :: rest) st := by
  refine ao_val rfl rfl hd (fun _ _ M a hs => ?_) h
  have hv := hs.ev (by simp [Op.operands, Call.operands]) hx
  generalize he : a.eval x = u at hv
  have hg : ∀ i z, zs[i]? = some z → xs[off + i]? = some z := fun i z hz => by
    have hi := (List.getElem?_eq_some_iff.1 hz).1
    rw [← List.getElem?_drop, hy, List.getElem?_append_left hi]; exact hz
  cases hv with
  | eptr cs hF hc hr =>
    rename_i blk o
    have hln : ((List.range n).map fun i => cs (off + i)).length = n := by simp
    refine ⟨.agg ((List.range n).map fun i => cs (off + i)).toArray, ?_, .agg (by simp [hn]) ?_⟩
    · refine ex_load_a I he hln (fun j v hv => ?_)
      have hj : j < n := by have := (List.getElem?_eq_some_iff.1 hv).1; omega
      have e : cs (off + j) = v := by simpa [hj] using hv
      rw [← e, Nat.add_assoc]
      exact hc (off + j) (zs[j]'(by omega)) (hg j _ (by simp [show j < zs.length by omega]))
    · intro i y u hy' hu
      obtain ⟨z, h1, rfl⟩ : ∃ z, zs[i]? = some z ∧ AV.c z = y := by simpa using hy'
      have hi := (List.getElem?_eq_some_iff.1 h1).1
      have e : cs (off + i) = u := by
        have : i < n := by omega
        simpa [this] using hu
      rw [← e]
      exact .c (hr _ z (hg i z h1))
theorem ao_load_v [W : Walk P X] {x : Operand} {t b n off m E size : Nat} {l : List CV} {y : CV} {ys : List CV} [I : TyC P t false m] (hx : st.ev x = some (.vptr b n off)) (hH : st.H b = some (.vec E size l)) (hn : l.length = n * size) (hy : l.drop off = y :: ys) (hd : Nat.blt d st.n = true) (h : X rest (st.put d (.c y))) : X (⟨some d, .load t x, ty, pos, af, none⟩ :: rest) st := by
  refine ao_val rfl rfl hd (fun _ _ M a hs => ?_) h
  have hv := hs.ev (by simp [Op.operands, Call.operands]) hx
  generalize he : a.eval x = u at hv
  have hg : l[off]? = some y := by
    have : (l.drop off)[0]? = some y := by rw [hy]; rfl
    rwa [List.getElem?_drop] at this
  cases hv with
  | vptr hb ho hh =>
    obtain ⟨h1, h2⟩ := hh E size l (hs.H _ _ hH)
    obtain ⟨g, cap, h3, rfl⟩ := h2 hn
    obtain ⟨v, n', cs, e1, e2, e3, e4, e5, e6⟩ := hs.sim.heap.vec b E size l (hs.H _ _ hH)
    rw [h3] at e1; cases e1
    have hlt : off < cs.length := by rw [e4.1, ← e2]; exact (List.getElem?_eq_some_iff.1 hg).1
    refine ⟨cs[off], ?_, .c (e5 off y _ hg (by simp [hlt]))⟩
    have hc : M.w.cell? ⟨g, off, none⟩ = some cs[off] := by
      have := World.ownsRow.cells e4 (g := g) rfl off cs[off] (by simp [hlt])
      rwa [Kit.addr_add, Nat.zero_add] at this
    exact ex_load_s I he hc
theorem ao_load_va [W : Walk P X] {x : Operand} {t b n off m E size : Nat} {l : List CV} (zs : List CV) {ys : List CV} [I : TyC P t true m] (hx : st.ev x = some (.vptr b n off)) (hH : st.H b = some (.vec E size l)) (hn : l.length = n * size) (hy : l.drop off = zs ++ ys) (hm : zs.length = m) (hd : Nat.blt d st.n = true) (h : X rest (st.put d (.agg (zs.map .c)))) : X (⟨some d, .load t x, ty, pos, af, none⟩ :: rest) st := by
  refine ao_val rfl rfl hd (fun _ _ M a hs => ?_) h
  have hv := hs.ev (by simp [Op.operands, Call.operands]) hx
  generalize he : a.eval x = u at hv
  have hg : ∀ i z, zs[i]? = some z → l[off + i]? = some z := fun i z hz => by
    have hi := (List.getElem?_eq_some_iff.1 hz).1
    rw [← List.getElem?_drop, hy, List.getElem?_append_left hi]; exact hz
  cases hv with
  | vptr hb ho hh =>
    obtain ⟨h1, h2⟩ := hh E size l (hs.H _ _ hH)
    obtain ⟨g, cap, h3, rfl⟩ := h2 hn
    obtain ⟨v, n', cs, e1, e2, e3, e4, e5, e6⟩ := hs.sim.heap.vec b E size l (hs.H _ _ hH)
    rw [h3] at e1; cases e1
    have hlen : cs.length = l.length := by rw [e4.1, ← e2]
    have hln : ((cs.drop off).take m).length = m := by
      have := congrArg List.length hy
      simp only [List.length_drop, List.length_append] at this
      simp only [List.length_take, List.length_drop]; omega
    refine ⟨.agg ((cs.drop off).take m).toArray, ?_, .agg (by simpa [hm] using hln.symm) ?_⟩
    · refine ex_load_a I he hln (fun j v hv => ?_)
      have hj : j < m := by have := (List.getElem?_eq_some_iff.1 hv).1; omega
      rw [List.getElem?_take_of_lt hj, List.getElem?_drop] at hv
      have := World.ownsRow.cells e4 (g := g) rfl (off + j) v hv
      rwa [Kit.addr_add, Nat.zero_add] at this
    · intro i y u hy' hu
      obtain ⟨z, h1', rfl⟩ : ∃ z, zs[i]? = some z ∧ AV.c z = y := by simpa using hy'
      have hi : i < m := by have := (List.getElem?_eq_some_iff.1 h1').1; omega
      rw [List.getElem?_toArray, List.getElem?_take_of_lt hi, List.getElem?_drop] at hu
      exact .c (e5 _ z u (hg i z h1') hu)
end
end Go.Proofs.YtkhljpbkebnnmaaDoor.Ev
/- Rules of a walk over abstract states: new memory and stores. Nothing here names a program. -/
namespace Go.Proofs.YtkhljpbkebnnmaaDoor.Ev
set_option linter.unusedVariables false
set_option linter.unusedSimpArgs false
open Go.RowKit

theorem H_new (st : St) (x : AB) (b : Nat) : (st.new x).H b = if st.nx = b then some x else st.H b := by
  unfold St.H St.new
  simp only [look_cons]
  by_cases h : st.nx = b
  · simp [h]
  · simp [h]
theorem H_set (st : St) (b' : Nat) (x : AB) (b : Nat) : (st.set b' x).H b = if b' = b then some x else st.H b := by
  unfold St.H St.set
  simp only [look_cons]
  by_cases h : b' = b
  · simp [h]
  · simp [h]

def Wd.new (M : Wd) (st : St) (x : AB) (c : Conc) (o : Obj) : Wd :=
  { m := fun b => if b = M.nx then c else M.m b, H := (st.new x).H, nx := M.nx + 1, F := M.F, w := M.w.alloc o }

theorem alloc_heap (w : World) (o : Obj) (b : Nat) (h : b < w.heap.size) : (w.alloc o).heap[b]? = w.heap[b]? := Below.heap_alloc w o b h
theorem alloc_size (w : World) (o : Obj) : (w.alloc o).heap.size = w.heap.size + 1 := by show (w.heap.push o).size = _; simp
theorem alloc_new (w : World) (o : Obj) : (w.alloc o).heap[w.heap.size]? = some o := by show (w.heap.push o)[w.heap.size]? = _; simp

section
variable {base : Nat} {w0 : W0} {st : St} {M : Wd} {a : Act}

theorem Sim.extNew (hs : Sim base w0 st M a) (x : AB) (c : Conc) (o : Obj) : Ext M (M.new st x c o) where
  m := fun b g hb => by
    have : b ≠ M.nx := fun he => hs.heap.fresh b (by omega) g hb
    simp only [Wd.new]; rw [if_neg this]; exact hb
  v := fun b E size l' hb hl => by
    simp only [Wd.new] at hl ⊢
    rw [H_new, if_neg (by rw [← hs.nx]; omega), ← hs.H] at hl
    exact ⟨l', hl, Nat.le_refl _, fun _ => if_neg (by omega)⟩
  nx := by simp [Wd.new]
  F := fun b hb => ⟨hb, alloc_heap _ _ _ (hs.heap.frz b hb)⟩

theorem conc_lt {M : Wd} {base : Nat} (h : HeapOK M base) {b g : Nat} (hb : M.H b ≠ none) (hg : (M.m b).block = some g) : g < M.w.heap.size := by
  cases hx : M.H b with
  | none => exact absurd hx hb
  | some x =>
    cases x with
    | cells t l =>
      obtain ⟨g', arr, e1, _, _, e4, _⟩ := h.cells b t l hx
      rw [e1] at hg
      simp only [Conc.block, Option.some.injEq] at hg; subst hg
      exact (Array.getElem?_eq_some_iff.1 e4).1
    | vec E size l =>
      obtain ⟨v, n, cs, e1, _, _, e4, _⟩ := h.vec b E size l hx
      rw [e1] at hg
      exact (World.ownsRow.lt e4 g hg).2

theorem Sim.newB (hs : Sim base w0 st M a) {x : AB} {c : Conc} {arr : Array Value} {t : TypeId} (hc : ∀ g, c.block = some g → g = M.w.heap.size)
    (hcells : ∀ t' l, x = .cells t' l → t' = t ∧ c = .blk M.w.heap.size ∧ l.length = arr.size ∧ ∀ (i : Nat) (y : AV) (u : Value), l[i]? = some y → arr[i]? = some u → RA M y u)
    (hvec : ∀ E size l, x = .vec E size l → ∃ n cap, c = .row (.slice (some ⟨M.w.heap.size, 0, none⟩) n cap) ∧ E = t ∧ 0 < size ∧ l.length = n * size ∧ n ≤ cap ∧ cap ≤ maxLen ∧ arr.size = cap * size ∧ ∀ (i : Nat) (y : CV) (u : Value), l[i]? = some y → arr[i]? = some u → RC M.F M.w y u) :
    Sim base w0 (st.new x) (M.new st x c (.cells arr t)) a := by
  have hext := hs.extNew x c (.cells arr t)
  have hH : ∀ b, (M.new st x c (.cells arr t)).H b = if M.nx = b then some x else M.H b := fun b => by
    show (st.new x).H b = _
    rw [H_new, hs.nx, hs.H]
  have hm : (M.new st x c (.cells arr t)).m M.nx = c := by simp [Wd.new]
  have hm' : ∀ b, b ≠ M.nx → (M.new st x c (.cells arr t)).m b = M.m b := fun b hb => by simp [Wd.new, hb]
  have hF : ∀ b, M.F b → M.F b ∧ (M.new st x c (.cells arr t)).w.heap[b]? = M.w.heap[b]? := hext.F
  refine ⟨rfl, by show M.nx + 1 = st.nx + 1; rw [hs.nx], hs.n, fun i y hy => ?_, fun g xs hg => (hs.gl g xs hg).mono hext, ⟨?_, ?_, ?_, ?_, ?_, ?_⟩, ?_, ?_, hs.defs, hs.old⟩
  · obtain ⟨v, h1, h2⟩ := hs.env i y hy
    exact ⟨v, h1, h2.mono hext⟩
  · intro b t' l hl
    rw [hH] at hl
    by_cases hb : M.nx = b
    · subst hb
      rw [if_pos rfl] at hl
      simp only [Option.some.injEq] at hl
      obtain ⟨rfl, h2, h3, h4⟩ := hcells t' l hl
      refine ⟨M.w.heap.size, arr, by rw [hm]; exact h2, hs.base, fun hf => absurd (hs.heap.frz _ hf) (by omega), alloc_new _ _, h3, fun i y u h5 h6 => (h4 i y u h5 h6).mono hext⟩
    · rw [if_neg hb] at hl
      obtain ⟨g, arr', e1, e2, e3, e4, e5, e6⟩ := hs.heap.cells b t' l hl
      refine ⟨g, arr', by rw [hm' b (Ne.symm hb)]; exact e1, e2, e3, ?_, e5, fun i y u h5 h6 => (e6 i y u h5 h6).mono hext⟩
      show (M.w.alloc _).heap[g]? = _
      rw [alloc_heap _ _ _ (Array.getElem?_eq_some_iff.1 e4).1]; exact e4
  · intro b E size l hl
    rw [hH] at hl
    by_cases hb : M.nx = b
    · subst hb
      rw [if_pos rfl] at hl
      simp only [Option.some.injEq] at hl
      obtain ⟨n, cap, h1, rfl, h3, h4, h5, h6, h7, h8⟩ := hvec E size l hl
      have hle : n * size ≤ arr.size := by rw [h7]; exact Nat.mul_le_mul_right _ h5
      refine ⟨_, n, arr.toList.take (n * size), by rw [hm]; exact h1, h4, h3, ⟨by simp; omega, Or.inr ⟨M.w.heap.size, cap, arr, rfl, hs.base, alloc_new _ _, h5, h6, h7, rfl⟩⟩, fun i y u h9 h10 => ?_, fun g hg hf => ?_⟩
      · have hi : i < n * size := by rw [← h4]; exact (List.getElem?_eq_some_iff.1 h9).1
        rw [List.getElem?_take_of_lt hi, Array.getElem?_toList] at h10
        exact (h8 i y u h9 h10).mono hF
      · simp only [Value.ownBlock, Option.some.injEq] at hg; subst hg
        exact absurd (hs.heap.frz _ hf) (by omega)
    · rw [if_neg hb] at hl
      obtain ⟨v, n, cs, e1, e2, e3, e4, e5, e6⟩ := hs.heap.vec b E size l hl
      exact ⟨v, n, cs, by rw [hm' b (Ne.symm hb)]; exact e1, e2, e3, World.ownsRow.alloc e4 _, fun i y u h9 h10 => (e5 i y u h9 h10).mono hF, e6⟩
  · intro b b' g hbb hb hb' hg hg'
    rw [hH] at hb hb'
    have hold : ∀ k, k ≠ M.nx → (if M.nx = k then some x else M.H k) ≠ none → ((M.new st x c (.cells arr t)).m k).block = some g → g < M.w.heap.size := fun k hk h1 h2 => by
      rw [if_neg (Ne.symm hk)] at h1
      rw [hm' k hk] at h2
      exact conc_lt hs.heap h1 h2
    by_cases h1 : b = M.nx
    · subst h1
      rw [hm] at hg
      have := hc g hg
      have := hold b' (Ne.symm hbb) hb' hg'
      omega
    · by_cases h2 : b' = M.nx
      · subst h2
        rw [hm] at hg'
        have := hc g hg'
        have := hold b h1 hb hg
        omega
      · rw [if_neg (Ne.symm h1)] at hb
        rw [if_neg (Ne.symm h2)] at hb'
        rw [hm' b h1] at hg
        rw [hm' b' h2] at hg'
        exact hs.heap.sep b b' g hbb hb hb' hg hg'
  · intro b hb
    rw [hH] at hb
    show b < M.nx + 1
    by_cases h1 : M.nx = b
    · omega
    · rw [if_neg h1] at hb
      have := hs.heap.lt b hb; omega
  · intro b hb g
    have hb : M.nx + 1 ≤ b := hb
    rw [hm' b (by omega)]
    exact hs.heap.fresh b (by omega) g
  · intro b hb
    show b < (M.w.alloc _).heap.size
    rw [alloc_size]
    have := hs.heap.frz b hb; omega
  · exact hs.below.alloc hs.base _
  · show base ≤ (M.w.alloc _).heap.size
    rw [alloc_size]; have := hs.base; omega
end

def AV.cellB : AV → Bool
  | .c (.v x) => x.oneCell'
  | .c (.lst _ _) => true
  | .c _ => false
  | .agg _ => false
  | .tup _ => false
  | _ => true
theorem RA.one {M : Wd} {y : AV} {u : Value} (h : RA M y u) (hc : y.cellB = true) : u.oneCell' = true := by
  cases h with
  | c h =>
    cases h with
    | v x => exact hc
    | agg => cases hc
    | tup => cases hc
    | nil => rfl
    | e0 => cases hc
    | lst => rfl
  | agg => cases hc
  | tup => cases hc
  | ptr => rfl
  | vec _ ho _ => exact ho
  | vptr _ ho _ => exact ho
  | eptr => rfl
  | fn => rfl
theorem cells_one {u : Value} (h : u.oneCell' = true) : u.cells = #[u] := by
  cases u <;> first | rfl | cases h

section
variable {P : Program} {ops : Array Oper} {Q : Exit → St → Prop} {rest : List Oper} {st : St} {d : Nat} {ty : TypeId} {pos : String} {af : Array Edge}

/-- A step that makes one block and yields a value. -/
theorem ao_new {o : Oper} {x : AB} {y : AV} (hg : o.guard = none) (hdst : o.dst = some d) (hd : Nat.blt d st.n = true)
    (hrun : ∀ base w0 M a, Sim base w0 st M a → ∃ (u : Value) (c : Conc) (arr : Array Value) (t : TypeId), (execOp a.eval o).run P M.w = .ok (.value u) (M.w.alloc (.cells arr t)) ∧ Sim base w0 (st.new x) (M.new st x c (.cells arr t)) a ∧ RA (M.new st x c (.cells arr t)) y u)
    (h : AOps P ops Q rest ((st.new x).put d y)) : AOps P ops Q (o :: rest) st := by
  intro base w0 M a hs
  obtain ⟨u, c, arr, t, hr, h1, h2⟩ := hrun base w0 M a hs
  refine wl_value hg hr ?_
  rw [hdst]
  have := h base w0 (M.new st x c (.cells arr t)) _ (h1.put hd h2)
  exact wpList_monoQ (fun e a w => Lift.ext (hs.extNew x c _)) _ _ _ this

theorem ao_box_a {x : Operand} {t : TypeId} {ys : List AV} (hx : st.ev x = some (.agg ys)) (hd : Nat.blt d st.n = true) (h : AOps P ops Q rest ((st.new (.cells t ys)).put d (.ptr st.nx 0))) : AOps P ops Q (⟨some d, .box t x, ty, pos, af, none⟩ :: rest) st := by
  refine ao_new rfl rfl hd (fun base w0 M a hs => ?_) h
  have hv := hs.ev hx
  generalize he : a.eval x = u at hv
  cases hv with
  | agg hl hh =>
    rename_i vs
    refine ⟨.pointer (some ⟨M.w.heap.size, 0, none⟩), .blk M.w.heap.size, vs, t, ?_, hs.newB (fun g hg => by simpa [Conc.block] using hg.symm) ?_ (fun _ _ _ h => by cases h), ?_⟩
    · simp only [execOp, he]
      simp [Instr.box, newVar, newRow, Value.cells]
    · intro t' l hl'
      simp only [AB.cells.injEq] at hl'
      obtain ⟨rfl, rfl⟩ := hl'
      exact ⟨rfl, rfl, hl, hh⟩
    · refine .ptr ?_
      simp [Wd.new, hs.nx]
def zeroB (P : Program) (t : Nat) : Option (List Value) := match P.info? t with | some i => i.zero.map (fun z => z.cells.toList) | none => none
class ZeroT (P : Program) (t : Nat) (zs : outParam (List Value)) : Prop where
  h : zeroB P t = some zs
theorem ZeroT.out {t : Nat} {zs : List Value} (I : ZeroT P t zs) : ∃ i z, P.info? t = some i ∧ i.zero = some z ∧ z.cells.toList = zs := by
  have h := I.h
  unfold zeroB at h
  split at h
  · rename_i i hi
    cases hz : i.zero with
    | none => rw [hz] at h; cases h
    | some z => rw [hz] at h; exact ⟨i, z, hi, hz, by simpa using h⟩
  · cases h
theorem ao_alloc {t : TypeId} {zs : List Value} [I : ZeroT P t zs] (hd : Nat.blt d st.n = true) (h : AOps P ops Q rest ((st.new (.cells t (zs.map fun z => .c (.v z)))).put d (.ptr st.nx 0))) : AOps P ops Q (⟨some d, .alloc t, ty, pos, af, none⟩ :: rest) st := by
  refine ao_new rfl rfl hd (fun base w0 M a hs => ?_) h
  obtain ⟨i, z, h1, h2, h3⟩ := I.out
  refine ⟨.pointer (some ⟨M.w.heap.size, 0, none⟩), .blk M.w.heap.size, z.cells, t, ?_, hs.newB (fun g hg => by simpa [Conc.block] using hg.symm) ?_ (fun _ _ _ h => by cases h), ?_⟩
  · simp only [execOp]
    simp [Instr.alloc, zeroValue, typeInfo, h1, h2, newVar, newRow]
  · intro t' l hl
    simp only [AB.cells.injEq] at hl
    obtain ⟨rfl, rfl⟩ := hl
    subst h3
    refine ⟨rfl, rfl, by simp, fun i y u hy hu => ?_⟩
    simp only [List.getElem?_map, Array.getElem?_toList, hu, Option.map_some, Option.some.injEq] at hy
    subst hy; exact .c (.v _)
  · refine .ptr ?_
    simp [Wd.new, hs.nx]
end
end Go.Proofs.YtkhljpbkebnnmaaDoor.Ev
/- Rules of a walk over abstract states: stores, lists, appends. Nothing here names a program. -/
namespace Go.Proofs.YtkhljpbkebnnmaaDoor.Ev
set_option linter.unusedVariables false
set_option linter.unusedSimpArgs false
open Go.RowKit

/-- The world with another content of one block of the call's own. -/
def Wd.set (M : Wd) (st : St) (b : Nat) (x : AB) (c : Conc) (w : World) : Wd := { m := fun k => if k = b then c else M.m k, H := (st.set b x).H, nx := M.nx, F := M.F, w := w }

section
variable {base : Nat} {w0 : W0} {st : St} {M : Wd} {a : Act}

theorem setRow_heap_ne (w : World) (g : Nat) (cs : Array Value) (b : Nat) (h : b ≠ g) : (w.setRow g cs).heap[b]? = w.heap[b]? := by
  simp only [World.setRow, Array.getElem?_modify]
  rw [if_neg (Ne.symm h)]
theorem setRow_size (w : World) (g : Nat) (cs : Array Value) : (w.setRow g cs).heap.size = w.heap.size := by simp [World.setRow]

/-- What a step that changes one block of the call's own (and may make others) leaves. -/
theorem Sim.change (hs : Sim base w0 st M a) {b : Nat} {x : AB} {c : Conc} {w' : World} (hb : M.H b ≠ none)
    (hw : ∀ k, k < M.w.heap.size → (M.m b).block ≠ some k → w'.heap[k]? = M.w.heap[k]?) (hsz : M.w.heap.size ≤ w'.heap.size) (hos : w'.os = M.w.os) (htape : w'.tape = M.w.tape) (hout : w'.output = M.w.output)
    (hbase : ∀ k, (M.m b).block = some k → base ≤ k)
    (hcb : ∀ k, c.block = some k → (M.m b).block = some k ∨ M.w.heap.size ≤ k)
    (hnF : ∀ k, (M.m b).block = some k → ¬ M.F k)
    (hm : ∀ g, M.m b = .blk g → c = .blk g)
    (hv : ∀ E size l', x = .vec E size l' → ∃ l, M.H b = some (.vec E size l) ∧ l.length ≤ l'.length ∧ (l'.length = l.length → c = M.m b))
    (hcells : ∀ M', Ext M M' → M'.w = w' → M'.F = M.F → ∀ t l, x = .cells t l → ∃ (g : Nat) (arr : Array Value), c = .blk g ∧ base ≤ g ∧ w'.heap[g]? = some (.cells arr t (0, 0)) ∧ l.length = arr.size ∧ ∀ (i : Nat) (y : AV) (u : Value), l[i]? = some y → arr[i]? = some u → RA M' y u)
    (hvec : ∀ E size l, x = .vec E size l → ∃ (v : Value) (n : Nat) (cs : List Value), c = .row v ∧ l.length = n * size ∧ 0 < size ∧ w'.ownsRow base E size v n cs ∧ ∀ (i : Nat) (y : CV) (u : Value), l[i]? = some y → cs[i]? = some u → RC M.F w' y u) :
    Sim base w0 (st.set b x) (M.set st b x c w') a ∧ Ext M (M.set st b x c w') := by
  have hF : ∀ k, M.F k → M.F k ∧ w'.heap[k]? = M.w.heap[k]? := fun k hk => ⟨hk, hw k (hs.heap.frz k hk) (fun he => hnF k he hk)⟩
  have hH : ∀ k, (M.set st b x c w').H k = if b = k then some x else M.H k := fun k => by
    show (st.set b x).H k = _
    rw [H_set, hs.H]
  have hm1 : (M.set st b x c w').m b = c := by simp [Wd.set]
  have hm2 : ∀ k, k ≠ b → (M.set st b x c w').m k = M.m k := fun k hk => by simp [Wd.set, hk]
  have hext : Ext M (M.set st b x c w') := by
    refine ⟨fun k g hk => ?_, fun k E size l' hk hl => ?_, Nat.le_refl _, hF⟩
    · by_cases h : k = b
      · subst h; rw [hm1]; exact hm g hk
      · rw [hm2 k h]; exact hk
    · rw [hH] at hl
      by_cases h : b = k
      · subst h
        rw [if_pos rfl] at hl
        simp only [Option.some.injEq] at hl
        obtain ⟨l, e1, e2, e3⟩ := hv E size l' hl
        exact ⟨l, e1, e2, fun hh => by rw [hm1]; exact e3 hh⟩
      · rw [if_neg h] at hl
        exact ⟨l', hl, Nat.le_refl _, fun _ => hm2 k (Ne.symm h)⟩
  have hlt : b < M.nx := hs.heap.lt b hb
  refine ⟨⟨rfl, hs.nx, hs.n, fun i y hy => ?_, fun g xs hg => (hs.gl g xs hg).mono hext, ⟨?_, ?_, ?_, ?_, ?_, ?_⟩, ?_, ?_, hs.defs, hs.old⟩, hext⟩
  · obtain ⟨v, h1, h2⟩ := hs.env i y hy
    exact ⟨v, h1, h2.mono hext⟩
  · intro k t l hl
    rw [hH] at hl
    by_cases h : b = k
    · subst h
      rw [if_pos rfl] at hl
      simp only [Option.some.injEq] at hl
      obtain ⟨g, arr, e1, e2, e3, e4, e5⟩ := hcells _ hext rfl rfl t l hl
      refine ⟨g, arr, by rw [hm1]; exact e1, e2, fun hf => ?_, e3, e4, e5⟩
      rcases hcb g (by rw [e1]; rfl) with h1 | h1
      · exact hnF g h1 hf
      · exact absurd (hs.heap.frz g hf) (by omega)
    · rw [if_neg h] at hl
      obtain ⟨g, arr, e1, e2, e3, e4, e5, e6⟩ := hs.heap.cells k t l hl
      refine ⟨g, arr, by rw [hm2 k (Ne.symm h)]; exact e1, e2, e3, ?_, e5, fun i y u h1 h2 => (e6 i y u h1 h2).mono hext⟩
      show w'.heap[g]? = _
      rw [hw g (Array.getElem?_eq_some_iff.1 e4).1 (hs.heap.sep k b g (Ne.symm h) (by rw [hl]; simp) hb (by rw [e1]; rfl))]
      exact e4
  · intro k E size l hl
    rw [hH] at hl
    by_cases h : b = k
    · subst h
      rw [if_pos rfl] at hl
      simp only [Option.some.injEq] at hl
      obtain ⟨v, n, cs, e1, e2, e3, e4, e5⟩ := hvec E size l hl
      refine ⟨v, n, cs, by rw [hm1]; exact e1, e2, e3, e4, e5, fun g hg hf => ?_⟩
      rcases hcb g (by rw [e1]; exact hg) with h1 | h1
      · exact hnF g h1 hf
      · exact absurd (hs.heap.frz g hf) (by omega)
    · rw [if_neg h] at hl
      obtain ⟨v, n, cs, e1, e2, e3, e4, e5, e6⟩ := hs.heap.vec k E size l hl
      refine ⟨v, n, cs, by rw [hm2 k (Ne.symm h)]; exact e1, e2, e3, ?_, fun i y u h1 h2 => (e5 i y u h1 h2).mono hF, e6⟩
      obtain ⟨f1, f2⟩ := e4
      refine ⟨f1, ?_⟩
      rcases f2 with f2 | ⟨g, cap, cur, rfl, g1, g2, g3⟩
      · exact Or.inl f2
      · refine Or.inr ⟨g, cap, cur, rfl, g1, ?_, g3⟩
        show w'.heap[g]? = _
        rw [hw g (Array.getElem?_eq_some_iff.1 g2).1 (hs.heap.sep k b g (Ne.symm h) (by rw [hl]; simp) hb (by rw [e1]; rfl))]
        exact g2
  · intro k k' g hkk hk hk' hg hg'
    rw [hH] at hk hk'
    have hne : ∀ q, q ≠ b → (if b = q then some x else M.H q) ≠ none → M.H q ≠ none := fun q hq hn => by rwa [if_neg (Ne.symm hq)] at hn
    by_cases h1 : k = b
    · subst h1
      rw [hm1] at hg
      rw [hm2 k' (Ne.symm hkk)] at hg'
      have hk2 := hne k' (Ne.symm hkk) hk'
      rcases hcb g hg with h2 | h2
      · exact hs.heap.sep k k' g hkk hb hk2 h2 hg'
      · have := conc_lt hs.heap hk2 hg'; omega
    · by_cases h2 : k' = b
      · subst h2
        rw [hm1] at hg'
        rw [hm2 k h1] at hg
        have hk2 := hne k h1 hk
        rcases hcb g hg' with h3 | h3
        · exact hs.heap.sep k k' g hkk hk2 hb hg h3
        · have := conc_lt hs.heap hk2 hg; omega
      · rw [hm2 k h1] at hg
        rw [hm2 k' h2] at hg'
        exact hs.heap.sep k k' g hkk (hne k h1 hk) (hne k' h2 hk') hg hg'
  · intro k hk
    rw [hH] at hk
    show k < M.nx
    by_cases h1 : b = k
    · omega
    · rw [if_neg h1] at hk; exact hs.heap.lt k hk
  · intro k hk g
    have hk : M.nx ≤ k := hk
    rw [hm2 k (by omega)]
    exact hs.heap.fresh k hk g
  · intro k hk
    show k < w'.heap.size
    have := hs.heap.frz k hk; omega
  · refine ⟨hos.trans hs.below.os, htape.trans hs.below.tape, hout.trans hs.below.output, Nat.le_trans hs.below.size hsz, fun k hk => ?_⟩
    show w'.heap[k]? = _
    have hb1 := hs.base
    rw [hw k (by omega) (fun he => by have := hbase k he; omega)]
    exact hs.below.block k hk
  · exact Nat.le_trans hs.base hsz
end

section
variable {P : Program} {ops : Array Oper} {Q : Exit → St → Prop} {rest : List Oper} {st : St} {d : Nat} {ty : TypeId} {pos : String} {af : Array Edge}

theorem run_store_row {t n : Nat} {ag : Bool} (I : TyC P t ag n) (w : World) (g o : Nat) (T : TypeId) (cur : Array Value) (v : Value) (hg : w.heap[g]? = some (.cells cur T (0, 0))) (hn : v.cells.size = n) (hl : o + n ≤ cur.size) (h1 : ∀ u ∈ v.cells.toList, u.oneCell' = true) :
    (Instr.storeAt t (.pointer (some ⟨g, o, none⟩)) v).run P w = .ok () (w.setRow g (cur.toList.take o ++ v.cells.toList ++ cur.toList.drop (o + n)).toArray) := by
  obtain ⟨d, i, e1, e2, e3, e4⟩ := I.out
  have := run_storeCells_at (P := P) g o T v.cells.toList 0 cur w hg (by simp; omega) h1
  simp only [Nat.add_zero, Array.length_toList, hn] at this
  simp [Instr.storeAt, Instr.sureAddr, storeVar, sizeOf, typeInfo, e3, e4, hn, this]

theorem aget_splice {α : Type} (cur vs : List α) (o n i : Nat) (hn : vs.length = n) (hl : o + n ≤ cur.length) : (cur.take o ++ vs ++ cur.drop (o + n))[i]? = if i < o then cur[i]? else if i < o + n then vs[i - o]? else cur[i]? := by
  by_cases h1 : i < o
  · rw [if_pos h1, List.append_assoc, List.getElem?_append_left (by simp; omega), List.getElem?_take_of_lt h1]
  · rw [if_neg h1]
    by_cases h2 : i < o + n
    · rw [if_pos h2, List.append_assoc, List.getElem?_append_right (by simp; omega), List.getElem?_append_left (by simp; omega)]
      congr 1
      simp; omega
    · rw [if_neg h2, List.getElem?_append_right (by simp; omega), List.getElem?_drop]
      congr 1
      simp; omega

def splice {α : Type} (l ys : List α) (off : Nat) : List α := l.take off ++ ys ++ l.drop (off + ys.length)

/-- A store of cells into a variable of the call's own. -/
theorem store_p {base : Nat} {w0 : W0} {M : Wd} {a : Act} {t n b off g : Nat} {ag : Bool} {t' : TypeId} {l ys : List AV} {v : Value} (I : TyC P t ag n) (hs : Sim base w0 st M a) (hH : st.H b = some (.cells t' l)) (hm : M.m b = .blk g)
    (hn : ys.length = n) (hl : off + n ≤ l.length) (hsz : v.cells.size = n) (hone : ∀ u ∈ v.cells.toList, u.oneCell' = true) (hr : ∀ (i : Nat) (y : AV) (u : Value), ys[i]? = some y → v.cells[i]? = some u → RA M y u) :
    ∃ w' M', (Instr.storeAt t (.pointer (some ⟨g, off, none⟩)) v).run P M.w = .ok () w' ∧ M'.w = w' ∧ Sim base w0 (st.set b (.cells t' (splice l ys off))) M' a ∧ Ext M M' := by
  have hb : M.H b = some (.cells t' l) := by rw [hs.H]; exact hH
  obtain ⟨g', arr, e1, e2, e3, e4, e5, e6⟩ := hs.heap.cells b t' l hb
  rw [hm] at e1; cases e1
  refine ⟨_, M.set st b (.cells t' (splice l ys off)) (.blk g) (M.w.setRow g (arr.toList.take off ++ v.cells.toList ++ arr.toList.drop (off + n)).toArray), run_store_row I M.w g off t' arr v e4 hsz (by omega) hone, rfl, ?_⟩
  refine hs.change (by rw [hb]; simp) (fun k hk hne => setRow_heap_ne _ _ _ _ (fun he => hne (by rw [hm, he]; rfl))) (by rw [setRow_size]; exact Nat.le_refl _) rfl rfl rfl (fun k hk => ?_) (fun k hk => Or.inl (by rw [hm]; exact hk)) (fun k hk => ?_) (fun g' hg' => by rw [hm] at hg'; cases hg'; rfl) (fun E size l' h => by cases h) ?_ (fun E size l' h => by cases h)
  · rw [hm] at hk; simp only [Conc.block, Option.some.injEq] at hk; omega
  · rw [hm] at hk; simp only [Conc.block, Option.some.injEq] at hk; subst hk; exact e3
  · intro M' hext hw' hF' t2 l2 h2
    simp only [AB.cells.injEq] at h2
    obtain ⟨rfl, rfl⟩ := h2
    refine ⟨g, _, rfl, e2, setRow_heap _ _ _ _ _ _ e4, ?_, fun i y u hy hu => ?_⟩
    · simp [splice, hn, hsz, e5]
    · rw [splice, aget_splice l ys off ys.length i rfl (by omega)] at hy
      rw [List.getElem?_toArray, aget_splice arr.toList v.cells.toList off n i (by simpa using hsz) (by simp; omega)] at hu
      rw [hn] at hy
      split at hy
      · rename_i h1; rw [if_pos h1] at hu; exact (e6 i y u hy (by simpa using hu)).mono hext
      · rename_i h1; rw [if_neg h1] at hu
        split at hy
        · rename_i h2; rw [if_pos h2] at hu; exact (hr _ y u hy (by simpa using hu)).mono hext
        · rename_i h2; rw [if_neg h2] at hu; exact (e6 i y u hy (by simpa using hu)).mono hext

theorem ao_store_gen {x z : Operand} {t : TypeId} {s2 : St} (hrun : ∀ base w0 M a, Sim base w0 st M a → ∃ w' M', (Instr.storeAt t (a.eval x) (a.eval z)).run P M.w = .ok () w' ∧ M'.w = w' ∧ Sim base w0 s2 M' a ∧ Ext M M')
    (h : AOps P ops Q rest s2) : AOps P ops Q (⟨none, .store t x z, ty, pos, af, none⟩ :: rest) st := by
  intro base w0 M a hs
  obtain ⟨w', M', h1, h2, h3, h4⟩ := hrun base w0 M a hs
  refine wl_skip (w' := w') rfl ?_ ?_
  · simp only [execOp]
    rw [Sem.run_bind, h1]; rfl
  · subst h2
    exact wpList_monoQ (fun e a w => Lift.ext h4) _ _ _ (h base w0 M' a h3)

theorem ao_store_p {x z : Operand} {t n b off : Nat} {ag : Bool} {t' : TypeId} {l : List AV} {y : AV} [I : TyC P t ag n] (hx : st.ev x = some (.ptr b off)) (hz : st.ev z = some y) (hc : y.cellB = true) (h1 : n = 1) (hH : st.H b = some (.cells t' l)) (hl : Nat.blt off l.length = true)
    (h : AOps P ops Q rest (st.set b (.cells t' (l.set off y)))) : AOps P ops Q (⟨none, .store t x z, ty, pos, af, none⟩ :: rest) st := by
  have hlt := blt_true hl
  have e : l.set off y = splice l [y] off := by
    unfold splice
    rw [List.set_eq_take_append_cons_drop, if_pos hlt]
    simp
  rw [e] at h
  refine ao_store_gen (fun base w0 M a hs => ?_) h
  have hv := hs.ev hx
  have hu := hs.ev hz
  have ho := hu.one hc
  generalize he : a.eval x = u at hv
  cases hv with
  | ptr hm =>
    refine store_p I hs hH hm (by simp [h1]) (by omega) (by rw [cells_one ho, h1]; rfl) (by rw [cells_one ho]; simpa using ho) (fun i y' u' h2 h3 => ?_)
    rw [cells_one ho] at h3
    cases i with
    | zero => simp at h2 h3; subst h2; subst h3; exact hu
    | succ i => simp at h2
theorem ao_store_pa {x z : Operand} {t n b off : Nat} {ag : Bool} {t' : TypeId} {l ys : List AV} [I : TyC P t ag n] (hx : st.ev x = some (.ptr b off)) (hz : st.ev z = some (.agg ys)) (hc : ys.all AV.cellB = true) (h1 : ys.length = n) (hH : st.H b = some (.cells t' l)) (hl : Nat.ble (off + n) l.length = true)
    (h : AOps P ops Q rest (st.set b (.cells t' (splice l ys off)))) : AOps P ops Q (⟨none, .store t x z, ty, pos, af, none⟩ :: rest) st := by
  have hle := Nat.le_of_ble_eq_true hl
  refine ao_store_gen (fun base w0 M a hs => ?_) h
  have hv := hs.ev hx
  have hu := hs.ev hz
  generalize he : a.eval x = u at hv
  generalize he2 : a.eval z = u2 at hu
  cases hv with
  | ptr hm =>
    cases hu with
    | agg hl2 hh =>
      rename_i vs
      refine store_p I hs hH hm h1 (by omega) (by simp only [Value.cells]; omega) (fun u hu => ?_) (fun i y' u' h2 h3 => hh i y' u' h2 h3)
      simp only [Value.cells] at hu
      obtain ⟨i, hi, rfl⟩ := List.mem_iff_getElem.1 hu
      have hi2 : i < ys.length := by rw [hl2]; simpa using hi
      have := hh i ys[i] vs[i] (by simp [hi2]) (by simp)
      refine this.one ?_
      exact List.all_eq_true.1 hc _ (List.getElem_mem hi2)
end
end Go.Proofs.YtkhljpbkebnnmaaDoor.Ev
