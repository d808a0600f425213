/- Rules of a walk over abstract states: addresses, loads, lengths, boxes, stores. Nothing here names a program. -/
import Derived.Test.YtokkpocccgdilaaEv2
import Derived.Deep.MidRow
import Derived.Laws.CopyRow
namespace Go.Proofs.Ytokkpocccgdilaa.Ev
set_option linter.unusedVariables false
set_option linter.unusedSimpArgs false
open Go.RowKit

def fieldOffB (P : Program) (s i : Nat) : Option Nat :=
  match P.underlying s with
  | some (.struct fs) => match fs[i]? with
    | some f => match P.info? f.type with
      | some inf => if inf.size = 0 then none else some f.offset
      | none => none
    | none => none
  | _ => none
class FieldAt (P : Program) (s i : Nat) (off : outParam Nat) : Prop where
  h : fieldOffB P s i = some off
def tyB (P : Program) (t : Nat) : Option (Bool × Nat) :=
  match P.underlying t, P.info? t with
  | some d, some i => some (d.isRow, i.size)
  | _, _ => none
class TyC (P : Program) (t : Nat) (ag : outParam Bool) (n : outParam Nat) : Prop where
  h : tyB P t = some (ag, n)
def slB (P : Program) (t : Nat) : Option (Nat × Nat × Nat × Nat) :=
  match P.underlying t with
  | some (.slice E) => match P.info? E with
    | some i => match i.zero with
      | some z => some (E, i.size, i.bytes, z.cells.size)
      | none => none
    | none => none
  | _ => none
class SlT (P : Program) (t : Nat) (E size bytes : outParam Nat) : Prop where
  h : slB P t = some (E, size, bytes, size)
  pos : 0 < size
def CV.cellB : CV → Bool
  | .v x => x.oneCell'
  | .lst _ _ => true
  | _ => false
class EncL {α : Type} (enc : α → List CV) (size : outParam Nat) : Prop where
  len : ∀ x, (enc x).length = size
  pos : 0 < size
  one : ∀ x, (enc x).all CV.cellB = true

section
variable {P : Program}
theorem FieldAt.out {s i off : Nat} (I : FieldAt P s i off) : ∃ fs f inf, P.underlying s = some (.struct fs) ∧ fs[i]? = some f ∧ P.info? f.type = some inf ∧ inf.size ≠ 0 ∧ f.offset = off := by
  have h := I.h
  unfold fieldOffB at h
  split at h
  · rename_i fs hu
    split at h
    · rename_i f hf
      split at h
      · rename_i inf hi
        split at h
        · cases h
        · rename_i hz; exact ⟨fs, f, inf, hu, hf, hi, hz, by simpa using h⟩
      · cases h
    · cases h
  · cases h
theorem TyC.out {t : Nat} {ag : Bool} {n : Nat} (I : TyC P t ag n) : ∃ d i, P.underlying t = some d ∧ d.isRow = ag ∧ P.info? t = some i ∧ i.size = n := by
  have h := I.h
  unfold tyB at h
  split at h
  · rename_i d i hu hi
    simp only [Option.some.injEq, Prod.mk.injEq] at h
    exact ⟨d, i, hu, h.1, hi, h.2⟩
  · cases h
theorem SlT.out {t E size bytes : Nat} (I : SlT P t E size bytes) : ∃ i z, P.underlying t = some (.slice E) ∧ P.info? E = some i ∧ i.zero = some z ∧ i.size = size ∧ i.bytes = bytes ∧ z.cells.size = size := by
  have h := I.h
  unfold slB at h
  split at h
  · rename_i e hu
    split at h
    · rename_i i hi
      split at h
      · rename_i z hz
        simp only [Option.some.injEq, Prod.mk.injEq] at h
        obtain ⟨rfl, h2, h3, h4⟩ := h
        exact ⟨i, z, hu, hi, hz, h2, h3, h4⟩
      · cases h
    · cases h
  · cases h

theorem run_fieldAt {s i off : Nat} (I : FieldAt P s i off) (w : World) (g o : Nat) : (Instr.fieldAt s (.pointer (some ⟨g, o, none⟩)) i).run P w = .ok (.pointer (some ⟨g, o + off, none⟩)) w := by
  obtain ⟨fs, f, inf, h1, h2, h3, h4, h5⟩ := I.out
  have : (Addr.add ⟨g, o, none⟩ off) = ⟨g, o + off, none⟩ := Kit.addr_add g o off
  simp [Instr.fieldAt, run_underlying h1, h2, Instr.sureAddr, fieldPlace, sizeOf, typeInfo, h3, h4, h5, this]
theorem run_load_s {t : Nat} {n : Nat} (I : TyC P t false n) (w : World) (p : Addr) (v : Value) (h : w.cell? p = some v) : (Instr.loadAt t (.pointer (some p))).run P w = .ok v w := by
  obtain ⟨d, i, h1, h2, h3, h4⟩ := I.out
  have hagg : (isAgg t).run P w = .ok false w := by
    unfold isAgg
    rw [Sem.run_bind, run_underlying h1 w]
    cases d <;> simp_all
  simp [Instr.loadAt, Instr.sureAddr, loadVar, hagg, h]
theorem run_load_a {t : Nat} {n : Nat} (I : TyC P t true n) (w : World) (g o : Nat) (cs : List Value) (hn : cs.length = n) (h : ∀ (j : Nat) (v : Value), cs[j]? = some v → w.cell? ⟨g, o + j, none⟩ = some v) : (Instr.loadAt t (.pointer (some ⟨g, o, none⟩))).run P w = .ok (.agg cs.toArray) w := by
  obtain ⟨d, i, h1, h2, h3, h4⟩ := I.out
  exact run_loadAt_mid w g o t cs d h h1 h2 (by rw [h3]; simp [h4, hn])
theorem ex_load_s {t : Nat} {n : Nat} (I : TyC P t false n) {w : World} {p : Addr} {v : Value} {ρ : Operand → Value} {x : Operand} {dst : Option Tmp} {ty : TypeId} {pos : String} {af : Array Edge} (hx : ρ x = .pointer (some p)) (h : w.cell? p = some v) : (execOp ρ ⟨dst, .load t x, ty, pos, af, none⟩).run P w = .ok (.value v) w := by
  simp only [execOp, hx]
  rw [Sem.run_bind, run_load_s I w p v h]; rfl
theorem ex_load_a {t : Nat} {n : Nat} (I : TyC P t true n) {w : World} {g o : Nat} {cs : List Value} {ρ : Operand → Value} {x : Operand} {dst : Option Tmp} {ty : TypeId} {pos : String} {af : Array Edge} (hx : ρ x = .pointer (some ⟨g, o, none⟩)) (hn : cs.length = n) (h : ∀ (j : Nat) (v : Value), cs[j]? = some v → w.cell? ⟨g, o + j, none⟩ = some v) : (execOp ρ ⟨dst, .load t x, ty, pos, af, none⟩).run P w = .ok (.value (.agg cs.toArray)) w := by
  simp only [execOp, hx]
  rw [Sem.run_bind, run_load_a I w g o cs hn h]; rfl
end

section
variable {P : Program} {ops : Array Oper} {Q : Exit → St → Prop} {X : List Oper → St → Prop} {rest : List Oper} {st : St} {d : Nat} {ty : TypeId} {pos : String} {af : Array Edge}

theorem ao_field_p [W : Walk P X] {x : Operand} {s i k b off : Nat} [I : FieldAt P s i k] (hx : st.ev x = some (.ptr b off)) (hd : Nat.blt d st.n = true) (h : X rest (st.put d (.ptr b (off + k)))) : X (⟨some d, .fieldAddr s x i, ty, pos, af, none⟩ :: rest) st := by
  refine ao_val rfl rfl hd (fun _ _ M a hs => ?_) h
  have hv := hs.ev (by simp [Op.operands, Call.operands]) hx
  generalize he : a.eval x = u at hv
  cases hv with
  | ptr hm =>
    refine ⟨_, ?_, .ptr hm⟩
    simp only [execOp, he]
    simp [run_fieldAt I]
theorem ao_field_e [W : Walk P X] {x : Operand} {s i k off : Nat} {xs : List CV} [I : FieldAt P s i k] (hx : st.ev x = some (.eptr xs off)) (hd : Nat.blt d st.n = true) (h : X rest (st.put d (.eptr xs (off + k)))) : X (⟨some d, .fieldAddr s x i, ty, pos, af, none⟩ :: rest) st := by
  refine ao_val rfl rfl hd (fun _ _ M a hs => ?_) h
  have hv := hs.ev (by simp [Op.operands, Call.operands]) hx
  generalize he : a.eval x = u at hv
  cases hv with
  | eptr cs hF hc hr =>
    rename_i blk o
    refine ⟨.pointer (some ⟨blk, o + (off + k), none⟩), ?_, .eptr cs hF hc hr⟩
    simp only [execOp, he]
    simp [run_fieldAt I, Nat.add_assoc]
theorem ao_field_v [W : Walk P X] {x : Operand} {s i k b n off : Nat} [I : FieldAt P s i k] {E size : Nat} {l : List CV} (hx : st.ev x = some (.vptr b n off)) (hH : st.H b = some (.vec E size l)) (hn : l.length = n * size) (hd : Nat.blt d st.n = true) (h : X rest (st.put d (.vptr b n (off + k)))) : X (⟨some d, .fieldAddr s x i, ty, pos, af, none⟩ :: rest) st := by
  refine ao_val rfl rfl hd (fun _ _ M a hs => ?_) h
  have hv := hs.ev (by simp [Op.operands, Call.operands]) hx
  generalize he : a.eval x = u at hv
  cases hv with
  | vptr hb ho hh =>
    obtain ⟨h1, h2⟩ := hh E size l (hs.H _ _ hH)
    obtain ⟨g, cap, h3, rfl⟩ := h2 hn
    refine ⟨.pointer (some ⟨g, off + k, none⟩), ?_, .vptr hb rfl (fun E' size' l' hl => ?_)⟩
    · simp only [execOp, he]
      simp [run_fieldAt I]
    · rw [hs.H _ _ hH] at hl
      simp only [Option.some.injEq, AB.vec.injEq] at hl
      obtain ⟨rfl, rfl, rfl⟩ := hl
      exact ⟨h1, fun _ => ⟨g, cap, h3, rfl⟩⟩

theorem ao_load_p [W : Walk P X] {x : Operand} {t b off n : Nat} {t' : TypeId} {l : List AV} {y : AV} [I : TyC P t false n] (hx : st.ev x = some (.ptr b off)) (hH : st.H b = some (.cells t' l)) (hy : l[off]? = some y) (hd : Nat.blt d st.n = true) (h : X rest (st.put d y)) : X (⟨some d, .load t x, ty, pos, af, none⟩ :: rest) st := by
  refine ao_val rfl rfl hd (fun _ _ M a hs => ?_) h
  have hv := hs.ev (by simp [Op.operands, Call.operands]) hx
  generalize he : a.eval x = u at hv
  cases hv with
  | ptr hm =>
    rename_i g
    obtain ⟨g', arr, e1, _, _, e4, e5, e6⟩ := hs.sim.heap.cells b t' l (hs.H _ _ hH)
    rw [hm] at e1; cases e1
    have hlt : off < arr.size := by rw [← e5]; exact (List.getElem?_eq_some_iff.1 hy).1
    exact ⟨arr[off], ex_load_s I he (by simp [World.cell?, e4, hlt]), e6 off y _ hy (by simp [hlt])⟩
theorem ao_load_pa [W : Walk P X] {x : Operand} {t b off n : Nat} {t' : TypeId} {l : List AV} [I : TyC P t true n] (ys : List AV) (hx : st.ev x = some (.ptr b off)) (hH : st.H b = some (.cells t' l)) (hy : (l.drop off).take n = ys) (hn : ys.length = n) (hd : Nat.blt d st.n = true) (h : X rest (st.put d (.agg ys))) : X (⟨some d, .load t x, ty, pos, af, none⟩ :: rest) st := by
  refine ao_val rfl rfl hd (fun _ _ M a hs => ?_) h
  have hv := hs.ev (by simp [Op.operands, Call.operands]) hx
  generalize he : a.eval x = u at hv
  cases hv with
  | ptr hm =>
    rename_i g
    obtain ⟨g', arr, e1, _, _, e4, e5, e6⟩ := hs.sim.heap.cells b t' l (hs.H _ _ hH)
    rw [hm] at e1; cases e1
    have hln : ((arr.toList.drop off).take n).length = n := by
      have : ((l.drop off).take n).length = n := by rw [hy]; exact hn
      simp only [List.length_take, List.length_drop, Array.length_toList] at this ⊢
      rw [← e5]; exact this
    refine ⟨.agg ((arr.toList.drop off).take n).toArray, ?_, .agg (by rw [hn]; simpa using hln.symm) ?_⟩
    · refine ex_load_a I he hln (fun j v hv => ?_)
      have hj : j < n := by have := (List.getElem?_eq_some_iff.1 hv).1; omega
      rw [List.getElem?_take_of_lt hj, List.getElem?_drop, Array.getElem?_toList] at hv
      simp [World.cell?, e4, hv]
    · intro i y u hy' hu
      subst hy
      have hi : i < n := by have := (List.getElem?_eq_some_iff.1 hy').1; omega
      rw [List.getElem?_take_of_lt hi, List.getElem?_drop] at hy'
      rw [List.getElem?_toArray, List.getElem?_take_of_lt hi, List.getElem?_drop, Array.getElem?_toList] at hu
      exact e6 _ y u hy' hu
theorem ao_load_e [W : Walk P X] {x : Operand} {t off n : Nat} {xs : List CV} {y : CV} {ys : List CV} [I : TyC P t false n] (hx : st.ev x = some (.eptr xs off)) (hy : xs.drop off = y :: ys) (hd : Nat.blt d st.n = true) (h : X rest (st.put d (.c y))) : X (⟨some d, .load t x, ty, pos, af, none⟩ :: rest) st := by
  refine ao_val rfl rfl hd (fun _ _ M a hs => ?_) h
  have hv := hs.ev (by simp [Op.operands, Call.operands]) hx
  generalize he : a.eval x = u at hv
  have hg : xs[off]? = some y := by
    have : (xs.drop off)[0]? = some y := by rw [hy]; rfl
    rwa [List.getElem?_drop] at this
  cases hv with
  | eptr cs hF hc hr =>
    exact ⟨cs off, ex_load_s I he (hc off y hg), .c (hr off y hg)⟩
theorem ao_load_ea [W : Walk P X] {x : Operand} {t off n : Nat} {xs : List CV} (zs : List CV) {ys : List CV} [I : TyC P t true n] (hx : st.ev x = some (.eptr xs off)) (hy : xs.drop off = zs ++ ys) (hn : zs.length = n) (hd : Nat.blt d st.n = true) (h : X rest (st.put d (.agg (zs.map .c)))) : X (⟨some d, .load t x, ty, pos, af, none⟩ :: rest) st := by
  refine ao_val rfl rfl hd (fun _ _ M a hs => ?_) h
  have hv := hs.ev (by simp [Op.operands, Call.operands]) hx
  generalize he : a.eval x = u at hv
  have hg : ∀ i z, zs[i]? = some z → xs[off + i]? = some z := fun i z hz => by
    have hi := (List.getElem?_eq_some_iff.1 hz).1
    rw [← List.getElem?_drop, hy, List.getElem?_append_left hi]; exact hz
  cases hv with
  | eptr cs hF hc hr =>
    rename_i blk o
    have hln : ((List.range n).map fun i => cs (off + i)).length = n := by simp
    refine ⟨.agg ((List.range n).map fun i => cs (off + i)).toArray, ?_, .agg (by simp [hn]) ?_⟩
    · refine ex_load_a I he hln (fun j v hv => ?_)
      have hj : j < n := by have := (List.getElem?_eq_some_iff.1 hv).1; omega
      have e : cs (off + j) = v := by simpa [hj] using hv
      rw [← e, Nat.add_assoc]
      exact hc (off + j) (zs[j]'(by omega)) (hg j _ (by simp [show j < zs.length by omega]))
    · intro i y u hy' hu
      obtain ⟨z, h1, rfl⟩ : ∃ z, zs[i]? = some z ∧ AV.c z = y := by simpa using hy'
      have hi := (List.getElem?_eq_some_iff.1 h1).1
      have e : cs (off + i) = u := by
        have : i < n := by omega
        simpa [this] using hu
      rw [← e]
      exact .c (hr _ z (hg i z h1))
theorem ao_load_v [W : Walk P X] {x : Operand} {t b n off m E size : Nat} {l : List CV} {y : CV} {ys : List CV} [I : TyC P t false m] (hx : st.ev x = some (.vptr b n off)) (hH : st.H b = some (.vec E size l)) (hn : l.length = n * size) (hy : l.drop off = y :: ys) (hd : Nat.blt d st.n = true) (h : X rest (st.put d (.c y))) : X (⟨some d, .load t x, ty, pos, af, none⟩ :: rest) st := by
  refine ao_val rfl rfl hd (fun _ _ M a hs => ?_) h
  have hv := hs.ev (by simp [Op.operands, Call.operands]) hx
  generalize he : a.eval x = u at hv
  have hg : l[off]? = some y := by
    have : (l.drop off)[0]? = some y := by rw [hy]; rfl
    rwa [List.getElem?_drop] at this
  cases hv with
  | vptr hb ho hh =>
    obtain ⟨h1, h2⟩ := hh E size l (hs.H _ _ hH)
    obtain ⟨g, cap, h3, rfl⟩ := h2 hn
    obtain ⟨v, n', cs, e1, e2, e3, e4, e5, e6⟩ := hs.sim.heap.vec b E size l (hs.H _ _ hH)
    rw [h3] at e1; cases e1
    have hlt : off < cs.length := by rw [e4.1, ← e2]; exact (List.getElem?_eq_some_iff.1 hg).1
    refine ⟨cs[off], ?_, .c (e5 off y _ hg (by simp [hlt]))⟩
    have hc : M.w.cell? ⟨g, off, none⟩ = some cs[off] := by
      have := World.ownsRow.cells e4 (g := g) rfl off cs[off] (by simp [hlt])
      rwa [Kit.addr_add, Nat.zero_add] at this
    exact ex_load_s I he hc
theorem ao_load_va [W : Walk P X] {x : Operand} {t b n off m E size : Nat} {l : List CV} (zs : List CV) {ys : List CV} [I : TyC P t true m] (hx : st.ev x = some (.vptr b n off)) (hH : st.H b = some (.vec E size l)) (hn : l.length = n * size) (hy : l.drop off = zs ++ ys) (hm : zs.length = m) (hd : Nat.blt d st.n = true) (h : X rest (st.put d (.agg (zs.map .c)))) : X (⟨some d, .load t x, ty, pos, af, none⟩ :: rest) st := by
  refine ao_val rfl rfl hd (fun _ _ M a hs => ?_) h
  have hv := hs.ev (by simp [Op.operands, Call.operands]) hx
  generalize he : a.eval x = u at hv
  have hg : ∀ i z, zs[i]? = some z → l[off + i]? = some z := fun i z hz => by
    have hi := (List.getElem?_eq_some_iff.1 hz).1
    rw [← List.getElem?_drop, hy, List.getElem?_append_left hi]; exact hz
  cases hv with
  | vptr hb ho hh =>
    obtain ⟨h1, h2⟩ := hh E size l (hs.H _ _ hH)
    obtain ⟨g, cap, h3, rfl⟩ := h2 hn
    obtain ⟨v, n', cs, e1, e2, e3, e4, e5, e6⟩ := hs.sim.heap.vec b E size l (hs.H _ _ hH)
    rw [h3] at e1; cases e1
    have hlen : cs.length = l.length := by rw [e4.1, ← e2]
    have hln : ((cs.drop off).take m).length = m := by
      have := congrArg List.length hy
      simp only [List.length_drop, List.length_append] at this
      simp only [List.length_take, List.length_drop]; omega
    refine ⟨.agg ((cs.drop off).take m).toArray, ?_, .agg (by simpa [hm] using hln.symm) ?_⟩
    · refine ex_load_a I he hln (fun j v hv => ?_)
      have hj : j < m := by have := (List.getElem?_eq_some_iff.1 hv).1; omega
      rw [List.getElem?_take_of_lt hj, List.getElem?_drop] at hv
      have := World.ownsRow.cells e4 (g := g) rfl (off + j) v hv
      rwa [Kit.addr_add, Nat.zero_add] at this
    · intro i y u hy' hu
      obtain ⟨z, h1', rfl⟩ : ∃ z, zs[i]? = some z ∧ AV.c z = y := by simpa using hy'
      have hi : i < m := by have := (List.getElem?_eq_some_iff.1 h1').1; omega
      rw [List.getElem?_toArray, List.getElem?_take_of_lt hi, List.getElem?_drop] at hu
      exact .c (e5 _ z u (hg i z h1') hu)
end
end Go.Proofs.Ytokkpocccgdilaa.Ev
