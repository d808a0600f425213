/- Rules of a walk over abstract states: structs, new lists, appends. Nothing here names a program. -/
import Derived.Test.YtokkpocccgdilaaEv7
namespace Go.Proofs.Ytokkpocccgdilaa.Ev
set_option linter.unusedVariables false
set_option linter.unusedSimpArgs false
open Go.RowKit

def fieldVB (P : Program) (s i : Nat) : Option (Nat × Bool × Nat) :=
  match P.underlying s with
  | some (.struct fs) => match fs[i]? with
    | some f => match tyB P f.type with
      | some (ag, n) => some (f.offset, ag, n)
      | none => none
    | none => none
  | _ => none
class FieldV (P : Program) (s i : Nat) (off : outParam Nat) (ag : outParam Bool) (n : outParam Nat) : Prop where
  h : fieldVB P s i = some (off, ag, n)
def strB (P : Program) (t : Nat) : Option (List (Nat × Nat) × List Value) :=
  match P.info? t, P.underlying t with
  | some it, some (.struct fields) => match it.zero, fields.toList.mapM (fun f => (P.info? f.type).map fun i => (f.offset, i.size)) with
    | some z, some places => some (places, z.cells.toList)
    | _, _ => none
  | _, _ => none
class StrT (P : Program) (t : Nat) (pl : outParam (List (Nat × Nat))) (zs : outParam (List Value)) : Prop where
  h : strB P t = some (pl, zs)

def AV.cellsA : AV → List AV
  | .agg xs => xs
  | y => [y]
def AV.okP : AV → Bool
  | .agg _ => true
  | y => y.cellB
/-- The parts of a struct are laid over its zero. -/
def fillA (pl : List (Nat × Nat)) (cells : List AV) : List (Nat × AV) → Option (List AV)
  | [] => some cells
  | (i, y) :: rest => match pl[i]? with
    | none => none
    | some (off, size) => bif Nat.beq y.cellsA.length size && Nat.ble (off + size) cells.length && y.okP then fillA pl (splice cells y.cellsA off) rest else none

theorem cellsA_ra {M : Wd} {y : AV} {u : Value} (h : RA M y u) (hc : y.okP = true) : y.cellsA.length = u.cells.size ∧ ∀ (i : Nat) (z : AV) (v : Value), y.cellsA[i]? = some z → u.cells[i]? = some v → RA M z v := by
  by_cases hy : ∃ xs, y = .agg xs
  · obtain ⟨xs, rfl⟩ := hy
    cases h with
    | agg hl hh => exact ⟨hl, hh⟩
  · have h1 : y.cellB = true := by
      cases y <;> first | exact hc | exact absurd ⟨_, rfl⟩ hy
    have h2 : y.cellsA = [y] := by
      cases y <;> first | rfl | exact absurd ⟨_, rfl⟩ hy
    rw [h2, cells_one (h.one h1)]
    refine ⟨rfl, fun i z v hz hv => ?_⟩
    cases i with
    | zero => simp at hz hv; subst hz; subst hv; exact h
    | succ i => simp at hz

theorem fold_set : ∀ (vs : List Value) (k off : Nat) (cells : Array Value), off + k + vs.length ≤ cells.size →
    ((vs.zipIdx k).foldl (fun (cs : Array Value) (x : Value × Nat) => cs.setIfInBounds (off + x.2) x.1) cells).toList = cells.toList.take (off + k) ++ vs ++ cells.toList.drop (off + k + vs.length)
  | [], k, off, cells, _ => by simp
  | v :: vs, k, off, cells, h => by
    simp only [List.zipIdx_cons, List.foldl_cons]
    rw [fold_set vs (k + 1) off _ (by simp at h ⊢; omega)]
    simp only [List.length_cons] at h ⊢
    simp only [Array.toList_setIfInBounds]
    have hlt : off + k < cells.toList.length := by simp; omega
    rw [show off + (k + 1) = (off + k) + 1 by omega, List.take_set, List.drop_set_of_lt (by omega), List.take_succ_eq_append_getElem hlt, List.set_append_right _ _ (by simp; omega)]
    simp only [List.length_take, Nat.min_eq_left (Nat.le_of_lt hlt), Nat.sub_self, List.set_cons_zero, List.append_assoc, List.singleton_append]
    congr 3
    omega

theorem fill_sound {M : Wd} (pl : List (Nat × Nat)) : ∀ (parts : List (Nat × AV)) (cells : List AV) (arr : Array Value) (vals : List (Nat × Value)) (out : List AV), fillA pl cells parts = some out → cells.length = arr.size → (∀ (i : Nat) (x : AV) (u : Value), cells[i]? = some x → arr[i]? = some u → RA M x u) →
    parts.length = vals.length → (∀ (i : Nat) (p : Nat × AV) (q : Nat × Value), parts[i]? = some p → vals[i]? = some q → p.1 = q.1 ∧ RA M p.2 q.2) →
    ∃ res, Instr.fill (pl.toArray[·]?) arr vals = some res ∧ out.length = res.size ∧ ∀ (i : Nat) (x : AV) (u : Value), out[i]? = some x → res[i]? = some u → RA M x u
  | [], cells, arr, vals, out, h, hl, hr, hp, _ => by
    simp only [fillA, Option.some.injEq] at h; subst h
    have : vals = [] := List.eq_nil_of_length_eq_zero (by simpa using hp.symm)
    subst this
    exact ⟨arr, rfl, hl, hr⟩
  | (i, y) :: parts, cells, arr, vals, out, h, hl, hr, hp, hpr => by
    match vals, hp with
    | (j, v) :: vals, hp =>
      obtain ⟨h1, h2⟩ := hpr 0 (i, y) (j, v) rfl rfl
      dsimp only at h1 h2; subst h1
      simp only [fillA] at h
      cases hpl : pl[i]? with
      | none => rw [hpl] at h; cases h
      | some os =>
        obtain ⟨off, size⟩ := os
        rw [hpl] at h
        dsimp only at h
        cases hb : (Nat.beq y.cellsA.length size && Nat.ble (off + size) cells.length && y.okP) with
        | false => rw [hb] at h; cases h
        | true =>
          rw [hb] at h
          simp only [cond_true] at h
          simp only [Bool.and_eq_true] at hb
          obtain ⟨⟨b1, b2⟩, b3⟩ := hb
          have b1 := beq_true b1
          have b2 := Nat.le_of_ble_eq_true b2
          obtain ⟨c1, c2⟩ := cellsA_ra h2 b3
          have hvs : v.cells.toList.length = size := by simp; omega
          have hfs := fold_set v.cells.toList 0 off arr (by simp; omega)
          have hfold : (v.cells.zipIdx.foldl (fun (cs : Array Value) (x : Value × Nat) => cs.setIfInBounds (off + x.2) x.1) arr).toList = arr.toList.take off ++ v.cells.toList ++ arr.toList.drop (off + size) := by
            rw [← Array.foldl_toList, Array.toList_zipIdx, hfs, hvs, Nat.add_zero]
          generalize hA : v.cells.zipIdx.foldl (fun (cs : Array Value) (x : Value × Nat) => cs.setIfInBounds (off + x.2) x.1) arr = A at hfold
          have hsz : A.size = arr.size := by
            have := congrArg List.length hfold
            simp only [Array.length_toList, List.length_append, List.length_take, List.length_drop] at this
            simp only [Array.length_toList] at hvs
            omega
          obtain ⟨res, e1, e2, e3⟩ := fill_sound pl parts (splice cells y.cellsA off) A vals out h (by rw [hsz, splice]; simp; omega) (fun k x u hx hu => by
            rw [splice, aget_splice cells y.cellsA off y.cellsA.length k rfl (by omega)] at hx
            rw [← Array.getElem?_toList, hfold, aget_splice arr.toList v.cells.toList off size k hvs (by simp; omega)] at hu
            rw [b1] at hx
            split at hx
            · rename_i g1; rw [if_pos g1] at hu; exact hr k x u hx (by simpa using hu)
            · rename_i g1; rw [if_neg g1] at hu
              split at hx
              · rename_i g2; rw [if_pos g2] at hu; exact c2 _ x u hx (by simpa using hu)
              · rename_i g2; rw [if_neg g2] at hu; exact hr k x u hx (by simpa using hu)) (by simpa using hp) (fun k p q hp' hq' => hpr (k + 1) p q (by simpa using hp') (by simpa using hq'))
          refine ⟨res, ?_, e2, e3⟩
          simp only [Instr.fill]
          rw [List.getElem?_toArray, hpl]
          dsimp only
          rw [if_neg (by simp; omega), hA]
          exact e1

def evp (st : St) : List (Nat × Operand) → Option (List (Nat × AV))
  | [] => some []
  | (i, x) :: l => match st.ev x, evp st l with | some y, some ys => some ((i, y) :: ys) | _, _ => none
theorem evp_get {st : St} : ∀ {l : List (Nat × Operand)} {ys : List (Nat × AV)}, evp st l = some ys → ys.length = l.length ∧ ∀ (k : Nat) (p : Nat × AV) (q : Nat × Operand), ys[k]? = some p → l[k]? = some q → p.1 = q.1 ∧ st.ev q.2 = some p.2
  | [], ys, h => by simp only [evp, Option.some.injEq] at h; subst h; exact ⟨rfl, fun k p q h => by simp at h⟩
  | (i, x) :: l, ys, h => by
    simp only [evp] at h
    split at h
    · rename_i y ys' h1 h2
      simp only [Option.some.injEq] at h; subst h
      obtain ⟨e1, e2⟩ := evp_get h2
      refine ⟨by simp [e1], fun k p q h3 h4 => ?_⟩
      cases k with
      | zero => simp at h3 h4; subst h3; subst h4; exact ⟨rfl, h1⟩
      | succ k => exact e2 k p q (by simpa using h3) (by simpa using h4)
    · cases h

section
variable {P : Program} {ops : Array Oper} {Q : Exit → St → Prop} {X : List Oper → St → Prop} {rest : List Oper} {st : St} {d : Nat} {ty : TypeId} {pos : String} {af : Array Edge}

theorem ao_build [W : Walk P X] {t : TypeId} {parts : List (Nat × Operand)} {pl : List (Nat × Nat)} {zs : List Value} {ps : List (Nat × AV)} {out : List AV} [I : StrT P t pl zs] (hp : evp st parts = some ps) (hf : fillA pl (zs.map fun z => .c (.v z)) ps = some out) (hd : Nat.blt d st.n = true) (h : X rest (st.put d (.agg out))) : X (⟨some d, .build t parts.toArray, ty, pos, af, none⟩ :: rest) st := by
  refine ao_val rfl rfl hd (fun _ _ M a hs => ?_) h
  have hI := I.h
  unfold strB at hI
  split at hI
  · rename_i it fields hi hu
    split at hI
    · rename_i z places hz hpl
      simp only [Option.some.injEq, Prod.mk.injEq] at hI
      obtain ⟨rfl, rfl⟩ := hI
      obtain ⟨e1, e2⟩ := evp_get hp
      obtain ⟨res, f1, f2, f3⟩ := fill_sound (M := M) places ps _ z.cells (parts.map fun q => (q.1, a.eval q.2)) out hf (by simp) (fun i x u hx hu' => by
        simp only [List.getElem?_map, Array.getElem?_toList, hu', Option.map_some, Option.some.injEq] at hx
        subst hx; exact .c (.v _)) (by simp [e1]) (fun i p q hp' hq' => by
          obtain ⟨q0, h1, rfl⟩ : ∃ q0, parts[i]? = some q0 ∧ (q0.1, a.eval q0.2) = q := by simpa using hq'
          obtain ⟨h2, h3⟩ := e2 i p q0 hp' h1
          exact ⟨h2, hs.ev (by simp only [Op.operands]; simp; exact ⟨q0.1, List.mem_of_getElem? h1⟩) h3⟩)
      refine ⟨.agg res, ?_, .agg f2 f3⟩
      simp only [execOp]
      rw [Sem.run_bind, run_build M.w t _ res (by simp only [Program.built, hi, hu, hz, hpl, List.map_toArray]; exact f1)]; rfl
    · cases hI
  · cases hI

theorem ao_fieldv_s [W : Walk P X] {x : Operand} {s i off n : Nat} {xs : List AV} {y : AV} [I : FieldV P s i off false n] (hx : st.ev x = some (.agg xs)) (hy : xs[off]? = some y) (hd : Nat.blt d st.n = true) (h : X rest (st.put d y)) : X (⟨some d, .field s x i, ty, pos, af, none⟩ :: rest) st := by
  refine ao_val rfl rfl hd (fun _ _ M a hs => ?_) h
  have hv := hs.ev (by simp [Op.operands, Call.operands]) hx
  have hI := I.h
  unfold fieldVB at hI
  split at hI
  · rename_i fs hu
    split at hI
    · rename_i f hf
      split at hI
      · rename_i ag n' ht
        simp only [Option.some.injEq, Prod.mk.injEq] at hI
        obtain ⟨rfl, rfl, rfl⟩ := hI
        obtain ⟨dd, ii, g1, g2, g3, g4⟩ := TyC.out (P := P) ⟨ht⟩
        generalize he : a.eval x = u at hv
        cases hv with
        | agg hl hh =>
          rename_i vs
          have hlt : f.offset < vs.size := by rw [← hl]; exact (List.getElem?_eq_some_iff.1 hy).1
          refine ⟨vs[f.offset], ?_, hh _ y _ hy (by simp [hlt])⟩
          have hagg : (isAgg f.type).run P M.w = .ok false M.w := by
            unfold isAgg
            rw [Sem.run_bind, run_underlying g1 M.w]
            cases dd <;> simp_all
          simp only [execOp, he]
          simp [Instr.field, run_underlying hu, hf, asAgg, part, hagg, hlt]
      · cases hI
    · cases hI
  · cases hI
theorem ao_fieldv_a [W : Walk P X] {x : Operand} {s i off n : Nat} {xs : List AV} [I : FieldV P s i off true n] (hx : st.ev x = some (.agg xs)) (hle : Nat.ble (off + n) xs.length = true) (hd : Nat.blt d st.n = true) (h : X rest (st.put d (.agg ((xs.drop off).take n)))) : X (⟨some d, .field s x i, ty, pos, af, none⟩ :: rest) st := by
  refine ao_val rfl rfl hd (fun _ _ M a hs => ?_) h
  have hv := hs.ev (by simp [Op.operands, Call.operands]) hx
  have hle := Nat.le_of_ble_eq_true hle
  have hI := I.h
  unfold fieldVB at hI
  split at hI
  · rename_i fs hu
    split at hI
    · rename_i f hf
      split at hI
      · rename_i ag n' ht
        simp only [Option.some.injEq, Prod.mk.injEq] at hI
        obtain ⟨rfl, rfl, rfl⟩ := hI
        obtain ⟨dd, ii, g1, g2, g3, g4⟩ := TyC.out (P := P) ⟨ht⟩
        generalize he : a.eval x = u at hv
        cases hv with
        | agg hl hh =>
          rename_i vs
          refine ⟨.agg (vs.extract f.offset (f.offset + n')), ?_, .agg ?_ (fun k y u hy hu' => ?_)⟩
          · have hagg : (isAgg f.type).run P M.w = .ok true M.w := by
              unfold isAgg
              rw [Sem.run_bind, run_underlying g1 M.w]
              cases dd <;> simp_all
            simp only [execOp, he]
            simp [Instr.field, run_underlying hu, hf, asAgg, part, hagg, sizeOf, typeInfo, g3, g4]
          · simp; omega
          · have hk : k < n' := by have := (List.getElem?_eq_some_iff.1 hy).1; simp at this; omega
            rw [List.getElem?_take_of_lt hk, List.getElem?_drop] at hy
            refine hh _ y u hy ?_
            rw [Array.getElem?_extract] at hu'
            split at hu'
            · exact hu'
            · cases hu'
      · cases hI
    · cases hI
  · cases hI
end
end Go.Proofs.Ytokkpocccgdilaa.Ev
