/- Rules of a walk over abstract states: list literals, make, stores into lists, lists that stand from now on, calls. Nothing here names a program. -/
import Derived.Test.YtokkpocccgdilaaEv9
namespace Go.Proofs.Ytokkpocccgdilaa.Ev
set_option linter.unusedVariables false
set_option linter.unusedSimpArgs false
open Go.RowKit

theorem flat_one {α : Type} {enc : α → List CV} {size : Nat} (J : EncL enc size) (l : List α) : (l.flatMap enc).all CV.cellB = true := by
  rw [List.all_flatMap, List.all_eq_true]; exact fun x _ => J.one x

section
variable {P : Program} {ops : Array Oper} {Q : Exit → St → Prop} {rest : List Oper} {st : St} {d : Nat} {ty : TypeId} {pos : String} {af : Array Edge}

/-- append(v, x): one element, onto a list of the call's own. -/
theorem ao_push {α : Type} {enc : α → List CV} {s x : Operand} {t E E2 size bytes b b2 n : Nat} [I : SlT P t E size bytes] {l : List α} {ys : List CV} (x0 : α) (hs0 : st.ev s = some (.vec b n)) (hH : st.H b = some (.vec E size (l.flatMap enc))) (J : EncL enc size) (hn : l.length = n) (hx : st.ev x = some (.vec b2 1)) (hH2 : st.H b2 = some (.vec E2 size ys)) (hy : ys = enc x0) (hb1 : n < 1000000000000) (hb2 : (n + 1) * bytes ≤ 140737488355328) (hd : Nat.blt d st.n = true)
    (h : AOps P ops Q rest ((st.set b (.vec E size ((l ++ [x0]).flatMap enc))).put d (.vec b (n + 1)))) : AOps P ops Q (⟨some d, .call ⟨.builtin .append, #[s, x], #[t, t]⟩, ty, pos, af, none⟩ :: rest) st := by
  subst hy
  have e : (l ++ [x0]).flatMap enc = l.flatMap enc ++ enc x0 := by simp
  rw [e] at h
  have hb1 : n + 1 ≤ maxLen := by unfold maxLen; omega
  exact ao_append hs0 hH (by rw [flat_len J.len, hn]) (src_vec hx hH2 (by rw [J.len]; omega) (J.one x0)) hb1 hb2 hd h
theorem ao_push_nil {α : Type} {enc : α → List CV} {s x : Operand} {t E E2 size bytes b2 : Nat} [I : SlT P t E size bytes] {ys : List CV} (x0 : α) (J : EncL enc size) (hs0 : st.ev s = some (.c (.v (.slice none 0 0)))) (hx : st.ev x = some (.vec b2 1)) (hH2 : st.H b2 = some (.vec E2 size ys)) (hy : ys = enc x0) (hb2 : bytes ≤ 140737488355328) (hd : Nat.blt d st.n = true)
    (h : AOps P ops Q rest ((st.new (.vec E size ([x0].flatMap enc))).put d (.vec st.nx 1))) : AOps P ops Q (⟨some d, .call ⟨.builtin .append, #[s, x], #[t, t]⟩, ty, pos, af, none⟩ :: rest) st := by
  subst hy
  have e : [x0].flatMap enc = enc x0 := by simp
  rw [e] at h
  exact ao_append_nil hs0 (src_vec hx hH2 (by rw [J.len]; omega) (J.one x0)) (by unfold maxLen; omega) (by omega) hd h
/-- append(v, l...) of a list that stands. -/
theorem ao_appendl {α : Type} {enc : α → List CV} {s x : Operand} {t E size bytes b n : Nat} [I : SlT P t E size bytes] {l l2 : List α} (hs0 : st.ev s = some (.vec b n)) (hH : st.H b = some (.vec E size (l.flatMap enc))) (J : EncL enc size) (hn : l.length = n) (hx : st.ev x = some (.c (.lst size (l2.flatMap enc)))) (hb1 : n + l2.length < 1000000000000) (hb2 : (n + l2.length) * bytes ≤ 140737488355328) (hd : Nat.blt d st.n = true)
    (h : AOps P ops Q rest ((st.set b (.vec E size ((l ++ l2).flatMap enc))).put d (.vec b (n + l2.length)))) : AOps P ops Q (⟨some d, .call ⟨.builtin .append, #[s, x], #[t, t]⟩, ty, pos, af, none⟩ :: rest) st := by
  have e : (l ++ l2).flatMap enc = l.flatMap enc ++ l2.flatMap enc := by simp
  rw [e] at h
  exact ao_append hs0 hH (by rw [flat_len J.len, hn]) (src_lst hx J.pos (flat_len J.len l2) (flat_one J l2)) (by unfold maxLen; omega) hb2 hd h
theorem ao_appendl_nil {α : Type} {enc : α → List CV} {s x : Operand} {t E size bytes : Nat} [I : SlT P t E size bytes] {l2 : List α} (hs0 : st.ev s = some (.c (.v (.slice none 0 0)))) (hx : st.ev x = some (.c (.lst size (l2.flatMap enc)))) (J : EncL enc size) (hb1 : l2.length < 1000000000000) (hb2 : l2.length * bytes ≤ 140737488355328) (hd : Nat.blt d st.n = true)
    (h : AOps P ops Q rest ((st.new (.vec E size (l2.flatMap enc))).put d (.vec st.nx l2.length))) : AOps P ops Q (⟨some d, .call ⟨.builtin .append, #[s, x], #[t, t]⟩, ty, pos, af, none⟩ :: rest) st :=
  ao_append_nil hs0 (src_lst hx J.pos (flat_len J.len l2) (flat_one J l2)) (by unfold maxLen; omega) hb2 hd h

/-- A list literal: its elements in order. -/
def lits : List AV → Option (List CV)
  | [] => some []
  | y :: l => match cvL y, lits l with | some zs, some r => some (zs ++ r) | _, _ => none
def litB (size : Nat) : List AV → Bool
  | [] => true
  | y :: l => (match cvL y with | some zs => Nat.beq zs.length size | none => false) && litB size l
theorem lits_get {M : Wd} {size : Nat} (hpos : 0 < size) : ∀ {ys : List AV} {zs : List CV} {vs : List Value}, lits ys = some zs → litB size ys = true → ys.length = vs.length → (∀ (i : Nat) (y : AV) (v : Value), ys[i]? = some y → vs[i]? = some v → RA M y v) →
    zs.length = vs.length * size ∧ (vs.flatMap fun v => v.cells.toList).length = vs.length * size ∧ (∀ v ∈ vs, v.cells.size = size) ∧ ∀ (i : Nat) (z : CV) (u : Value), zs[i]? = some z → (vs.flatMap fun v => v.cells.toList)[i]? = some u → RC M.F M.w z u
  | [], zs, vs, h, _, hl, _ => by
    simp only [lits, Option.some.injEq] at h; subst h
    have : vs = [] := List.eq_nil_of_length_eq_zero (by simpa using hl.symm)
    subst this
    exact ⟨by simp, by simp, by simp, fun i z u h => by simp at h⟩
  | y :: ys, zs, vs, h, hb, hl, hr => by
    match vs, hl with
    | v :: vs, hl =>
      simp only [lits] at h
      simp only [litB, Bool.and_eq_true] at hb
      obtain ⟨b1, b2⟩ := hb
      cases hc : cvL y with
      | none => rw [hc] at h; cases h
      | some ws =>
        rw [hc] at h b1
        dsimp only at b1
        have b1 := beq_true b1
        cases hr2 : lits ys with
        | none => rw [hr2] at h; cases h
        | some r =>
          rw [hr2] at h
          simp only [Option.some.injEq] at h; subst h
          obtain ⟨e1, e2, e3⟩ := cvL_ra hc (hr 0 y v rfl rfl)
          obtain ⟨f1, f2, f3, f4⟩ := lits_get hpos hr2 b2 (by simpa using hl) (fun i y' v' h1 h2 => hr (i + 1) y' v' (by simpa using h1) (by simpa using h2))
          have hvl : v.cells.toList.length = size := by simp; omega
          refine ⟨by rw [List.length_append, f1, List.length_cons, Nat.add_mul]; omega, by rw [List.flatMap_cons, List.length_append, f2, hvl, List.length_cons, Nat.add_mul]; omega, fun u hu => ?_, fun i z u hz hu => ?_⟩
          · rcases List.mem_cons.1 hu with rfl | hu
            · simpa using hvl
            · exact f3 u hu
          · rw [List.flatMap_cons] at hu
            rcases Nat.lt_or_ge i size with hi | hi
            · rw [List.getElem?_append_left (by omega)] at hz
              rw [List.getElem?_append_left (by omega)] at hu
              exact e3 i z u hz (by simpa using hu)
            · rw [List.getElem?_append_right (by omega), b1] at hz
              rw [List.getElem?_append_right (by omega), hvl] at hu
              exact f4 _ z u hz hu

theorem ao_lit {t E size bytes len : Nat} [I : SlT P t E size bytes] {parts : List (Nat × Operand)} {ps : List (Nat × AV)} {zs : List CV} (hp : evp st parts = some ps) (hi : ps.map (·.1) = List.range len) (hz : lits (ps.map (·.2)) = some zs) (hb : litB size (ps.map (·.2)) = true) (hl : Nat.ble 1 len = true) (hs2 : Nat.ble (len * size) 100000 = true) (hd : Nat.blt d st.n = true)
    (h : AOps P ops Q rest ((st.new (.vec E size zs)).put d (.vec st.nx len))) : AOps P ops Q (⟨some d, .buildSlice t len parts.toArray, ty, pos, af, none⟩ :: rest) st := by
  refine ao_new rfl rfl hd (fun base w0 M a hs => ?_) h
  obtain ⟨i, z, f1, f2, f3, f4, f5, f6⟩ := I.out
  obtain ⟨e1, e2⟩ := evp_get hp
  have hl := Nat.le_of_ble_eq_true hl
  have hs2 := Nat.le_of_ble_eq_true hs2
  have hplen : ps.length = len := by
    have := congrArg List.length hi
    simpa using this
  let vs : List Value := parts.map fun q => a.eval q.2
  have hvl : vs.length = len := by show (parts.map _).length = _; simp; omega
  have hra : ∀ (k : Nat) (y : AV) (v : Value), (ps.map (·.2))[k]? = some y → vs[k]? = some v → RA M y v := fun k y v hy hv => by
    obtain ⟨p, g1, rfl⟩ : ∃ p, ps[k]? = some p ∧ p.2 = y := by simpa using hy
    obtain ⟨q, g2, rfl⟩ : ∃ q, parts[k]? = some q ∧ a.eval q.2 = v := by simpa [vs] using hv
    exact hs.ev (e2 k p q g1 g2).2
  obtain ⟨c1, c2, c3, c4⟩ := lits_get I.pos hz hb (by simp; omega) hra
  have hparts : (parts.map fun q => (q.1, a.eval q.2)) = (vs.zipIdx 0).map fun x => (x.2, x.1) := by
    apply List.ext_getElem?
    intro k
    simp only [List.getElem?_map, List.getElem?_zipIdx, vs]
    cases hk : parts[k]? with
    | none => simp
    | some q =>
      have hk' : k < parts.length := (List.getElem?_eq_some_iff.1 hk).1
      obtain ⟨p, hpk⟩ : ∃ p, ps[k]? = some p := ⟨_, List.getElem?_eq_getElem (by omega)⟩
      have h1 := (e2 k p q hpk hk).1
      have h2 : (ps.map (·.1))[k]? = some p.1 := by simp [hpk]
      rw [hi] at h2
      have h3 : k = p.1 := by
        have : k < len := by omega
        simpa [this] using h2
      simp [← h1, ← h3]
  have hfill := Great.fill_whole I.pos vs ((Array.range (len * size)).map (z.cells[· % z.cells.size]!)) c3 (by simp [hvl])
  have hne : len * size ≠ 0 := by
    have := I.pos
    exact Nat.mul_ne_zero (by omega) (by omega)
  refine ⟨.slice (some ⟨M.w.heap.size, 0, none⟩) len len, .row (.slice (some ⟨M.w.heap.size, 0, none⟩) len len), (vs.flatMap fun v => v.cells.toList).toArray, E, ?_, hs.newB (fun g hg => by simpa [Conc.block, Value.ownBlock] using hg.symm) (fun t' l' h' => by cases h') (fun E' size' l' h' => ?_), .vec (by simp [Wd.new, hs.nx]) rfl (fun E' size' l' hl' => ?_)⟩
  · simp only [execOp]
    rw [Sem.run_bind, run_buildSlice (P := P) M.w t E len _ _ i z f1 f2 f3 (by rw [f4]; omega) (by rw [f4]; exact hne) (by rw [f4, show (Array.map (fun x : Nat × Operand => (x.fst, a.eval x.snd)) parts.toArray).toList = parts.map fun q => (q.1, a.eval q.2) from by simp, hparts]; exact hfill)]
    rfl
  · simp only [AB.vec.injEq] at h'
    obtain ⟨rfl, rfl, rfl⟩ := h'
    refine ⟨len, len, rfl, rfl, I.pos, by rw [c1, hvl], Nat.le_refl _, by unfold maxLen; have := I.pos; have : len * 1 ≤ len * size := Nat.mul_le_mul_left _ this; omega, by simp [c2, hvl], fun k y u hy hu => c4 k y u hy (by simpa using hu)⟩
  · have hl2 : some (AB.vec E size zs) = some (.vec E' size' l') := by
      have : (st.new (.vec E size zs)).H st.nx = some (.vec E' size' l') := hl'
      rwa [H_new, if_pos rfl] at this
    simp only [Option.some.injEq, AB.vec.injEq] at hl2
    obtain ⟨rfl, rfl, rfl⟩ := hl2
    exact ⟨by rw [c1, hvl]; exact Nat.le_refl _, fun _ => by simp [Wd.new, hs.nx]⟩
/-- The empty list literal. -/
theorem ao_lit0 {t E size bytes : Nat} [I : SlT P t E size bytes] (hd : Nat.blt d st.n = true) (h : AOps P ops Q rest ((st.new (.vec E size [])).put d (.vec st.nx 0))) : AOps P ops Q (⟨some d, .buildSlice t 0 #[], ty, pos, af, none⟩ :: rest) st := by
  refine ao_new rfl rfl hd (fun base w0 M a hs => ?_) h
  obtain ⟨i, z, f1, f2, f3, f4, f5, f6⟩ := I.out
  refine ⟨.slice (some ⟨M.w.heap.size, 0, none⟩) 0 0, .row (.slice (some ⟨M.w.heap.size, 0, none⟩) 0 0), #[], E, ?_, hs.newB (fun g hg => by simpa [Conc.block, Value.ownBlock] using hg.symm) (fun t' l' h' => by cases h') (fun E' size' l' h' => ?_), .vec (by simp [Wd.new, hs.nx]) rfl (fun E' size' l' hl' => ?_)⟩
  · simp only [execOp]
    simp [Instr.buildSlice, run_underlying f1, sizeOf, typeInfo, f2, f4, Instr.fill, newRow]
    congr 1; simp [Array.range_zero']
  · simp only [AB.vec.injEq] at h'
    obtain ⟨rfl, rfl, rfl⟩ := h'
    exact ⟨0, 0, rfl, rfl, I.pos, by simp, Nat.le_refl _, Nat.zero_le _, by simp, fun k y u hy => by simp at hy⟩
  · have hl2 : some (AB.vec E size []) = some (.vec E' size' l') := by
      have : (st.new (.vec E size [])).H st.nx = some (.vec E' size' l') := hl'
      rwa [H_new, if_pos rfl] at this
    simp only [Option.some.injEq, AB.vec.injEq] at hl2
    obtain ⟨rfl, rfl, rfl⟩ := hl2
    exact ⟨by simp, fun _ => by simp [Wd.new, hs.nx]⟩

/-- make([]T, n). -/
theorem ao_make {α : Type} {enc : α → List CV} {t E size bytes : Nat} {zs : List Value} [I : SlT P t E size bytes] [Z : ZeroT P E zs] {x y : Operand} {k1 k2 : IntKind} {i1 i2 : Int} (z0 : α) (n : Nat) (J : EncL enc size) (hz : enc z0 = zs.map .v) (hx : st.ev x = some (.c (.v (.int k1 i1)))) (hy : st.ev y = some (.c (.v (.int k2 i2)))) (h1 : i1 = (n : Int)) (h2 : i2 = (n : Int)) (hb1 : n < 1000000000000) (hb2 : bytes * n ≤ 281474976710656) (hd : Nat.blt d st.n = true)
    (h : AOps P ops Q rest ((st.new (.vec E size ((List.replicate n z0).flatMap enc))).put d (.vec st.nx n))) : AOps P ops Q (⟨some d, .makeSlice t x y, ty, pos, af, none⟩ :: rest) st := by
  refine ao_new rfl rfl hd (fun base w0 M a hs => ?_) h
  obtain ⟨i, z, f1, f2, f3, f4, f5, f6⟩ := I.out
  obtain ⟨i', z', g1, g2, g3⟩ := Z.out
  rw [f2] at g1; cases g1
  rw [f3] at g2; cases g2
  subst h1; subst h2
  have hlen := flat_len J.len (List.replicate n z0)
  rw [List.length_replicate] at hlen
  have hrun := run_make (P := P) M.w t E i z f1 f2 f3 k1 k2 (n : Int) (n : Int) (by omega) (by omega) (by rw [f5, ← Int.natCast_mul]; omega) (by omega)
  simp only [Int.toNat_natCast, f4] at hrun
  have hget : ∀ (k : Nat) (q : CV), ((List.replicate n z0).flatMap enc)[k]? = some q → (madeCells z.cells (n * size))[k]? = some (match q with | .v u => u | _ => undef) ∧ ∃ u, q = .v u := fun k q hq => by
    have hk : k < n * size := by rw [← hlen]; exact (List.getElem?_eq_some_iff.1 hq).1
    have hpos := I.pos
    have hq1 : k / size < n := (Nat.div_lt_iff_lt_mul hpos).2 hk
    have hr : k % size < size := Nat.mod_lt _ hpos
    have e : k / size * size + k % size = k := by rw [Nat.mul_comm]; exact Nat.div_add_mod k size
    have hdrop := drop_atj J (List.replicate n z0) (k / size) (k % size) (by rw [List.length_replicate]; exact hq1) (Nat.le_of_lt hr)
    rw [e] at hdrop
    have h0 : ((List.replicate n z0).flatMap enc)[k]? = (enc z0)[k % size]? := by
      have : (((List.replicate n z0).flatMap enc).drop k)[0]? = (enc z0)[k % size]? := by
        rw [hdrop, List.getElem?_append_left (by rw [List.length_drop, J.len]; omega), List.getElem?_drop, List.getElem_replicate, Nat.add_zero]
      rwa [List.getElem?_drop] at this
    rw [h0, hz, List.getElem?_map, ← g3, Array.getElem?_toList] at hq
    have hzs : k % size < z.cells.size := by rw [f6]; exact hr
    simp only [Array.getElem?_eq_getElem hzs, Option.map_some, Option.some.injEq] at hq
    subst hq
    refine ⟨?_, _, rfl⟩
    simp [madeCells, hk, f6, hr]
  refine ⟨.slice (some ⟨M.w.heap.size, 0, none⟩) n n, .row (.slice (some ⟨M.w.heap.size, 0, none⟩) n n), madeCells z.cells (n * size), E, ?_, hs.newB (fun g hg => by simpa [Conc.block, Value.ownBlock] using hg.symm) (fun t' l' h' => by cases h') (fun E' size' l' h' => ?_), .vec (by simp [Wd.new, hs.nx]) rfl (fun E' size' l' hl' => ?_)⟩
  · simp only [execOp, (hs.ev hx).bool, (hs.ev hy).bool]
    rw [Sem.run_bind, hrun]; rfl
  · simp only [AB.vec.injEq] at h'
    obtain ⟨rfl, rfl, rfl⟩ := h'
    refine ⟨n, n, rfl, rfl, I.pos, hlen, Nat.le_refl _, by unfold maxLen; omega, size_madeCells _ _, fun k q u hq hu => ?_⟩
    obtain ⟨h1, v, rfl⟩ := hget k q hq
    rw [hu] at h1
    simp only [Option.some.injEq] at h1; subst h1
    exact .v _
  · have hl2 : some (AB.vec E size ((List.replicate n z0).flatMap enc)) = some (.vec E' size' l') := by
      have : (st.new (.vec E size ((List.replicate n z0).flatMap enc))).H st.nx = some (.vec E' size' l') := hl'
      rwa [H_new, if_pos rfl] at this
    simp only [Option.some.injEq, AB.vec.injEq] at hl2
    obtain ⟨rfl, rfl, rfl⟩ := hl2
    exact ⟨by rw [hlen]; exact Nat.le_refl _, fun _ => by simp [Wd.new, hs.nx]⟩
end
end Go.Proofs.Ytokkpocccgdilaa.Ev
