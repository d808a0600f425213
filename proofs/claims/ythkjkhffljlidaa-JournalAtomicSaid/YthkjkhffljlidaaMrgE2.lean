/- Ev11 Ev12 Ev13 Ev14 Ev15 EvR Ev16 Ev17 Ev18 Ev19 Ev22 Ev20 Ev23 Ev24 Ev25 Ev26: texts laid together. -/
import Derived.Test.YthkjkhffljlidaaMrgE1
import Derived.Laws.StructEq
import Derived.WalkSpells
/- Rules of a walk over abstract states: list literals, make, stores into lists, lists that stand from now on, calls. Nothing here names a program. -/
namespace Go.Proofs.Ythkjkhffljlidaa.Ev
set_option linter.unusedVariables false
set_option linter.unusedSimpArgs false
open Go.RowKit
theorem flat_one {α : Type} {enc : α → List CV} {size : Nat} (J : EncL enc size) (l : List α) : (l.flatMap enc).all CV.cellB = true := by
  rw [List.all_flatMap, List.all_eq_true]; exact fun x _ => J.one x
section
variable {P : Program} {ops : Array Oper} {Q : Exit → St → Prop} {rest : List Oper} {st : St} {d : Nat} {ty : TypeId} {pos : String} {af : Array Edge}
theorem ao_appendl {α : Type} {enc : α → List CV} {s x : Operand} {t E size bytes b n : Nat} [I : SlT P t E size bytes] {l l2 : List α} (hs0 : st.ev s = some (.vec b n)) (hH : st.H b = some (.vec E size (l.flatMap enc))) (J : EncL enc size) (hn : l.length = n) (hx : st.ev x = some (.c (.lst size (l2.flatMap enc)))) (hb1 : n + l2.length < 1000000000000) (hb2 : (n + l2.length) * bytes ≤ 140737488355328) (hd : Nat.blt d st.n = true)
    (h : AOps P ops Q rest ((st.set b (.vec E size ((l ++ l2).flatMap enc))).put d (.vec b (n + l2.length)))) : AOps P ops Q (⟨some d, .call ⟨.builtin .append, #[s, x], #[t, t]⟩, ty, pos, af, none⟩ :: rest) st := by
  have e : (l ++ l2).flatMap enc = l.flatMap enc ++ l2.flatMap enc := by simp
  rw [e] at h
  exact ao_append hs0 hH (by rw [flat_len J.len, hn]) (src_lst hx J.pos (flat_len J.len l2) (flat_one J l2)) (by unfold maxLen; omega) hb2 hd h
def lits : List AV → Option (List CV)
  | [] => some []
  | y :: l => match cvL y, lits l with | some zs, some r => some (zs ++ r) | _, _ => none
def litB (size : Nat) : List AV → Bool
  | [] => true
  | y :: l => (match cvL y with | some zs => Nat.beq zs.length size | none => false) && litB size l
theorem lits_get {M : Wd} {size : Nat} (hpos : 0 < size) : ∀ {ys : List AV} {zs : List CV} {vs : List Value}, lits ys = some zs → litB size ys = true → ys.length = vs.length → (∀ (i : Nat) (y : AV) (v : Value), ys[i]? = some y → vs[i]? = some v → RA M y v) →
    zs.length = vs.length * size ∧ (vs.flatMap fun v => v.cells.toList).length = vs.length * size ∧ (∀ v ∈ vs, v.cells.size = size) ∧ ∀ (i : Nat) (z : CV) (u : Value), zs[i]? = some z → (vs.flatMap fun v => v.cells.toList)[i]? = some u → RC M.F M.w z u
  | [], zs, vs, h, _, hl, _ => by
    simp only [lits, Option.some.injEq] at h; subst h
    have : vs = [] := List.eq_nil_of_length_eq_zero (by simpa using hl.symm)
    subst this
    exact ⟨by simp, by simp, by simp, fun i z u h => by simp at h⟩
  | y :: ys, zs, vs, h, hb, hl, hr => by
    match vs, hl with
    | v :: vs, hl =>
      simp only [lits] at h
      simp only [litB, Bool.and_eq_true] at hb
      obtain ⟨b1, b2⟩ := hb
      cases hc : cvL y with
      | none => rw [hc] at h; cases h
      | some ws =>
        rw [hc] at h b1
        dsimp only at b1
        have b1 := beq_true b1
        cases hr2 : lits ys with
        | none => rw [hr2] at h; cases h
        | some r =>
          rw [hr2] at h
          simp only [Option.some.injEq] at h; subst h
          obtain ⟨e1, e2, e3⟩ := cvL_ra hc (hr 0 y v rfl rfl)
          obtain ⟨f1, f2, f3, f4⟩ := lits_get hpos hr2 b2 (by simpa using hl) (fun i y' v' h1 h2 => hr (i + 1) y' v' (by simpa using h1) (by simpa using h2))
          have hvl : v.cells.toList.length = size := by simp; omega
          refine ⟨by rw [List.length_append, f1, List.length_cons, Nat.add_mul]; omega, by rw [List.flatMap_cons, List.length_append, f2, hvl, List.length_cons, Nat.add_mul]; omega, fun u hu => ?_, fun i z u hz hu => ?_⟩
          · rcases List.mem_cons.1 hu with rfl | hu
            · simpa using hvl
            · exact f3 u hu
          · rw [List.flatMap_cons] at hu
            rcases Nat.lt_or_ge i size with hi | hi
            · rw [List.getElem?_append_left (by omega)] at hz
              rw [List.getElem?_append_left (by omega)] at hu
              exact e3 i z u hz (by simpa using hu)
            · rw [List.getElem?_append_right (by omega), b1] at hz
              rw [List.getElem?_append_right (by omega), hvl] at hu
              exact f4 _ z u hz hu
theorem ao_lit {t E size bytes len : Nat} [I : SlT P t E size bytes] {parts : List (Nat × Operand)} {ps : List (Nat × AV)} {zs : List CV} (hp : evp st parts = some ps) (hi : ps.map (·.1) = List.range len) (hz : lits (ps.map (·.2)) = some zs) (hb : litB size (ps.map (·.2)) = true) (hl : Nat.ble 1 len = true) (hs2 : Nat.ble (len * size) 100000 = true) (hd : Nat.blt d st.n = true)
    (h : AOps P ops Q rest ((st.new (.vec E size zs)).put d (.vec st.nx len))) : AOps P ops Q (⟨some d, .buildSlice t len parts.toArray, ty, pos, af, none⟩ :: rest) st := by
  refine ao_new rfl rfl hd (fun base w0 M a hs => ?_) h
  obtain ⟨i, z, f1, f2, f3, f4, f5, f6⟩ := I.out
  obtain ⟨e1, e2⟩ := evp_get hp
  have hl := Nat.le_of_ble_eq_true hl
  have hs2 := Nat.le_of_ble_eq_true hs2
  have hplen : ps.length = len := by
    have := congrArg List.length hi
    simpa using this
  let vs : List Value := parts.map fun q => a.eval q.2
  have hvl : vs.length = len := by show (parts.map _).length = _; simp; omega
  have hra : ∀ (k : Nat) (y : AV) (v : Value), (ps.map (·.2))[k]? = some y → vs[k]? = some v → RA M y v := fun k y v hy hv => by
    obtain ⟨p, g1, rfl⟩ : ∃ p, ps[k]? = some p ∧ p.2 = y := by simpa using hy
    obtain ⟨q, g2, rfl⟩ : ∃ q, parts[k]? = some q ∧ a.eval q.2 = v := by simpa [vs] using hv
    exact hs.ev (e2 k p q g1 g2).2
  obtain ⟨c1, c2, c3, c4⟩ := lits_get I.pos hz hb (by simp; omega) hra
  have hparts : (parts.map fun q => (q.1, a.eval q.2)) = (vs.zipIdx 0).map fun x => (x.2, x.1) := by
    apply List.ext_getElem?
    intro k
    simp only [List.getElem?_map, List.getElem?_zipIdx, vs]
    cases hk : parts[k]? with
    | none => simp
    | some q =>
      have hk' : k < parts.length := (List.getElem?_eq_some_iff.1 hk).1
      obtain ⟨p, hpk⟩ : ∃ p, ps[k]? = some p := ⟨_, List.getElem?_eq_getElem (by omega)⟩
      have h1 := (e2 k p q hpk hk).1
      have h2 : (ps.map (·.1))[k]? = some p.1 := by simp [hpk]
      rw [hi] at h2
      have h3 : k = p.1 := by
        have : k < len := by omega
        simpa [this] using h2
      simp [← h1, ← h3]
  have hfill := Great.fill_whole I.pos vs ((Array.range (len * size)).map (z.cells[· % z.cells.size]!)) c3 (by simp [hvl])
  have hne : len * size ≠ 0 := by
    have := I.pos
    exact Nat.mul_ne_zero (by omega) (by omega)
  refine ⟨.slice (some ⟨M.w.heap.size, 0, none⟩) len len, .row (.slice (some ⟨M.w.heap.size, 0, none⟩) len len), (vs.flatMap fun v => v.cells.toList).toArray, E, ?_, hs.newB (fun g hg => by simpa [Conc.block, Value.ownBlock] using hg.symm) (fun t' l' h' => by cases h') (fun E' size' l' h' => ?_), .vec (by simp [Wd.new, hs.nx]) rfl (fun E' size' l' hl' => ?_)⟩
  · simp only [execOp]
    rw [Sem.run_bind, run_buildSlice (P := P) M.w t E len _ _ i z f1 f2 f3 (by rw [f4]; omega) (by rw [f4]; exact hne) (by rw [f4, show (Array.map (fun x : Nat × Operand => (x.fst, a.eval x.snd)) parts.toArray).toList = parts.map fun q => (q.1, a.eval q.2) from by simp, hparts]; exact hfill)]
    rfl
  · simp only [AB.vec.injEq] at h'
    obtain ⟨rfl, rfl, rfl⟩ := h'
    refine ⟨len, len, rfl, rfl, I.pos, by rw [c1, hvl], Nat.le_refl _, by unfold maxLen; have := I.pos; have : len * 1 ≤ len * size := Nat.mul_le_mul_left _ this; omega, by simp [c2, hvl], fun k y u hy hu => c4 k y u hy (by simpa using hu)⟩
  · have hl2 : some (AB.vec E size zs) = some (.vec E' size' l') := by
      have : (st.new (.vec E size zs)).H st.nx = some (.vec E' size' l') := hl'
      rwa [H_new, if_pos rfl] at this
    simp only [Option.some.injEq, AB.vec.injEq] at hl2
    obtain ⟨rfl, rfl, rfl⟩ := hl2
    exact ⟨by rw [c1, hvl]; exact Nat.le_refl _, fun _ => by simp [Wd.new, hs.nx]⟩
theorem ao_lit0 {t E size bytes : Nat} [I : SlT P t E size bytes] (hd : Nat.blt d st.n = true) (h : AOps P ops Q rest ((st.new (.vec E size [])).put d (.vec st.nx 0))) : AOps P ops Q (⟨some d, .buildSlice t 0 #[], ty, pos, af, none⟩ :: rest) st := by
  refine ao_new rfl rfl hd (fun base w0 M a hs => ?_) h
  obtain ⟨i, z, f1, f2, f3, f4, f5, f6⟩ := I.out
  refine ⟨.slice (some ⟨M.w.heap.size, 0, none⟩) 0 0, .row (.slice (some ⟨M.w.heap.size, 0, none⟩) 0 0), #[], E, ?_, hs.newB (fun g hg => by simpa [Conc.block, Value.ownBlock] using hg.symm) (fun t' l' h' => by cases h') (fun E' size' l' h' => ?_), .vec (by simp [Wd.new, hs.nx]) rfl (fun E' size' l' hl' => ?_)⟩
  · simp only [execOp]
    simp [Instr.buildSlice, run_underlying f1, sizeOf, typeInfo, f2, f4, Instr.fill, newRow]
    congr 1; simp [Array.range_zero']
  · simp only [AB.vec.injEq] at h'
    obtain ⟨rfl, rfl, rfl⟩ := h'
    exact ⟨0, 0, rfl, rfl, I.pos, by simp, Nat.le_refl _, Nat.zero_le _, by simp, fun k y u hy => by simp at hy⟩
  · have hl2 : some (AB.vec E size []) = some (.vec E' size' l') := by
      have : (st.new (.vec E size [])).H st.nx = some (.vec E' size' l') := hl'
      rwa [H_new, if_pos rfl] at this
    simp only [Option.some.injEq, AB.vec.injEq] at hl2
    obtain ⟨rfl, rfl, rfl⟩ := hl2
    exact ⟨by simp, fun _ => by simp [Wd.new, hs.nx]⟩
theorem ao_make {α : Type} {enc : α → List CV} {t E size bytes : Nat} {zs : List Value} [I : SlT P t E size bytes] [Z : ZeroT P E zs] {x y : Operand} {k1 k2 : IntKind} {i1 i2 : Int} (z0 : α) (n : Nat) (J : EncL enc size) (hz : enc z0 = zs.map .v) (hx : st.ev x = some (.c (.v (.int k1 i1)))) (hy : st.ev y = some (.c (.v (.int k2 i2)))) (h1 : i1 = (n : Int)) (h2 : i2 = (n : Int)) (hb1 : n < 1000000000000) (hb2 : bytes * n ≤ 281474976710656) (hd : Nat.blt d st.n = true)
    (h : AOps P ops Q rest ((st.new (.vec E size ((List.replicate n z0).flatMap enc))).put d (.vec st.nx n))) : AOps P ops Q (⟨some d, .makeSlice t x y, ty, pos, af, none⟩ :: rest) st := by
  refine ao_new rfl rfl hd (fun base w0 M a hs => ?_) h
  obtain ⟨i, z, f1, f2, f3, f4, f5, f6⟩ := I.out
  obtain ⟨i', z', g1, g2, g3⟩ := Z.out
  rw [f2] at g1; cases g1
  rw [f3] at g2; cases g2
  subst h1; subst h2
  have hlen := flat_len J.len (List.replicate n z0)
  rw [List.length_replicate] at hlen
  have hrun := run_make (P := P) M.w t E i z f1 f2 f3 k1 k2 (n : Int) (n : Int) (by omega) (by omega) (by rw [f5, ← Int.natCast_mul]; omega) (by omega)
  simp only [Int.toNat_natCast, f4] at hrun
  have hget : ∀ (k : Nat) (q : CV), ((List.replicate n z0).flatMap enc)[k]? = some q → (madeCells z.cells (n * size))[k]? = some (match q with | .v u => u | _ => undef) ∧ ∃ u, q = .v u := fun k q hq => by
    have hk : k < n * size := by rw [← hlen]; exact (List.getElem?_eq_some_iff.1 hq).1
    have hpos := I.pos
    have hq1 : k / size < n := (Nat.div_lt_iff_lt_mul hpos).2 hk
    have hr : k % size < size := Nat.mod_lt _ hpos
    have e : k / size * size + k % size = k := by rw [Nat.mul_comm]; exact Nat.div_add_mod k size
    have hdrop := drop_atj J (List.replicate n z0) (k / size) (k % size) (by rw [List.length_replicate]; exact hq1) (Nat.le_of_lt hr)
    rw [e] at hdrop
    have h0 : ((List.replicate n z0).flatMap enc)[k]? = (enc z0)[k % size]? := by
      have : (((List.replicate n z0).flatMap enc).drop k)[0]? = (enc z0)[k % size]? := by
        rw [hdrop, List.getElem?_append_left (by rw [List.length_drop, J.len]; omega), List.getElem?_drop, List.getElem_replicate, Nat.add_zero]
      rwa [List.getElem?_drop] at this
    rw [h0, hz, List.getElem?_map, ← g3, Array.getElem?_toList] at hq
    have hzs : k % size < z.cells.size := by rw [f6]; exact hr
    simp only [Array.getElem?_eq_getElem hzs, Option.map_some, Option.some.injEq] at hq
    subst hq
    refine ⟨?_, _, rfl⟩
    simp [madeCells, hk, f6, hr]
  refine ⟨.slice (some ⟨M.w.heap.size, 0, none⟩) n n, .row (.slice (some ⟨M.w.heap.size, 0, none⟩) n n), madeCells z.cells (n * size), E, ?_, hs.newB (fun g hg => by simpa [Conc.block, Value.ownBlock] using hg.symm) (fun t' l' h' => by cases h') (fun E' size' l' h' => ?_), .vec (by simp [Wd.new, hs.nx]) rfl (fun E' size' l' hl' => ?_)⟩
  · simp only [execOp, (hs.ev hx).bool, (hs.ev hy).bool]
    rw [Sem.run_bind, hrun]; rfl
  · simp only [AB.vec.injEq] at h'
    obtain ⟨rfl, rfl, rfl⟩ := h'
    refine ⟨n, n, rfl, rfl, I.pos, hlen, Nat.le_refl _, by unfold maxLen; omega, size_madeCells _ _, fun k q u hq hu => ?_⟩
    obtain ⟨h1, v, rfl⟩ := hget k q hq
    rw [hu] at h1
    simp only [Option.some.injEq] at h1; subst h1
    exact .v _
  · have hl2 : some (AB.vec E size ((List.replicate n z0).flatMap enc)) = some (.vec E' size' l') := by
      have : (st.new (.vec E size ((List.replicate n z0).flatMap enc))).H st.nx = some (.vec E' size' l') := hl'
      rwa [H_new, if_pos rfl] at this
    simp only [Option.some.injEq, AB.vec.injEq] at hl2
    obtain ⟨rfl, rfl, rfl⟩ := hl2
    exact ⟨by rw [hlen]; exact Nat.le_refl _, fun _ => by simp [Wd.new, hs.nx]⟩
end
end Go.Proofs.Ythkjkhffljlidaa.Ev
/- Rules of a walk over abstract states: stores into lists, lists that stand from now on, more calls, comparison of structs. Nothing here names a program. -/
namespace Go.Proofs.Ythkjkhffljlidaa.Ev
set_option linter.unusedVariables false
set_option linter.unusedSimpArgs false
open Go.RowKit
section
variable {P : Program} {ops : Array Oper} {Q : Exit → St → Prop} {rest : List Oper} {st : St} {d : Nat} {ty : TypeId} {pos : String} {af : Array Edge}
def St.drop (s : St) (b : Nat) : St := { s with heap := (b, none) :: s.heap }
theorem H_drop (st : St) (b' b : Nat) : (st.drop b').H b = if b' = b then none else st.H b := by
  unfold St.H St.drop
  simp only [look_cons]
  by_cases h : b' = b
  · simp [h]
  · simp [h]
theorem Sim.freeze {base : Nat} {w0 : W0} {M : Wd} {a : Act} (hs : Sim base w0 st M a) {b E size : Nat} {l : List CV} (hH : st.H b = some (.vec E size l)) :
    ∃ M', M'.w = M.w ∧ Sim base w0 (st.drop b) M' a ∧ Ext M M' ∧ ∀ n v, l.length = n * size → RA M (.vec b n) v → RC M'.F M'.w (.lst size l) v := by
  have hb : M.H b = some (.vec E size l) := by rw [hs.H]; exact hH
  obtain ⟨v, n, cs, e1, e2, e3, e4, e5, e6⟩ := hs.heap.vec b E size l hb
  let M' : Wd := { M with H := (st.drop b).H, F := fun k => M.F k ∨ v.ownBlock = some k }
  have hH' : ∀ k, M'.H k = if b = k then none else M.H k := fun k => by
    show (st.drop b).H k = _
    rw [H_drop, hs.H]
  have hne : ∀ k x, M'.H k = some x → b ≠ k ∧ M.H k = some x := fun k x hx => by
    rw [hH'] at hx
    by_cases h : b = k
    · rw [if_pos h] at hx; cases hx
    · rw [if_neg h] at hx; exact ⟨h, hx⟩
  have hext : Ext M M' := ⟨fun _ _ h => h, fun k E' size' l' _ hl => ⟨l', (hne k _ hl).2, Nat.le_refl _, fun _ => rfl⟩, Nat.le_refl _, fun k hk => ⟨Or.inl hk, rfl⟩⟩
  have hblk : (M.m b).block = v.ownBlock := by rw [e1]; rfl
  refine ⟨M', rfl, ⟨rfl, hs.nx, hs.n, fun i y hy => ?_, fun g xs hg => (hs.gl g xs hg).mono hext, ⟨?_, ?_, ?_, ?_, hs.heap.fresh, ?_, ?_⟩, hs.below, hs.base, hs.defs, ?_⟩, hext, fun n' v' hl hv => ?_⟩
  · obtain ⟨u, h1, h2⟩ := hs.env i y hy
    exact ⟨u, h1, h2.mono hext⟩
  · intro k t l' hl
    obtain ⟨h1, h2⟩ := hne k _ hl
    obtain ⟨g, arr, g1, g2, g3, g4, g5, g6⟩ := hs.heap.cells k t l' h2
    refine ⟨g, arr, g1, g2, fun hf => ?_, g4, g5, fun i y u h3 h4 => (g6 i y u h3 h4).mono hext⟩
    rcases hf with hf | hf
    · exact g3 hf
    · exact hs.heap.sep k b g (Ne.symm h1) (by rw [h2]; simp) (by rw [hb]; simp) (by rw [g1]; rfl) (by rw [hblk]; exact hf)
  · intro k E' size' l' hl
    obtain ⟨h1, h2⟩ := hne k _ hl
    obtain ⟨v', n', cs', g1, g2, g3, g4, g5, g6⟩ := hs.heap.vec k E' size' l' h2
    refine ⟨v', n', cs', g1, g2, g3, g4, fun i y u h3 h4 => (g5 i y u h3 h4).mono hext.F, fun g hg hf => ?_⟩
    rcases hf with hf | hf
    · exact g6 g hg hf
    · exact hs.heap.sep k b g (Ne.symm h1) (by rw [h2]; simp) (by rw [hb]; simp) (by rw [g1]; exact hg) (by rw [hblk]; exact hf)
  · intro k k' g hkk hk hk'
    have h1 : M.H k ≠ none := fun h0 => hk (by rw [hH']; split <;> first | rfl | exact h0)
    have h2 : M.H k' ≠ none := fun h0 => hk' (by rw [hH']; split <;> first | rfl | exact h0)
    exact hs.heap.sep k k' g hkk h1 h2
  · intro k hk
    exact hs.heap.lt k (fun h0 => hk (by rw [hH']; split <;> first | rfl | exact h0))
  · intro k hk
    rcases hk with hk | hk
    · exact hs.heap.frz k hk
    · exact (World.ownsRow.lt e4 k hk).2
  · intro k p hp
    obtain ⟨h1, h2⟩ := hne k _ hp
    obtain ⟨g, g1, g2, g3, g4, g5⟩ := hs.heap.obj k p h2
    refine ⟨g, g1, g2, g3, fun q hq => ⟨(g4 q hq).1, (g4 q hq).2.1, fun hf => ?_⟩, fun b' q hbb hq => ⟨fun hb' => (g5 b' q hbb hq).1 (fun h0 => hb' (by rw [hH']; split <;> first | rfl | exact h0)), fun p' hp' => (g5 b' q hbb hq).2 p' (hne b' _ hp').2⟩⟩
    rcases hf with hf | hf
    · exact (g4 q hq).2.2 hf
    · exact (g5 b q h1 hq).1 (by rw [hb]; simp) (by rw [hblk]; exact hf)
  · intro k hk hlt
    rcases hk with hk | hk
    · exact hs.old k hk hlt
    · have := (World.ownsRow.lt e4 k hk).1; omega
  · refine cl_rc hs.heap (F' := M'.F) (fun k hk => Or.inl hk) (H := fun k => if k = b then M.H k else none) (fun k E' s' l' hk => ?_) hv ?_
    · by_cases h : k = b
      · subst h; rw [if_pos rfl] at hk; exact ⟨hk, fun g hg => Or.inr (by rw [← hblk]; exact hg)⟩
      · rw [if_neg h] at hk; cases hk
    · exact cl_vec (E := E) (by rw [if_pos rfl]; exact hb) hl
theorem ao_freeze {l : List Oper} (i : Nat) {b n E size : Nat} {xs : List CV} (hi : look i st.env = some (.vec b n)) (hH : st.H b = some (.vec E size xs)) (hn : xs.length = n * size) (h : AOps P ops Q l ((st.drop b).put i (.c (.lst size xs)))) : AOps P ops Q l st := by
  intro base w0 M a hs
  obtain ⟨M', h1, h2, h3, h4⟩ := hs.freeze hH
  obtain ⟨v, g1, g2⟩ := hs.env i _ hi
  have hs' : Sim base w0 ((st.drop b).put i (.c (.lst size xs))) M' a := by
    refine ⟨h2.H, h2.nx, h2.n, fun j y hy => ?_, h2.gl, h2.heap, h2.below, h2.base, h2.defs, h2.old⟩
    simp only [St.put, look_cons] at hy
    split at hy
    · rename_i hj; subst hj; simp only [Option.some.injEq] at hy; subst hy; exact ⟨v, g1, .c (h4 n v hn g2)⟩
    · exact h2.env j y hy
  rw [← h1]
  exact wpList_monoQ (fun e a w => Lift.ext h3) _ _ _ (h base w0 M' a hs')
def CV.plain : CV → Bool
  | .v _ => true
  | .agg xs => plainL xs
  | .tup xs => plainL xs
  | .lst _ _ => false
  | .e0 => true
where plainL : List CV → Bool
  | [] => true
  | x :: l => CV.plain x && plainL l
theorem plainL_get : ∀ {xs : List CV}, CV.plain.plainL xs = true → ∀ (i : Nat) (x : CV), xs[i]? = some x → x.plain = true
  | [], _, i, x, h => by simp at h
  | y :: l, hl, 0, x, h => by
    simp only [CV.plain.plainL, Bool.and_eq_true] at hl
    simp only [List.getElem?_cons_zero, Option.some.injEq] at h; subst h; exact hl.1
  | y :: l, hl, i + 1, x, h => by
    simp only [CV.plain.plainL, Bool.and_eq_true] at hl
    exact plainL_get hl.2 i x (by simpa using h)
theorem RC.plain {F F' : Nat → Prop} {w w' : World} {x : CV} {u : Value} (h : RC F w x u) : x.plain = true → RC F' w' x u := by
  induction h with
  | v x => exact fun _ => .v x
  | agg hl _ ih => exact fun hp => .agg hl (fun i x u hx hu => ih i x u hx hu (plainL_get hp i x hx))
  | tup hl _ ih => exact fun hp => .tup hl (fun i x u hx hu => ih i x u hx hu (plainL_get hp i x hx))
  | nil => exact fun hp => by cases hp
  | e0 => exact fun _ => .e0
  | lst _ _ _ _ _ _ _ => exact fun hp => by cases hp
theorem ao_callv {f : FuncId} {args : List Operand} {tys : Array TypeId} {ys : List AV} {zs : List CV} {r : CV} (hcon : Con P st.gl f zs r) (hys : evs st args = some ys) (hz : cl.clL st.H ys zs) (hr : r.plain = true) (hd : Nat.blt d st.n = true)
    (h : AOps P ops Q rest (st.put d (ofC r))) : AOps P ops Q (⟨some d, .call ⟨.value (.func f), args.toArray, tys⟩, ty, pos, af, none⟩ :: rest) st := by
  intro base w0 M a hs
  obtain ⟨e1, e2⟩ := evs_get hys
  obtain ⟨e3, e4⟩ := clL_get hz
  have hFm : ∀ b, M.F b → b < M.w.heap.size := hs.heap.frz
  refine wl_enter rfl (run_call hcon.1 a M.w) (R := fun v w'' => Below M.w.heap.size M.w w'' ∧ RC (M.after w'').F w'' r v) (Calls.mono (hcon.2 M.w (fun b => b < M.w.heap.size) _ (fun b h => h) (fun g xs hg => ?_) (by simp; omega) (fun i x u hx hu => ?_)) (fun e w'' ⟨v, he, hb, hrc⟩ => ⟨v, he, hb, hrc.plain hr⟩)) (fun v w'' hR => ?_)
  · have := hs.gl g xs hg
    generalize hq : Value.pointer (some ⟨g, 0, none⟩) = q at this ⊢
    cases this with
    | eptr cs hF hcell hr => exact .eptr cs (hFm _ hF) hcell (fun i x hi => (hr i x hi).mono (fun b hb => ⟨hFm b hb, rfl⟩))
  · have hi : i < args.length := by have := (List.getElem?_eq_some_iff.1 hx).1; omega
    obtain ⟨y, hy⟩ : ∃ y, ys[i]? = some y := ⟨_, List.getElem?_eq_getElem (by omega)⟩
    have hev := hs.ev (e2 i args[i] y (by simp [hi]) hy)
    have hu' : a.eval args[i] = u := by simpa [hi] using hu
    rw [hu'] at hev
    refine cl_rc hs.heap (F' := fun b => b < M.w.heap.size) hFm (fun b E s l hb => ?_) hev (e4 i y x hy hx)
    rw [← hs.H] at hb
    refine ⟨hb, fun g hg => conc_lt hs.heap (by rw [hb]; simp) hg⟩
  · obtain ⟨hb, hrc⟩ := hR
    have := h base w0 (M.after w'') _ ((hs.after hb).put hd (RA.ofC (M := M.after w'') hrc))
    exact wpList_monoQ (fun e a w => Lift.ext (Ext.after hb hs.heap.frz)) _ _ _ this
class EqInts (P : Program) (t : Nat) (n : outParam Nat) : Prop where
  h : ∀ (w : World) (x y : Operand) (as bs : List Int), as.length = n → bs.length = n →
    (do eqGuard .eql t x y (.agg (as.map (Value.int .i64)).toArray) (.agg (bs.map (Value.int .i64)).toArray); binOp .eql t (.agg (as.map (Value.int .i64)).toArray) (.agg (bs.map (Value.int .i64)).toArray)).run P w = .ok (.bool (decide (as = bs))) w ∧
    (do eqGuard .neq t x y (.agg (as.map (Value.int .i64)).toArray) (.agg (bs.map (Value.int .i64)).toArray); binOp .neq t (.agg (as.map (Value.int .i64)).toArray) (.agg (bs.map (Value.int .i64)).toArray)).run P w = .ok (.bool (!decide (as = bs))) w
end
end Go.Proofs.Ythkjkhffljlidaa.Ev
/- Rules of a walk over abstract states: calls that are walked through, the nil slice as a list of the call's own. Nothing here names a program. -/
namespace Go.Proofs.Ythkjkhffljlidaa.Ev
set_option linter.unusedVariables false
set_option linter.unusedSimpArgs false
open Go.RowKit
def argEnvA : Nat → List AV → List (Nat × AV)
  | _, [] => []
  | k, x :: l => (k, x) :: argEnvA (k + 1) l
theorem argEnvA_get : ∀ (l : List AV) (k i : Nat) (y : AV), look i (argEnvA k l) = some y → k ≤ i ∧ l[i - k]? = some y
  | [], k, i, y, h => by simp [argEnvA, look] at h
  | x :: l, k, i, y, h => by
    rw [argEnvA, look_cons] at h
    split at h
    · rename_i hk; subst hk; simp only [Option.some.injEq] at h; exact ⟨Nat.le_refl _, by simp [h]⟩
    · obtain ⟨h1, h2⟩ := argEnvA_get l (k + 1) i y h
      refine ⟨by omega, ?_⟩
      rw [show i - k = (i - (k + 1)) + 1 by omega]
      simpa using h2
section
variable {P : Program} {ops : Array Oper} {Q : Exit → St → Prop} {rest : List Oper} {st : St} {d : Nat} {ty : TypeId} {pos : String} {af : Array Edge}
def Back (t : Nat) (gl : List (Nat × List CV)) (K : AV → List (Nat × Option AB) → Nat → Prop) : Exit → St → Prop
  | e, s => (e = .normal ∨ e = .ret) ∧ s.gl = gl ∧ ∃ y, look t s.env = some y ∧ K y s.heap s.nx
theorem back_ret {t : Nat} {n : Nat} {env : List (Nat × AV)} {heap : List (Nat × Option AB)} {nx : Nat} {gl : List (Nat × List CV)} {y : AV} {K : AV → List (Nat × Option AB) → Nat → Prop} (h : look t env = some y) (hK : K y heap nx) : Back t gl K .ret ⟨n, env, heap, nx, gl⟩ := ⟨Or.inr rfl, rfl, y, h, hK⟩
theorem ao_in {f : FuncId} {fn : Func} {c : Code} {t : Nat} {args : List Operand} {tys : Array TypeId} {ys : List AV} (hf : P.funcs[f]? = some fn) (hb : fn.body = some c) (hr : fn.results = #[.tmp t]) (hcall : callableB P f = true) (hys : evs st args = some ys) (hn : Nat.ble ys.length fn.ntmps = true) (hd : Nat.blt d st.n = true)
    (h : Awp P c (Back t st.gl (fun y heap nx => AOps P ops Q rest ⟨st.n, (d, y) :: st.env, heap, nx, st.gl⟩)) ⟨fn.ntmps, argEnvA 0 ys, st.heap, st.nx, st.gl⟩) : AOps P ops Q (⟨some d, .call ⟨.value (.func f), args.toArray, tys⟩, ty, pos, af, none⟩ :: rest) st := by
  intro base w0 M a hs
  obtain ⟨e1, e2⟩ := evs_get hys
  have hn := Nat.le_of_ble_eq_true hn
  have hsim : Sim base w0 ⟨fn.ntmps, argEnvA 0 ys, st.heap, st.nx, st.gl⟩ M { tmps := (args.map a.eval).toArray ++ Array.replicate (fn.ntmps - (args.map a.eval).toArray.size) undef, defers := [] } := by
    refine ⟨hs.H, hs.nx, by simp; omega, fun i y hy => ?_, hs.gl, hs.heap, hs.below, hs.base, rfl, hs.old⟩
    obtain ⟨_, h1⟩ := argEnvA_get ys 0 i y hy
    rw [Nat.sub_zero] at h1
    have hi : i < args.length := by have := (List.getElem?_eq_some_iff.1 h1).1; omega
    exact ⟨a.eval args[i], by simp [Array.getElem?_append, hi], hs.ev (e2 i args[i] y (by simp [hi]) h1)⟩
  refine wl_enter rfl (run_call hcall a M.w) (R := fun v w'' => wpList P ops (Lift base w0 M Q) rest (a.put (some d) v) w'') (calls_of_wp hf hb ?_) (fun v w'' hR => hR)
  refine Code.wp_mono ?_ (h base w0 M _ hsim)
  intro e a' w' ⟨M', s', h1, h2, h3, h4, h5, y, h6, h7⟩
  subst h1
  obtain ⟨v, g1, g2⟩ := h2.env t y h6
  have hres : (results fn a'.tmps).run P M'.w = .ok v M'.w := by
    unfold results
    rw [hr]
    simp [Array.getD_eq_getD_getElem?, g1]
  have hd' := blt_true hd
  have hcaller : Sim base w0 ⟨st.n, (d, y) :: st.env, s'.heap, s'.nx, st.gl⟩ M' (a.put (some d) v) := by
    refine ⟨h2.H, h2.nx, by show (a.tmps.setIfInBounds d v).size = _; rw [Array.size_setIfInBounds]; exact hs.n, fun i z hz => ?_, fun g xs hg => h2.gl g xs (by rw [h5]; exact hg), h2.heap, h2.below, h2.base, by simpa [Act.put] using hs.defs, h2.old⟩
    rw [look_cons] at hz
    by_cases hi : d = i
    · subst hi
      rw [if_pos rfl] at hz
      simp only [Option.some.injEq] at hz; subst hz
      exact ⟨v, by simp [Act.put, hs.n, hd'], g2⟩
    · rw [if_neg hi] at hz
      obtain ⟨u, q1, q2⟩ := hs.env i z hz
      exact ⟨u, by simp [Act.put, Array.getElem?_setIfInBounds_ne hi, q1], q2.mono h3⟩
  have hgoal : wpList P ops (Lift base w0 M Q) rest (a.put (some d) v) M'.w := wpList_monoQ (fun e a w => Lift.ext h3) _ _ _ (h7 base w0 M' _ hcaller)
  have : bodyPost P fn (fun e w'' => ∃ v, e = .returned v ∧ wpList P ops (Lift base w0 M Q) rest (a.put (some d) v) w'') e a' M'.w := by
    rcases h4 with rfl | rfl
    · exact ⟨h2.defs, v, hres, v, rfl, hgoal⟩
    · exact ⟨h2.defs, v, hres, v, rfl, hgoal⟩
  exact this
structure Fewer (h : List (Nat × Option AB)) (nx : Nat) (h2 h' : List (Nat × Option AB)) : Prop where
  same : ∀ i, i < nx → look i h' = look i h2
  none : ∀ i, nx ≤ i → look i h' = look i h
  cells : ∀ i t l, look i h' = some (some (.cells t l)) → look i h = some (some (.cells t l))
theorem aw_nilvec {c : Code} {n : Nat} {env : List (Nat × AV)} {heap : List (Nat × Option AB)} {nx : Nat} {gl : List (Nat × List CV)} (i E size : Nat) (hi : look i env = some (.c (.v (.slice none 0 0)))) (hpos : Nat.blt 0 size = true) (h : Awp P c Q ⟨n, (i, .vec nx 0) :: env, (nx, some (.vec E size [])) :: heap, nx + 1, gl⟩) : Awp P c Q ⟨n, env, heap, nx, gl⟩ := by
  intro base w0 M a hs
  obtain ⟨M', m1, m2, m3, m4⟩ := hs.newNil E size (blt_true hpos)
  obtain ⟨v, g1, g2⟩ := hs.env i _ hi
  have hv := g2.bool
  subst hv
  have hs' : Sim base w0 ⟨n, (i, .vec nx 0) :: env, (nx, some (.vec E size [])) :: heap, nx + 1, gl⟩ M' a := by
    refine ⟨m3.H, m3.nx, m3.n, fun j y hy => ?_, m3.gl, m3.heap, m3.below, m3.base, m3.defs, m3.old⟩
    rw [look_cons] at hy
    split at hy
    · rename_i hj; subst hj; simp only [Option.some.injEq] at hy; subst hy
      refine ⟨_, g1, .vec (by rw [m3.nx]; exact Nat.lt_succ_self _) rfl (fun E' s' l' hl => ?_)⟩
      have hl' : some (AB.vec E size []) = some (.vec E' s' l') := by
        have : (St.new ⟨n, env, heap, nx, gl⟩ (.vec E size [])).H nx = some (.vec E' s' l') := by rw [← m3.H]; exact hl
        rwa [H_new, if_pos rfl] at this
      simp only [Option.some.injEq, AB.vec.injEq] at hl'
      obtain ⟨rfl, rfl, rfl⟩ := hl'
      exact ⟨by simp, fun _ => by rw [← show M.nx = nx from hs.nx]; exact m2⟩
    · exact m3.env j y hy
  rw [← m1]
  exact wp_mono (h base w0 M' a hs') fun e a w => Lift.ext m4
end
end Go.Proofs.Ythkjkhffljlidaa.Ev
/- Rules of a walk: reading the call's own lists. Nothing here names a program. -/
namespace Go.Proofs.Ythkjkhffljlidaa.Ev
set_option linter.unusedVariables false
set_option linter.unusedSimpArgs false
open Go.RowKit
section
variable {P : Program} {X : List Oper → St → Prop} {rest : List Oper} {d : Nat} {ty : TypeId} {pos : String} {af : Array Edge} {st : St}
theorem ao_index_vf [W : Walk P X] {α : Type} {enc : α → List CV} {x i : Operand} {t E E2 size bytes b m : Nat} [I : SlT P t E size bytes] {l : List α} {kk : IntKind} {idx : Int} (k : Nat) (hx : st.ev x = some (.vec b m)) (hH : st.H b = some (.vec E2 size (l.flatMap enc))) (J : EncL enc size) (hn : l.length = m) (hi : st.ev i = some (.c (.v (.int kk idx)))) (hk : idx = (k : Int)) (hlt : k < m) (hd : Nat.blt d st.n = true)
    (h : X rest (st.put d (.vptr b m (k * size)))) : X (⟨some d, .indexAddr t x i, ty, pos, af, none⟩ :: rest) st :=
  ao_index_v k hx hH (by rw [flat_len J.len, hn]) hi hk hlt hd h
theorem ao_load_vf0 [W : Walk P X] {α : Type} {enc : α → List CV} {x : Operand} {t b m q k E size : Nat} {l : List α} {r : α} {y : CV} {ys : List CV} [I : TyC P t false q] (hx : st.ev x = some (.vptr b m (k * size))) (hH : st.H b = some (.vec E size (l.flatMap enc))) (J : EncL enc size) (hn : l.length = m) (hr : l[k]? = some r) (hy : enc r = y :: ys) (hd : Nat.blt d st.n = true) (h : X rest (st.put d (.c y))) : X (⟨some d, .load t x, ty, pos, af, none⟩ :: rest) st := by
  obtain ⟨hk, rfl⟩ := List.getElem?_eq_some_iff.1 hr
  exact ao_load_v hx hH (by rw [flat_len J.len, hn]) (by rw [drop_at J l k hk, hy]; rfl) hd h
theorem cell_new (w : World) (c : Array Value) (t : TypeId) (k : Nat) : (w.alloc (.cells c t)).cell? ⟨w.heap.size, k, none⟩ = c[k]? := by
  have h : (w.alloc (.cells c t)).heap[w.heap.size]? = some (.cells c t) := alloc_new _ _
  unfold World.cell?
  dsimp only
  rw [h]
  rfl
theorem ao_litq [W : Walk P X] {t E size bytes len : Nat} [I : SlT P t E size bytes] {parts : List (Nat × Operand)} {ps : List (Nat × AV)} {zs : List CV} (hp : evp st parts = some ps) (hi : ps.map (·.1) = List.range len) (hz : lits (ps.map (·.2)) = some zs) (hb : litB size (ps.map (·.2)) = true) (hl : Nat.ble 1 len = true) (hs2 : Nat.ble (len * size) 100000 = true) (hd : Nat.blt d st.n = true)
    (h : X rest (st.put d (.c (.lst size zs)))) : X (⟨some d, .buildSlice t len parts.toArray, ty, pos, af, none⟩ :: rest) st := by
  refine W.step rfl rfl hd (fun base w0 M a hs K Q hK => ?_) h
  obtain ⟨i, z, f1, f2, f3, f4, f5, f6⟩ := I.out
  obtain ⟨e1, e2⟩ := evp_get hp
  have hl := Nat.le_of_ble_eq_true hl
  have hs2 := Nat.le_of_ble_eq_true hs2
  have hplen : ps.length = len := by
    have := congrArg List.length hi
    simpa using this
  let vs : List Value := parts.map fun q => a.eval q.2
  have hvl : vs.length = len := by show (parts.map _).length = _; simp; omega
  have hra : ∀ (k : Nat) (y : AV) (v : Value), (ps.map (·.2))[k]? = some y → vs[k]? = some v → RA M y v := fun k y v hy hv => by
    obtain ⟨p, g1, rfl⟩ : ∃ p, ps[k]? = some p ∧ p.2 = y := by simpa using hy
    obtain ⟨q, g2, rfl⟩ : ∃ q, parts[k]? = some q ∧ a.eval q.2 = v := by simpa [vs] using hv
    exact hs.ev (by simp [Op.operands]; exact ⟨q.1, List.mem_of_getElem? g2⟩) (e2 k p q g1 g2).2
  obtain ⟨c1, c2, c3, c4⟩ := lits_get I.pos hz hb (by simp; omega) hra
  have hparts : (parts.map fun q => (q.1, a.eval q.2)) = (vs.zipIdx 0).map fun x => (x.2, x.1) := by
    apply List.ext_getElem?
    intro k
    simp only [List.getElem?_map, List.getElem?_zipIdx, vs]
    cases hk : parts[k]? with
    | none => simp
    | some q =>
      have hk' : k < parts.length := (List.getElem?_eq_some_iff.1 hk).1
      obtain ⟨p, hpk⟩ : ∃ p, ps[k]? = some p := ⟨_, List.getElem?_eq_getElem (by omega)⟩
      have h1 := (e2 k p q hpk hk).1
      have h2 : (ps.map (·.1))[k]? = some p.1 := by simp [hpk]
      rw [hi] at h2
      have h3 : k = p.1 := by
        have : k < len := by omega
        simpa [this] using h2
      simp [← h1, ← h3]
  have hfill := Great.fill_whole I.pos vs ((Array.range (len * size)).map (z.cells[· % z.cells.size]!)) c3 (by simp [hvl])
  have hne : len * size ≠ 0 := by
    have := I.pos
    exact Nat.mul_ne_zero (by omega) (by omega)
  have hrun : (execOp a.eval ⟨some d, .buildSlice t len parts.toArray, ty, pos, af, none⟩).run P M.w = .ok (.value (.slice (some ⟨M.w.heap.size, 0, none⟩) len len)) (M.w.alloc (.cells (vs.flatMap fun v => v.cells.toList).toArray E)) := by
    simp only [execOp]
    rw [Sem.run_bind, run_buildSlice (P := P) M.w t E len _ _ i z f1 f2 f3 (by rw [f4]; omega) (by rw [f4]; exact hne) (by rw [f4, show (Array.map (fun x : Nat × Operand => (x.fst, a.eval x.snd)) parts.toArray).toList = parts.map fun q => (q.1, a.eval q.2) from by simp, hparts]; exact hfill)]
    rfl
  have hb : Below M.w.heap.size M.w (M.w.alloc (.cells (vs.flatMap fun v => v.cells.toList).toArray E)) := (Below.refl _ _).alloc (Nat.le_refl _) _
  unfold Oper.wp
  rw [hrun]
  have hext := Ext.after hb hs.sim.heap.frz
  refine hK _ (M.after _) hext (fun s hs' => hs'.after hb) (.c (.lst (fun k => (vs.flatMap fun v => v.cells.toList).getD k undef) (by rw [c1, hvl]) (Nat.le_refl _) (.inr ⟨Nat.le_refl _, by simp [World.alloc]⟩) (fun k x hk => ?_) (fun k x hk => ?_)))
  · have hkl : k < (vs.flatMap fun v => v.cells.toList).length := by
      have := (List.getElem?_eq_some_iff.1 hk).1
      omega
    show (M.w.alloc _).cell? _ = _
    rw [cell_new, List.getD_eq_getElem?_getD, List.getElem?_eq_getElem hkl, Nat.zero_add]
    simp only [List.getElem?_toArray, List.getElem?_eq_getElem hkl, Option.getD_some]
  · have hkl : k < (vs.flatMap fun v => v.cells.toList).length := by
      have := (List.getElem?_eq_some_iff.1 hk).1
      omega
    have := c4 k x _ hk (List.getElem?_eq_getElem hkl)
    rw [List.getD_eq_getElem?_getD, List.getElem?_eq_getElem hkl]
    exact this.mono hext.F
end
end Go.Proofs.Ythkjkhffljlidaa.Ev
/- Rules of a walk: regions that draw their order and make one box. Nothing here names a program. -/
namespace Go.Proofs.Ythkjkhffljlidaa.Ev
set_option linter.unusedVariables false
set_option linter.unusedSimpArgs false
open Go.RowKit
section
variable {P : Program} {ops : Array Oper}
def AOp (P : Program) (o : Oper) (d : Nat) (x : AB) : Prop :=
  o.guard = none ∧ o.dst = some d ∧ ∀ (st : St) base w0 M a, Sim base w0 st M a → ∃ (u : Value) (c : Conc) (arr : Array Value) (t : TypeId), (execOp a.eval o).run P M.w = .ok (.value u) (M.w.alloc (.cells arr t)) ∧ Sim base w0 (st.new x) (M.new st x c (.cells arr t)) a ∧ RA (M.new st x c (.cells arr t)) (.ptr st.nx 0) u
inductive DG (P : Program) (ops : Array Oper) (o : Oper) (st : St) : St → Prop
  | q {d : Nat} {y : AV} (h : DY P ops o st d y) : DG P ops o st (st.put d y)
  | a {d : Nat} {x : AB} (h : AOp P o d x) (hd : Nat.blt d st.n = true) : DG P ops o st ((st.new x).put d (.ptr st.nx 0))
theorem StEq.new {s t : St} (h : StEq s t) (x : AB) : StEq (s.new x) (t.new x) :=
  ⟨h.n, by simp only [St.new]; rw [h.heap, h.nx], by simp only [St.new]; rw [h.nx], h.gl, h.env⟩
theorem DG.eq {o : Oper} {s t s' : St} (h : DG P ops o s s') (e : StEq s t) : ∃ t', DG P ops o t t' ∧ StEq s' t' := by
  cases h with
  | q h => exact ⟨_, .q (h.eq e), e.put _ _⟩
  | a h hd => exact ⟨_, .a h (by rw [← e.n]; exact hd), by rw [e.nx]; exact (e.new _).put _ _⟩
def Fr (st : St) : Prop := ∀ b, st.nx ≤ b → st.H b = none
theorem Fr.put {st : St} (h : Fr st) (d : Nat) (y : AV) : Fr (st.put d y) := h
theorem Fr.new {st : St} (h : Fr st) (x : AB) : Fr (st.new x) := fun b hb => by
  have : st.nx + 1 ≤ b := hb
  rw [H_new, if_neg (by omega)]; exact h b (by omega)
theorem DY.new {o : Oper} {s : St} {d : Nat} {y : AV} (h : DY P ops o s d y) (hf : Fr s) (x : AB) : DY P ops o (s.new x) d y :=
  h.of rfl (fun b z hz => by
    rw [H_new, if_neg]
    · exact hz
    · intro e; subst e
      rw [hf _ (Nat.le_refl _)] at hz; cases hz) rfl (fun x _ => by cases x <;> rfl) (fun _ _ _ _ _ => rfl)
def DAny2 (P : Program) (md : Region.Mode) (ops : Array Oper) (n : Nat) (L : Array Bool → St → Prop) : Nat → Array Bool → St → Prop
  | 0, listed, st => L listed st
  | f + 1, listed, st => Region.ready md ops listed ≠ [] ∧ ∀ i ∈ Region.ready md ops listed, i < n ∧ ∃ o st', ops[i]? = some o ∧ DG P ops o st st' ∧ DAny2 P md ops n L f (listed.setIfInBounds i true) st'
variable {md : Region.Mode} {n : Nat} {L : Array Bool → St → Prop}
theorem DAny2.eq (hL : ∀ listed s t, StEq s t → L listed s → L listed t) : ∀ (f : Nat) (listed : Array Bool) (s t : St), StEq s t → DAny2 P md ops n L f listed s → DAny2 P md ops n L f listed t
  | 0, listed, s, t, e, h => hL listed s t e h
  | f + 1, listed, s, t, e, h => ⟨h.1, fun i hi => by
    obtain ⟨h1, o, s', h2, h3, h4⟩ := h.2 i hi
    obtain ⟨t', h5, h6⟩ := h3.eq e
    exact ⟨h1, o, t', h2, h5, DAny2.eq hL f _ _ _ h6 h4⟩⟩
theorem DG.wp {base : Nat} {w0 : W0} {st st' : St} {M : Wd} {a : Act} {i : Nat} {o : Oper} {K : Act → World → Prop} {Q' : Exit → Act → World → Prop} (hi : ops[i]? = some o) (h : DG P ops o st st') (hs : Sim base w0 st M a)
    (hK : ∀ M' a', Ext M M' → Sim base w0 st' M' a' → K a' M'.w) : wpOp P ops Q' i K a M.w := by
  cases h with
  | q h => exact h.wp hi hs hK
  | @a d x h hd =>
    obtain ⟨g, hdst, hrun⟩ := h
    obtain ⟨u, c, arr, t, e1, e2, e3⟩ := hrun st base w0 M a hs
    unfold wpOp
    simp only [hi]
    rw [if_pos (by simp [Region.wanted, g])]
    refine .inl ?_
    unfold Oper.wp
    rw [e1]
    have := hK (M.new st x c (.cells arr t)) (a.put o.dst u) (hs.extNew x c _) (by rw [hdst]; exact e2.put hd e3)
    exact this
end
end Go.Proofs.Ythkjkhffljlidaa.Ev
/- The rules of a walk, over states that are written out. Nothing here names a program. -/
namespace Go.Proofs.Ythkjkhffljlidaa.Ev
set_option linter.unusedVariables false
set_option linter.unusedSimpArgs false
open Go.RowKit
section
variable {P : Program} {ops : Array Oper} {Q : Exit → St → Prop} {X : List Oper → St → Prop} {rest : List Oper} {d : Nat} {ty : TypeId} {pos : String} {af : Array Edge} {n : Nat} {env : List (Nat × AV)} {heap : List (Nat × Option AB)} {nx : Nat} {gl : List (Nat × List CV)}
theorem r_move [W : Walk P X] {x : Operand} {y : AV} (hx : St.ev ⟨n, env, heap, nx, gl⟩ x = some y) (hd : Nat.blt d n = true) (h : X rest ⟨n, (d, y) :: env, heap, nx, gl⟩) : X (⟨some d, .move x, ty, pos, af, none⟩ :: rest) ⟨n, env, heap, nx, gl⟩ :=
  ao_move (st := ⟨n, env, heap, nx, gl⟩) hx hd h
theorem r_assign [W : Walk P X] {x : Operand} {y : AV} (hx : St.ev ⟨n, env, heap, nx, gl⟩ x = some y) (hd : Nat.blt d n = true) (h : X rest ⟨n, (d, y) :: env, heap, nx, gl⟩) : X (⟨some d, .assign x, ty, pos, af, none⟩ :: rest) ⟨n, env, heap, nx, gl⟩ :=
  ao_assign (st := ⟨n, env, heap, nx, gl⟩) hx hd h
theorem r_pick_t [W : Walk P X] {c x y : Operand} {z : AV} (hc : St.ev ⟨n, env, heap, nx, gl⟩ c = some (.c (.v (.bool true)))) (hx : St.ev ⟨n, env, heap, nx, gl⟩ x = some z) (hd : Nat.blt d n = true) (h : X rest ⟨n, (d, z) :: env, heap, nx, gl⟩) : X (⟨some d, .pick c x y, ty, pos, af, none⟩ :: rest) ⟨n, env, heap, nx, gl⟩ :=
  ao_pick_t (st := ⟨n, env, heap, nx, gl⟩) hc hx hd h
theorem r_pick_f [W : Walk P X] {c x y : Operand} {z : AV} (hc : St.ev ⟨n, env, heap, nx, gl⟩ c = some (.c (.v (.bool false)))) (hy : St.ev ⟨n, env, heap, nx, gl⟩ y = some z) (hd : Nat.blt d n = true) (h : X rest ⟨n, (d, z) :: env, heap, nx, gl⟩) : X (⟨some d, .pick c x y, ty, pos, af, none⟩ :: rest) ⟨n, env, heap, nx, gl⟩ :=
  ao_pick_f (st := ⟨n, env, heap, nx, gl⟩) hc hy hd h
theorem r_not [W : Walk P X] {x : Operand} {t : TypeId} {b : Bool} (hx : St.ev ⟨n, env, heap, nx, gl⟩ x = some (.c (.v (.bool b)))) (hd : Nat.blt d n = true) (h : X rest ⟨n, (d, (.c (.v (.bool !b)))) :: env, heap, nx, gl⟩) : X (⟨some d, .unOp .not t x, ty, pos, af, none⟩ :: rest) ⟨n, env, heap, nx, gl⟩ :=
  ao_not (st := ⟨n, env, heap, nx, gl⟩) hx hd h
theorem r_extract [W : Walk P X] {x : Operand} {i : Nat} {xs : List AV} {y : AV} (hx : St.ev ⟨n, env, heap, nx, gl⟩ x = some (.tup xs)) (hi : xs[i]? = some y) (hd : Nat.blt d n = true) (h : X rest ⟨n, (d, y) :: env, heap, nx, gl⟩) : X (⟨some d, .extract x i, ty, pos, af, none⟩ :: rest) ⟨n, env, heap, nx, gl⟩ :=
  ao_extract (st := ⟨n, env, heap, nx, gl⟩) hx hi hd h
theorem r_lss [W : Walk P X] {x y : Operand} {t t2 : TypeId} {k : IntKind} {a b : Int} (hx : St.ev ⟨n, env, heap, nx, gl⟩ x = some (.c (.v (.int k a)))) (hy : St.ev ⟨n, env, heap, nx, gl⟩ y = some (.c (.v (.int k b)))) (hd : Nat.blt d n = true) (h : X rest ⟨n, (d, (.c (.v (.bool (decide (a < b)))))) :: env, heap, nx, gl⟩) : X (⟨some d, .binOp .lss t x y t2, ty, pos, af, none⟩ :: rest) ⟨n, env, heap, nx, gl⟩ :=
  ao_lss (st := ⟨n, env, heap, nx, gl⟩) hx hy hd h
theorem r_leq [W : Walk P X] {x y : Operand} {t t2 : TypeId} {k : IntKind} {a b : Int} (hx : St.ev ⟨n, env, heap, nx, gl⟩ x = some (.c (.v (.int k a)))) (hy : St.ev ⟨n, env, heap, nx, gl⟩ y = some (.c (.v (.int k b)))) (hd : Nat.blt d n = true) (h : X rest ⟨n, (d, (.c (.v (.bool (decide (a ≤ b)))))) :: env, heap, nx, gl⟩) : X (⟨some d, .binOp .leq t x y t2, ty, pos, af, none⟩ :: rest) ⟨n, env, heap, nx, gl⟩ :=
  ao_leq (st := ⟨n, env, heap, nx, gl⟩) hx hy hd h
theorem r_gtr [W : Walk P X] {x y : Operand} {t t2 : TypeId} {k : IntKind} {a b : Int} (hx : St.ev ⟨n, env, heap, nx, gl⟩ x = some (.c (.v (.int k a)))) (hy : St.ev ⟨n, env, heap, nx, gl⟩ y = some (.c (.v (.int k b)))) (hd : Nat.blt d n = true) (h : X rest ⟨n, (d, (.c (.v (.bool (decide (a > b)))))) :: env, heap, nx, gl⟩) : X (⟨some d, .binOp .gtr t x y t2, ty, pos, af, none⟩ :: rest) ⟨n, env, heap, nx, gl⟩ :=
  ao_gtr (st := ⟨n, env, heap, nx, gl⟩) hx hy hd h
theorem r_geq [W : Walk P X] {x y : Operand} {t t2 : TypeId} {k : IntKind} {a b : Int} (hx : St.ev ⟨n, env, heap, nx, gl⟩ x = some (.c (.v (.int k a)))) (hy : St.ev ⟨n, env, heap, nx, gl⟩ y = some (.c (.v (.int k b)))) (hd : Nat.blt d n = true) (h : X rest ⟨n, (d, (.c (.v (.bool (decide (a ≥ b)))))) :: env, heap, nx, gl⟩) : X (⟨some d, .binOp .geq t x y t2, ty, pos, af, none⟩ :: rest) ⟨n, env, heap, nx, gl⟩ :=
  ao_geq (st := ⟨n, env, heap, nx, gl⟩) hx hy hd h
theorem r_eql [W : Walk P X] {x y : Operand} {t t2 : TypeId} {k : IntKind} {a b : Int} (hx : St.ev ⟨n, env, heap, nx, gl⟩ x = some (.c (.v (.int k a)))) (hy : St.ev ⟨n, env, heap, nx, gl⟩ y = some (.c (.v (.int k b)))) (hd : Nat.blt d n = true) (h : X rest ⟨n, (d, (.c (.v (.bool (decide (a = b)))))) :: env, heap, nx, gl⟩) : X (⟨some d, .binOp .eql t x y t2, ty, pos, af, none⟩ :: rest) ⟨n, env, heap, nx, gl⟩ :=
  ao_eql (st := ⟨n, env, heap, nx, gl⟩) hx hy hd h
theorem r_neq [W : Walk P X] {x y : Operand} {t t2 : TypeId} {k : IntKind} {a b : Int} (hx : St.ev ⟨n, env, heap, nx, gl⟩ x = some (.c (.v (.int k a)))) (hy : St.ev ⟨n, env, heap, nx, gl⟩ y = some (.c (.v (.int k b)))) (hd : Nat.blt d n = true) (h : X rest ⟨n, (d, (.c (.v (.bool (!decide (a = b)))))) :: env, heap, nx, gl⟩) : X (⟨some d, .binOp .neq t x y t2, ty, pos, af, none⟩ :: rest) ⟨n, env, heap, nx, gl⟩ :=
  ao_neq (st := ⟨n, env, heap, nx, gl⟩) hx hy hd h
theorem r_add [W : Walk P X] {x y : Operand} {t t2 : TypeId} {a b : Int} (hx : St.ev ⟨n, env, heap, nx, gl⟩ x = some (.c (.v (.int .i64 a)))) (hy : St.ev ⟨n, env, heap, nx, gl⟩ y = some (.c (.v (.int .i64 b)))) (hf : fits (a + b)) (hd : Nat.blt d n = true) (h : X rest ⟨n, (d, (.c (.v (.int .i64 (a + b))))) :: env, heap, nx, gl⟩) : X (⟨some d, .binOp .add t x y t2, ty, pos, af, none⟩ :: rest) ⟨n, env, heap, nx, gl⟩ :=
  ao_add (st := ⟨n, env, heap, nx, gl⟩) hx hy hf hd h
theorem r_add_w [W : Walk P X] {x y : Operand} {t t2 : TypeId} {k : IntKind} {a b : Int} (hx : St.ev ⟨n, env, heap, nx, gl⟩ x = some (.c (.v (.int k a)))) (hy : St.ev ⟨n, env, heap, nx, gl⟩ y = some (.c (.v (.int k b)))) (hd : Nat.blt d n = true) (h : X rest ⟨n, (d, (.c (.v (.int k (k.wrap (a + b)))))) :: env, heap, nx, gl⟩) : X (⟨some d, .binOp .add t x y t2, ty, pos, af, none⟩ :: rest) ⟨n, env, heap, nx, gl⟩ :=
  ao_add_w (st := ⟨n, env, heap, nx, gl⟩) hx hy hd h
theorem r_sub [W : Walk P X] {x y : Operand} {t t2 : TypeId} {a b : Int} (hx : St.ev ⟨n, env, heap, nx, gl⟩ x = some (.c (.v (.int .i64 a)))) (hy : St.ev ⟨n, env, heap, nx, gl⟩ y = some (.c (.v (.int .i64 b)))) (hf : fits (a - b)) (hd : Nat.blt d n = true) (h : X rest ⟨n, (d, (.c (.v (.int .i64 (a - b))))) :: env, heap, nx, gl⟩) : X (⟨some d, .binOp .sub t x y t2, ty, pos, af, none⟩ :: rest) ⟨n, env, heap, nx, gl⟩ :=
  ao_sub (st := ⟨n, env, heap, nx, gl⟩) hx hy hf hd h
theorem r_sub_w [W : Walk P X] {x y : Operand} {t t2 : TypeId} {k : IntKind} {a b : Int} (hx : St.ev ⟨n, env, heap, nx, gl⟩ x = some (.c (.v (.int k a)))) (hy : St.ev ⟨n, env, heap, nx, gl⟩ y = some (.c (.v (.int k b)))) (hd : Nat.blt d n = true) (h : X rest ⟨n, (d, (.c (.v (.int k (k.wrap (a - b)))))) :: env, heap, nx, gl⟩) : X (⟨some d, .binOp .sub t x y t2, ty, pos, af, none⟩ :: rest) ⟨n, env, heap, nx, gl⟩ :=
  ao_sub_w (st := ⟨n, env, heap, nx, gl⟩) hx hy hd h
theorem r_mul [W : Walk P X] {x y : Operand} {t t2 : TypeId} {a b : Int} (hx : St.ev ⟨n, env, heap, nx, gl⟩ x = some (.c (.v (.int .i64 a)))) (hy : St.ev ⟨n, env, heap, nx, gl⟩ y = some (.c (.v (.int .i64 b)))) (hf : fits (a * b)) (hd : Nat.blt d n = true) (h : X rest ⟨n, (d, (.c (.v (.int .i64 (a * b))))) :: env, heap, nx, gl⟩) : X (⟨some d, .binOp .mul t x y t2, ty, pos, af, none⟩ :: rest) ⟨n, env, heap, nx, gl⟩ :=
  ao_mul (st := ⟨n, env, heap, nx, gl⟩) hx hy hf hd h
theorem r_quo [W : Walk P X] {x y : Operand} {t t2 : TypeId} {a b : Int} (hx : St.ev ⟨n, env, heap, nx, gl⟩ x = some (.c (.v (.int .i64 a)))) (hy : St.ev ⟨n, env, heap, nx, gl⟩ y = some (.c (.v (.int .i64 b)))) (h0 : b ≠ 0) (hf : fits (a.tdiv b)) (hd : Nat.blt d n = true) (h : X rest ⟨n, (d, (.c (.v (.int .i64 (a.tdiv b))))) :: env, heap, nx, gl⟩) : X (⟨some d, .binOp .quo t x y t2, ty, pos, af, none⟩ :: rest) ⟨n, env, heap, nx, gl⟩ :=
  ao_quo (st := ⟨n, env, heap, nx, gl⟩) hx hy h0 hf hd h
theorem r_rem [W : Walk P X] {x y : Operand} {t t2 : TypeId} {a b : Int} (hx : St.ev ⟨n, env, heap, nx, gl⟩ x = some (.c (.v (.int .i64 a)))) (hy : St.ev ⟨n, env, heap, nx, gl⟩ y = some (.c (.v (.int .i64 b)))) (h0 : b ≠ 0) (hd : Nat.blt d n = true) (h : X rest ⟨n, (d, (.c (.v (.int .i64 (a.tmod b))))) :: env, heap, nx, gl⟩) : X (⟨some d, .binOp .rem t x y t2, ty, pos, af, none⟩ :: rest) ⟨n, env, heap, nx, gl⟩ :=
  ao_rem (st := ⟨n, env, heap, nx, gl⟩) hx hy h0 hd h
theorem r_min [W : Walk P X] {x y : Operand} {ts : Array TypeId} {k : IntKind} {a b : Int} (hx : St.ev ⟨n, env, heap, nx, gl⟩ x = some (.c (.v (.int k a)))) (hy : St.ev ⟨n, env, heap, nx, gl⟩ y = some (.c (.v (.int k b)))) (hd : Nat.blt d n = true) (h : X rest ⟨n, (d, (.c (.v (.int k (min a b))))) :: env, heap, nx, gl⟩) : X (⟨some d, .call ⟨.builtin .min, #[x, y], ts⟩, ty, pos, af, none⟩ :: rest) ⟨n, env, heap, nx, gl⟩ :=
  ao_min (st := ⟨n, env, heap, nx, gl⟩) hx hy hd h
theorem r_guard {dst : Option Tmp} {op : Op} {j t : Nat} {want b : Bool} (hj : (ops[j]?).bind (·.dst) = some t) (hb : look t env = some (.c (.v (.bool b)))) (hdst : dst = some d) (hd : Nat.blt d n = true) (h : b = want → AOps P ops Q (⟨dst, op, ty, pos, af, none⟩ :: rest) ⟨n, (t, (.c (.v (.bool want)))) :: env, heap, nx, gl⟩) (h' : b = !want → AOps P ops Q rest ⟨n, (d, (.c (.v undef))) :: (t, (.c (.v (.bool !want)))) :: env, heap, nx, gl⟩) : AOps P ops Q (⟨dst, op, ty, pos, af, some (j, want)⟩ :: rest) ⟨n, env, heap, nx, gl⟩ :=
  ao_guard (st := ⟨n, env, heap, nx, gl⟩) hj hb hdst hd h h'
theorem r_guard_none {dst : Option Tmp} {op : Op} {j t : Nat} {want : Bool} (hj : (ops[j]?).bind (·.dst) = some t) (hb : look t env = some (.c (.v undef))) (hdst : dst = some d) (hd : Nat.blt d n = true) (h : AOps P ops Q rest ⟨n, (d, (.c (.v undef))) :: env, heap, nx, gl⟩) : AOps P ops Q (⟨dst, op, ty, pos, af, some (j, want)⟩ :: rest) ⟨n, env, heap, nx, gl⟩ :=
  ao_guard_none (st := ⟨n, env, heap, nx, gl⟩) hj hb hdst hd h
theorem r_field_p [W : Walk P X] {x : Operand} {s i k b off : Nat} [I : FieldAt P s i k] (hx : St.ev ⟨n, env, heap, nx, gl⟩ x = some (.ptr b off)) (hd : Nat.blt d n = true) (h : X rest ⟨n, (d, (.ptr b (off + k))) :: env, heap, nx, gl⟩) : X (⟨some d, .fieldAddr s x i, ty, pos, af, none⟩ :: rest) ⟨n, env, heap, nx, gl⟩ :=
  ao_field_p (st := ⟨n, env, heap, nx, gl⟩) hx hd h
theorem r_load_p [W : Walk P X] {x : Operand} {t b off n' : Nat} {t' : TypeId} {l : List AV} {y : AV} [I : TyC P t false n'] (hx : St.ev ⟨n, env, heap, nx, gl⟩ x = some (.ptr b off)) (hH : St.H ⟨n, env, heap, nx, gl⟩ b = some (.cells t' l)) (hy : l[off]? = some y) (hd : Nat.blt d n = true) (h : X rest ⟨n, (d, y) :: env, heap, nx, gl⟩) : X (⟨some d, .load t x, ty, pos, af, none⟩ :: rest) ⟨n, env, heap, nx, gl⟩ :=
  ao_load_p (st := ⟨n, env, heap, nx, gl⟩) hx hH hy hd h
theorem r_box_a {x : Operand} {t : TypeId} {ys : List AV} (hx : St.ev ⟨n, env, heap, nx, gl⟩ x = some (.agg ys)) (hd : Nat.blt d n = true) (h : AOps P ops Q rest ⟨n, (d, (.ptr nx 0)) :: env, (nx, some (.cells t ys)) :: heap, nx + 1, gl⟩) : AOps P ops Q (⟨some d, .box t x, ty, pos, af, none⟩ :: rest) ⟨n, env, heap, nx, gl⟩ :=
  ao_box_a (st := ⟨n, env, heap, nx, gl⟩) hx hd h
theorem r_alloc {t : TypeId} {zs : List Value} [I : ZeroT P t zs] (hd : Nat.blt d n = true) (h : AOps P ops Q rest ⟨n, (d, (.ptr nx 0)) :: env, (nx, some (.cells t (zs.map fun z => .c (.v z)))) :: heap, nx + 1, gl⟩) : AOps P ops Q (⟨some d, .alloc t, ty, pos, af, none⟩ :: rest) ⟨n, env, heap, nx, gl⟩ :=
  ao_alloc (st := ⟨n, env, heap, nx, gl⟩) hd h
theorem r_call {X : List Oper → St → Prop} [W : Walk P X] {f : FuncId} {args : List Operand} {tys : Array TypeId} {ys : List AV} {zs : List CV} {r : CV} {y : AV} (hys : evs ⟨n, env, heap, nx, gl⟩ args = some ys) (hz0 : clF.clFL ys = some zs) (hcon : Con P gl f zs r) (hy : ofC r = y) (hd : Nat.blt d n = true) (h : X rest ⟨n, (d, y) :: env, heap, nx, gl⟩) : X (⟨some d, .call ⟨.value (.func f), args.toArray, tys⟩, ty, pos, af, none⟩ :: rest) ⟨n, env, heap, nx, gl⟩ :=
  ao_call (st := ⟨n, env, heap, nx, gl⟩) hys hz0 hcon hy hd h
theorem r_index_f [W : Walk P X] {α : Type} {enc : α → List CV} {x i : Operand} {t E size bytes : Nat} [I : SlT P t E size bytes] {l : List α} {kk : IntKind} {idx : Int} (k : Nat) (hx : St.ev ⟨n, env, heap, nx, gl⟩ x = some (.c (.lst size (l.flatMap enc)))) (J : EncL enc size) (hi : St.ev ⟨n, env, heap, nx, gl⟩ i = some (.c (.v (.int kk idx)))) (hk : idx = (k : Int)) (hlt : k < l.length) (hd : Nat.blt d n = true) (h : X rest ⟨n, (d, (.eptr (l.flatMap enc) (k * size))) :: env, heap, nx, gl⟩) : X (⟨some d, .indexAddr t x i, ty, pos, af, none⟩ :: rest) ⟨n, env, heap, nx, gl⟩ :=
  ao_index_f (st := ⟨n, env, heap, nx, gl⟩) k hx J hi hk hlt hd h
theorem r_load_f0 [W : Walk P X] {α : Type} {enc : α → List CV} {x : Operand} {t n' size k : Nat} {l : List α} {r : α} {y : CV} {ys : List CV} [I : TyC P t false n'] (hx : St.ev ⟨n, env, heap, nx, gl⟩ x = some (.eptr (l.flatMap enc) (k * size))) (J : EncL enc size) (hr : l[k]? = some r) (hy : enc r = y :: ys) (hd : Nat.blt d n = true) (h : X rest ⟨n, (d, (.c y)) :: env, heap, nx, gl⟩) : X (⟨some d, .load t x, ty, pos, af, none⟩ :: rest) ⟨n, env, heap, nx, gl⟩ :=
  ao_load_f0 (st := ⟨n, env, heap, nx, gl⟩) hx J hr hy hd h
theorem r_len_f [W : Walk P X] {α : Type} {enc : α → List CV} {x : Operand} {t E size bytes : Nat} [I : SlT P t E size bytes] {l : List α} (hx : St.ev ⟨n, env, heap, nx, gl⟩ x = some (.c (.lst size (l.flatMap enc)))) (J : EncL enc size) (hd : Nat.blt d n = true) (h : X rest ⟨n, (d, (.c (.v (.int .i64 (l.length : Int))))) :: env, heap, nx, gl⟩) : X (⟨some d, .call ⟨.builtin .len, #[x], #[t]⟩, ty, pos, af, none⟩ :: rest) ⟨n, env, heap, nx, gl⟩ :=
  ao_len_f (st := ⟨n, env, heap, nx, gl⟩) hx J hd h
theorem r_len_nil [W : Walk P X] {x : Operand} {t E size bytes : Nat} [I : SlT P t E size bytes] (hx : St.ev ⟨n, env, heap, nx, gl⟩ x = some (.c (.v (.slice none 0 0)))) (hd : Nat.blt d n = true) (h : X rest ⟨n, (d, (.c (.v (.int .i64 0)))) :: env, heap, nx, gl⟩) : X (⟨some d, .call ⟨.builtin .len, #[x], #[t]⟩, ty, pos, af, none⟩ :: rest) ⟨n, env, heap, nx, gl⟩ :=
  ao_len_nil (st := ⟨n, env, heap, nx, gl⟩) hx hd h
theorem r_len_v [W : Walk P X] {x : Operand} {t E E' size size' bytes b n' : Nat} [I : SlT P t E size bytes] {xs : List CV} (hx : St.ev ⟨n, env, heap, nx, gl⟩ x = some (.vec b n')) (hH : St.H ⟨n, env, heap, nx, gl⟩ b = some (.vec E' size' xs)) (hn : xs.length = n' * size') (hd : Nat.blt d n = true) (h : X rest ⟨n, (d, (.c (.v (.int .i64 (n' : Int))))) :: env, heap, nx, gl⟩) : X (⟨some d, .call ⟨.builtin .len, #[x], #[t]⟩, ty, pos, af, none⟩ :: rest) ⟨n, env, heap, nx, gl⟩ :=
  ao_len_v (st := ⟨n, env, heap, nx, gl⟩) hx hH hn hd h
theorem r_build [W : Walk P X] {t : TypeId} {parts : List (Nat × Operand)} {pl : List (Nat × Nat)} {zs : List Value} {ps : List (Nat × AV)} {out : List AV} [I : StrT P t pl zs] (hp : evp ⟨n, env, heap, nx, gl⟩ parts = some ps) (hf : fillA pl (zs.map fun z => .c (.v z)) ps = some out) (hd : Nat.blt d n = true) (h : X rest ⟨n, (d, (.agg out)) :: env, heap, nx, gl⟩) : X (⟨some d, .build t parts.toArray, ty, pos, af, none⟩ :: rest) ⟨n, env, heap, nx, gl⟩ :=
  ao_build (st := ⟨n, env, heap, nx, gl⟩) hp hf hd h
theorem rd_guard {L : St → Prop} {rest : List Oper} {d : Nat} {op : Op} {ty : TypeId} {pos : String} {af : Array Edge} {j t : Nat} {want b : Bool} (hj : (ops[j]?).bind (·.dst) = some t) (hb : look t env = some (.c (.v (.bool b)))) (hd : Nat.blt d n = true) (h : b = want → DSeq P ops L (⟨some d, op, ty, pos, af, none⟩ :: rest) ⟨n, env, heap, nx, gl⟩) (h' : b = !want → DSeq P ops L rest ⟨n, (d, (.c (.v undef))) :: env, heap, nx, gl⟩) : DSeq P ops L (⟨some d, op, ty, pos, af, some (j, want)⟩ :: rest) ⟨n, env, heap, nx, gl⟩ :=
  ds_guard (st := ⟨n, env, heap, nx, gl⟩) hj hb hd h h'
theorem rd_guard_n {L : St → Prop} {rest : List Oper} {d : Nat} {op : Op} {ty : TypeId} {pos : String} {af : Array Edge} {j t : Nat} {want : Bool} (hj : (ops[j]?).bind (·.dst) = some t) (hb : look t env = some (.c (.v undef))) (hd : Nat.blt d n = true) (h : DSeq P ops L rest ⟨n, (d, (.c (.v undef))) :: env, heap, nx, gl⟩) : DSeq P ops L (⟨some d, op, ty, pos, af, some (j, want)⟩ :: rest) ⟨n, env, heap, nx, gl⟩ :=
  ds_guard_n (st := ⟨n, env, heap, nx, gl⟩) hj hb hd h
theorem r_appendl {α : Type} {enc : α → List CV} {s x : Operand} {t E size bytes b n' : Nat} [I : SlT P t E size bytes] {l l2 : List α} (hs0 : St.ev ⟨n, env, heap, nx, gl⟩ s = some (.vec b n')) (hH : St.H ⟨n, env, heap, nx, gl⟩ b = some (.vec E size (l.flatMap enc))) (J : EncL enc size) (hn : l.length = n') (hx : St.ev ⟨n, env, heap, nx, gl⟩ x = some (.c (.lst size (l2.flatMap enc)))) (hb1 : n' + l2.length < 1000000000000) (hb2 : (n' + l2.length) * bytes ≤ 140737488355328) (hd : Nat.blt d n = true) (h : AOps P ops Q rest ⟨n, (d, (.vec b (n' + l2.length))) :: env, (b, some (.vec E size ((l ++ l2).flatMap enc))) :: heap, nx, gl⟩) : AOps P ops Q (⟨some d, .call ⟨.builtin .append, #[s, x], #[t, t]⟩, ty, pos, af, none⟩ :: rest) ⟨n, env, heap, nx, gl⟩ :=
  ao_appendl (st := ⟨n, env, heap, nx, gl⟩) hs0 hH J hn hx hb1 hb2 hd h
theorem r_lit {t E size bytes len : Nat} [I : SlT P t E size bytes] {parts : List (Nat × Operand)} {ps : List (Nat × AV)} {zs : List CV} (hp : evp ⟨n, env, heap, nx, gl⟩ parts = some ps) (hi : ps.map (·.1) = List.range len) (hz : lits (ps.map (·.2)) = some zs) (hb : litB size (ps.map (·.2)) = true) (hl : Nat.ble 1 len = true) (hs2 : Nat.ble (len * size) 100000 = true) (hd : Nat.blt d n = true) (h : AOps P ops Q rest ⟨n, (d, (.vec nx len)) :: env, (nx, some (.vec E size zs)) :: heap, nx + 1, gl⟩) : AOps P ops Q (⟨some d, .buildSlice t len parts.toArray, ty, pos, af, none⟩ :: rest) ⟨n, env, heap, nx, gl⟩ :=
  ao_lit (st := ⟨n, env, heap, nx, gl⟩) hp hi hz hb hl hs2 hd h
theorem r_lit0 {t E size bytes : Nat} [I : SlT P t E size bytes] (hd : Nat.blt d n = true) (h : AOps P ops Q rest ⟨n, (d, (.vec nx 0)) :: env, (nx, some (.vec E size [])) :: heap, nx + 1, gl⟩) : AOps P ops Q (⟨some d, .buildSlice t 0 #[], ty, pos, af, none⟩ :: rest) ⟨n, env, heap, nx, gl⟩ :=
  ao_lit0 (st := ⟨n, env, heap, nx, gl⟩) hd h
theorem r_make {α : Type} {enc : α → List CV} {t E size bytes : Nat} {zs : List Value} [I : SlT P t E size bytes] [Z : ZeroT P E zs] {x y : Operand} {k1 k2 : IntKind} {i1 i2 : Int} (z0 : α) (n' : Nat) (J : EncL enc size) (hz : enc z0 = zs.map .v) (hx : St.ev ⟨n, env, heap, nx, gl⟩ x = some (.c (.v (.int k1 i1)))) (hy : St.ev ⟨n, env, heap, nx, gl⟩ y = some (.c (.v (.int k2 i2)))) (h1 : i1 = (n' : Int)) (h2 : i2 = (n' : Int)) (hb1 : n' < 1000000000000) (hb2 : bytes * n' ≤ 281474976710656) (hd : Nat.blt d n = true) (h : AOps P ops Q rest ⟨n, (d, (.vec nx n')) :: env, (nx, some (.vec E size ((List.replicate n' z0).flatMap enc))) :: heap, nx + 1, gl⟩) : AOps P ops Q (⟨some d, .makeSlice t x y, ty, pos, af, none⟩ :: rest) ⟨n, env, heap, nx, gl⟩ :=
  ao_make (st := ⟨n, env, heap, nx, gl⟩) z0 n' J hz hx hy h1 h2 hb1 hb2 hd h
theorem r_freeze {l : List Oper} (i : Nat) {b n' E size : Nat} {xs : List CV} (hi : look i env = some (.vec b n')) (hH : St.H ⟨n, env, heap, nx, gl⟩ b = some (.vec E size xs)) (hn : xs.length = n' * size) (h : AOps P ops Q l ⟨n, (i, (.c (.lst size xs))) :: env, (b, none) :: heap, nx, gl⟩) : AOps P ops Q l ⟨n, env, heap, nx, gl⟩ :=
  ao_freeze (st := ⟨n, env, heap, nx, gl⟩) i hi hH hn h
theorem r_callv {f : FuncId} {args : List Operand} {tys : Array TypeId} {ys : List AV} {zs : List CV} {r : CV} (hcon : Con P gl f zs r) (hys : evs ⟨n, env, heap, nx, gl⟩ args = some ys) (hz : cl.clL (St.H ⟨n, env, heap, nx, gl⟩) ys zs) (hr : r.plain = true) (hd : Nat.blt d n = true) (h : AOps P ops Q rest ⟨n, (d, (ofC r)) :: env, heap, nx, gl⟩) : AOps P ops Q (⟨some d, .call ⟨.value (.func f), args.toArray, tys⟩, ty, pos, af, none⟩ :: rest) ⟨n, env, heap, nx, gl⟩ :=
  ao_callv (st := ⟨n, env, heap, nx, gl⟩) hcon hys hz hr hd h
theorem r_index_vf [W : Walk P X] {α : Type} {enc : α → List CV} {x i : Operand} {t E E2 size bytes b m : Nat} [I : SlT P t E size bytes] {l : List α} {kk : IntKind} {idx : Int} (k : Nat) (hx : St.ev ⟨n, env, heap, nx, gl⟩ x = some (.vec b m)) (hH : St.H ⟨n, env, heap, nx, gl⟩ b = some (.vec E2 size (l.flatMap enc))) (J : EncL enc size) (hn : l.length = m) (hi : St.ev ⟨n, env, heap, nx, gl⟩ i = some (.c (.v (.int kk idx)))) (hk : idx = (k : Int)) (hlt : k < m) (hd : Nat.blt d n = true) (h : X rest ⟨n, (d, (.vptr b m (k * size))) :: env, heap, nx, gl⟩) : X (⟨some d, .indexAddr t x i, ty, pos, af, none⟩ :: rest) ⟨n, env, heap, nx, gl⟩ :=
  ao_index_vf (st := ⟨n, env, heap, nx, gl⟩) k hx hH J hn hi hk hlt hd h
theorem r_load_vf0 [W : Walk P X] {α : Type} {enc : α → List CV} {x : Operand} {t b m q k E size : Nat} {l : List α} {r : α} {y : CV} {ys : List CV} [I : TyC P t false q] (hx : St.ev ⟨n, env, heap, nx, gl⟩ x = some (.vptr b m (k * size))) (hH : St.H ⟨n, env, heap, nx, gl⟩ b = some (.vec E size (l.flatMap enc))) (J : EncL enc size) (hn : l.length = m) (hr : l[k]? = some r) (hy : enc r = y :: ys) (hd : Nat.blt d n = true) (h : X rest ⟨n, (d, (.c y)) :: env, heap, nx, gl⟩) : X (⟨some d, .load t x, ty, pos, af, none⟩ :: rest) ⟨n, env, heap, nx, gl⟩ :=
  ao_load_vf0 (st := ⟨n, env, heap, nx, gl⟩) hx hH J hn hr hy hd h
theorem r_litq [W : Walk P X] {t E size bytes len : Nat} [I : SlT P t E size bytes] {parts : List (Nat × Operand)} {ps : List (Nat × AV)} {zs : List CV} (hp : evp ⟨n, env, heap, nx, gl⟩ parts = some ps) (hi : ps.map (·.1) = List.range len) (hz : lits (ps.map (·.2)) = some zs) (hb : litB size (ps.map (·.2)) = true) (hl : Nat.ble 1 len = true) (hs2 : Nat.ble (len * size) 100000 = true) (hd : Nat.blt d n = true) (h : X rest ⟨n, (d, (.c (.lst size zs))) :: env, heap, nx, gl⟩) : X (⟨some d, .buildSlice t len parts.toArray, ty, pos, af, none⟩ :: rest) ⟨n, env, heap, nx, gl⟩ :=
  ao_litq (st := ⟨n, env, heap, nx, gl⟩) hp hi hz hb hl hs2 hd h
theorem r_in {f : FuncId} {fn : Func} {c : Code} {t nt : Nat} {args : List Operand} {tys : Array TypeId} {ys : List AV} {env' : List (Nat × AV)} (hf : P.funcs[f]? = some fn) (hb : fn.body = some c) (hr : fn.results = #[.tmp t]) (hcall : callableB P f = true) (hnt : fn.ntmps = nt) (hys : evs ⟨n, env, heap, nx, gl⟩ args = some ys) (hn : Nat.ble ys.length nt = true) (he : argEnvA 0 ys = env') (hd : Nat.blt d n = true)
    (h : Awp P c (Back t gl (fun y heap nx => AOps P ops Q rest ⟨n, (d, y) :: env, heap, nx, gl⟩)) ⟨nt, env', heap, nx, gl⟩) : AOps P ops Q (⟨some d, .call ⟨.value (.func f), args.toArray, tys⟩, ty, pos, af, none⟩ :: rest) ⟨n, env, heap, nx, gl⟩ := by
  subst hnt; subst he
  exact ao_in (st := ⟨n, env, heap, nx, gl⟩) hf hb hr hcall hys hn hd h
end
end Go.Proofs.Ythkjkhffljlidaa.Ev
/- More rules of a walk: a nil slice in a box, a list compared with nil. Nothing here names a program. -/
namespace Go.Proofs.Ythkjkhffljlidaa.Ev
set_option linter.unusedVariables false
set_option linter.unusedSimpArgs false
open Go.RowKit
section
variable {P : Program} {ops : Array Oper} {Q : Exit → St → Prop} {rest : List Oper} {d : Nat} {ty : TypeId} {pos : String} {af : Array Edge} {n : Nat} {env : List (Nat × AV)} {heap : List (Nat × Option AB)} {nx : Nat} {gl : List (Nat × List CV)}
end
end Go.Proofs.Ythkjkhffljlidaa.Ev
/- More rules of a walk: an empty literal, and what is appended to it, as quiet steps. Nothing here names a program. -/
namespace Go.Proofs.Ythkjkhffljlidaa.Ev
set_option linter.unusedVariables false
set_option linter.unusedSimpArgs false
open Go.RowKit
section
variable {P : Program} {X : List Oper → St → Prop} {rest : List Oper} {d : Nat} {ty : TypeId} {pos : String} {af : Array Edge} {n : Nat} {env : List (Nat × AV)} {heap : List (Nat × Option AB)} {nx : Nat} {gl : List (Nat × List CV)}
variable {ops : Array Oper} {Q : Exit → St → Prop}
end
end Go.Proofs.Ythkjkhffljlidaa.Ev
/- More rules of a walk: conversions of integers, functions as values. Nothing here names a program. -/
namespace Go.Proofs.Ythkjkhffljlidaa.Ev
set_option linter.unusedVariables false
set_option linter.unusedSimpArgs false
open Go.RowKit
class IntT (P : Program) (t : Nat) (k : outParam IntKind) : Prop where
  h : P.underlying t = some (.int k)
section
variable {P : Program} {ops : Array Oper} {Q : Exit → St → Prop} {X : List Oper → St → Prop} {rest : List Oper} {d : Nat} {ty : TypeId} {pos : String} {af : Array Edge} {n : Nat} {env : List (Nat × AV)} {heap : List (Nat × Option AB)} {nx : Nat} {gl : List (Nat × List CV)}
theorem r_conv [W : Walk P X] {x : Operand} {t t2 : Nat} {k1 k2 k : IntKind} {a b : Int} [I1 : IntT P t k1] [I2 : IntT P t2 k2] (hx : St.ev ⟨n, env, heap, nx, gl⟩ x = some (.c (.v (.int k a)))) (he : k2.wrap a = b) (hd : Nat.blt d n = true)
    (h : X rest ⟨n, (d, .c (.v (.int k2 b))) :: env, heap, nx, gl⟩) : X (⟨some d, .convert t t2 x, ty, pos, af, none⟩ :: rest) ⟨n, env, heap, nx, gl⟩ := by
  refine ao_val (st := ⟨n, env, heap, nx, gl⟩) rfl rfl hd (fun _ _ M e hs => ⟨.int k2 b, ?_, .c (.v _)⟩) h
  have hv := (hs.ev (by simp [Op.operands]) hx).bool
  simp only [execOp, hv]
  have hk : P.intKind t2 = k2 := by unfold Program.intKind; rw [I2.h]
  have := run_convert_int (P := P) M.w t t2 k a (by rw [I1.h]; rfl) (by rw [hk]; exact I2.h)
  rw [hk, he] at this
  rw [Sem.run_bind, this]; rfl
end
end Go.Proofs.Ythkjkhffljlidaa.Ev
/- Rules of a walk: regions that draw their order and make two boxes. Nothing here names a program. -/
namespace Go.Proofs.Ythkjkhffljlidaa.Ev
set_option linter.unusedVariables false
set_option linter.unusedSimpArgs false
open Go.RowKit
section
variable {P : Program} {ops : Array Oper} {md : Region.Mode} {n : Nat} {L : Array Bool → St → Prop}
def two (da db : Nat) (xa xb : AB) (s : St) : St := (((s.new xa).put da (.ptr s.nx 0)).new xb).put db (.ptr (s.nx + 1) 0)
end
end Go.Proofs.Ythkjkhffljlidaa.Ev
/- Rules of a walk: regions that draw their order, walked in an order that is given, with up to two boxes. Nothing here names a program. -/
namespace Go.Proofs.Ythkjkhffljlidaa.Ev
set_option linter.unusedVariables false
set_option linter.unusedSimpArgs false
open Go.RowKit
section
variable {P : Program} {ops : Array Oper} {md : Region.Mode} {n : Nat}
end
end Go.Proofs.Ythkjkhffljlidaa.Ev
/- Rules of a walk: small regions that draw their order, each order walked. Nothing here names a program. -/
namespace Go.Proofs.Ythkjkhffljlidaa.Ev
set_option linter.unusedVariables false
set_option linter.unusedSimpArgs false
open Go.RowKit
section
variable {P : Program} {ops : Array Oper}
theorem upon_mono2 {o : Oper} {a : Act} {K K' : Act → World → Prop} {Q Q' : Exit → Act → World → Prop} (hk : ∀ a w, K a w → K' a w) (hq : ∀ e a w, e ≠ .normal → Q e a w → Q' e a w) {r : Result Next} (h : o.upon P a K Q r) : o.upon P a K' Q' r := by
  cases r with
  | ok n w' =>
    cases n <;> simp only [Oper.upon] at h ⊢ <;>
      first
        | exact hk _ _ h
        | exact Calls.mono h (fun e w'' he => by cases e <;> first | exact hk _ _ he | exact hq _ _ _ (by intro h; cases h) he | exact (he.elim fun a h => h.elim fun w h => ⟨a, w, hq _ _ _ (by intro h; cases h) h⟩))
        | exact Rows.mono h (fun _ _ he => hk _ _ he)
  | halt x w' => cases x <;> simp only [Oper.upon] at h ⊢ <;> exact hq _ _ _ (by intro h; cases h) h
def only (K : St → Prop) : Exit → St → Prop
  | .normal, st => K st
  | _, _ => False
end
end Go.Proofs.Ythkjkhffljlidaa.Ev
/- Rules of a walk: regions that draw their order and store into boxes while other operands are still computed. Nothing here names a program. -/
namespace Go.Proofs.Ythkjkhffljlidaa.Ev
set_option linter.unusedVariables false
set_option linter.unusedSimpArgs false
open Go.RowKit
section
variable {P : Program} {ops : Array Oper} {n : Nat}
structure StEq2 (s t : St) : Prop where
  n : s.n = t.n
  H : ∀ b, s.H b = t.H b
  nx : s.nx = t.nx
  gl : s.gl = t.gl
  env : ∀ i, look i s.env = look i t.env
theorem StEq2.refl (s : St) : StEq2 s s := ⟨rfl, fun _ => rfl, rfl, rfl, fun _ => rfl⟩
theorem StEq2.symm {s t : St} (h : StEq2 s t) : StEq2 t s := ⟨h.n.symm, fun b => (h.H b).symm, h.nx.symm, h.gl.symm, fun i => (h.env i).symm⟩
theorem StEq2.put {s t : St} (h : StEq2 s t) (d : Nat) (y : AV) : StEq2 (s.put d y) (t.put d y) :=
  ⟨h.n, h.H, h.nx, h.gl, fun i => by simp only [St.put, look_cons]; rw [h.env i]⟩
theorem StEq2.set {s t : St} (h : StEq2 s t) (b : Nat) (x : AB) : StEq2 (s.set b x) (t.set b x) :=
  ⟨h.n, fun b' => by rw [H_set, H_set, h.H b'], h.nx, h.gl, h.env⟩
theorem StEq2.ev {s t : St} (h : StEq2 s t) (x : Operand) : s.ev x = t.ev x := by
  cases x with
  | tmp i => exact h.env i
  | const v => rfl
  | global g => simp only [St.ev]; rw [h.gl]
  | func f => rfl
theorem StEq2.sim {s t : St} (h : StEq2 s t) {base : Nat} {w0 : W0} {M : Wd} {a : Act} (hs : Sim base w0 s M a) : Sim base w0 t M a :=
  ⟨hs.H.trans (funext h.H), hs.nx.trans h.nx, hs.n.trans h.n, fun i x hx => hs.env i x (by rw [h.env i]; exact hx), fun g xs hg => hs.gl g xs (by rw [h.gl]; exact hg), hs.heap, hs.below, hs.base, hs.defs, hs.old⟩
def St.hide (bs : List Nat) (st : St) : St := { st with heap := bs.map (fun b => (b, none)) ++ st.heap }
theorem look_hide (bs : List Nat) (heap : List (Nat × Option AB)) (b : Nat) : look b (bs.map (fun b => (b, none)) ++ heap) = if b ∈ bs then some none else look b heap := by
  induction bs with
  | nil => simp
  | cons c bs ih =>
    rw [List.map_cons, List.cons_append, look_cons, ih]
    by_cases h : c = b
    · subst h; simp
    · rw [if_neg h]
      by_cases h2 : b ∈ bs
      · rw [if_pos h2, if_pos (by simp [h2])]
      · rw [if_neg h2, if_neg (by simp [h2, Ne.symm h])]
theorem H_hide (bs : List Nat) (st : St) (b : Nat) : (st.hide bs).H b = if b ∈ bs then none else st.H b := by
  unfold St.H St.hide
  simp only [look_hide]
  by_cases h : b ∈ bs
  · rw [if_pos h, if_pos h]
  · rw [if_neg h, if_neg h]
def SStep (P : Program) (ops : Array Oper) (o : Oper) (st : St) (b : Nat) (x : AB) : Prop :=
  o.guard = none ∧ o.dst = none ∧ ∀ s : St, s.n = st.n → s.gl = st.gl → s.H b = st.H b → (∀ z ∈ o.op.operands, s.ev z = st.ev z) → AOps P ops (only (fun s' => s' = s.set b x)) [o] s
theorem SStep.of {o : Oper} {s t : St} {b : Nat} {x : AB} (h : SStep P ops o s b x) (hn : s.n = t.n) (hg : s.gl = t.gl) (hH : s.H b = t.H b) (hev : ∀ z ∈ o.op.operands, s.ev z = t.ev z) : SStep P ops o t b x :=
  ⟨h.1, h.2.1, fun u e1 e2 e3 e4 => h.2.2 u (e1.trans hn.symm) (e2.trans hg.symm) (e3.trans hH.symm) (fun z hz => (e4 z hz).trans (hev z hz).symm)⟩
inductive DG3 (P : Program) (ops : Array Oper) (bs : List Nat) (o : Oper) (st : St) : St → Prop
  | q {d : Nat} {y : AV} (h : DY P ops o (st.hide bs) d y) : DG3 P ops bs o st (st.put d y)
  | s {b : Nat} {x : AB} (hb : b ∈ bs) (hlt : b < st.nx) (h : SStep P ops o st b x) : DG3 P ops bs o st (st.set b x)
  | a {d : Nat} {x : AB} (h : AOp P o d x) (hd : Nat.blt d st.n = true) : DG3 P ops bs o st ((st.new x).put d (.ptr st.nx 0))
theorem StEq2.new {s t : St} (h : StEq2 s t) (x : AB) : StEq2 (s.new x) (t.new x) :=
  ⟨h.n, fun b' => by rw [H_new, H_new, h.H b', h.nx], by simp only [St.new]; rw [h.nx], h.gl, h.env⟩
theorem Fr.set {st : St} (h : Fr st) {b : Nat} (hb : b < st.nx) (x : AB) : Fr (st.set b x) := fun b' hb' => by
  have : st.nx ≤ b' := hb'
  rw [H_set, if_neg (by omega)]; exact h b' this
variable {bs : List Nat}
theorem StEq2.hide {s t : St} (h : StEq2 s t) (bs : List Nat) : StEq2 (s.hide bs) (t.hide bs) :=
  ⟨h.n, fun b => by rw [H_hide, H_hide, h.H b], h.nx, h.gl, h.env⟩
theorem DY.eq2 {o : Oper} {s t : St} {d : Nat} {y : AV} (h : DY P ops o s d y) (e : StEq2 s t) : DY P ops o t d y :=
  h.of e.n (fun b x hx => by rw [← e.H]; exact hx) e.gl (fun x _ => e.ev x) (fun _ _ q _ _ => e.env q)
theorem DG3.eq {o : Oper} {s t s' : St} (h : DG3 P ops bs o s s') (e : StEq2 s t) : ∃ t', DG3 P ops bs o t t' ∧ StEq2 s' t' := by
  cases h with
  | q h => exact ⟨_, .q (h.eq2 (e.hide bs)), e.put _ _⟩
  | s hb hlt h => exact ⟨_, .s hb (by rw [← e.nx]; exact hlt) (h.of e.n e.gl (e.H _) (fun z _ => e.ev z)), e.set _ _⟩
  | a h hd => exact ⟨_, .a h (by rw [← e.n]; exact hd), by rw [e.nx]; exact (e.new _).put _ _⟩
def DAny3 (P : Program) (ops : Array Oper) (bs : List Nat) (L : Array Bool → St → Prop) : Nat → Array Bool → St → Prop
  | 0, listed, st => L listed st
  | f + 1, listed, st => Region.ready .any ops listed ≠ [] ∧ ∀ i ∈ Region.ready .any ops listed, ∃ o st', ops[i]? = some o ∧ DG3 P ops bs o st st' ∧ DAny3 P ops bs L f (listed.setIfInBounds i true) st'
variable {L : Array Bool → St → Prop}
theorem DAny3.eq (hL : ∀ listed s t, StEq2 s t → L listed s → L listed t) : ∀ (f : Nat) (listed : Array Bool) (s t : St), StEq2 s t → DAny3 P ops bs L f listed s → DAny3 P ops bs L f listed t
  | 0, listed, s, t, e, h => hL listed s t e h
  | f + 1, listed, s, t, e, h => ⟨h.1, fun i hi => by
    obtain ⟨o, s', h2, h3, h4⟩ := h.2 i hi
    obtain ⟨t', h5, h6⟩ := h3.eq e
    exact ⟨o, t', h2, h5, DAny3.eq hL f _ _ _ h6 h4⟩⟩
theorem StEq2.comm (st : St) {d d' : Nat} (h : d ≠ d') (y y' : AV) : StEq2 ((st.put d y).put d' y') ((st.put d' y').put d y) :=
  ⟨rfl, fun _ => rfl, rfl, rfl, fun i => by simp only [St.put, look_cons]; by_cases h1 : d' = i <;> by_cases h2 : d = i <;> simp_all⟩
theorem DG3.wp {base : Nat} {w0 : W0} {st st' : St} {M : Wd} {a : Act} {i : Nat} {o : Oper} {K : Act → World → Prop} {Q' : Exit → Act → World → Prop} (hi : ops[i]? = some o) (h : DG3 P ops bs o st st') (hs : Sim base w0 st M a)
    (hK : ∀ M' a', Ext M M' → Sim base w0 st' M' a' → K a' M'.w) : wpOp P ops Q' i K a M.w := by
  cases h with
  | q h =>
    refine (h.of (t := st) rfl (fun b z hz => ?_) rfl (fun z _ => by cases z <;> rfl) (fun _ _ _ _ _ => rfl)).wp hi hs hK
    rw [H_hide] at hz
    split at hz
    · cases hz
    · exact hz
  | @a d x h hd =>
    obtain ⟨g, hdst, hrun⟩ := h
    obtain ⟨u, c, arr, t, e1, e2, e3⟩ := hrun st base w0 M a hs
    unfold wpOp
    simp only [hi]
    rw [if_pos (by simp [Region.wanted, g])]
    refine .inl ?_
    unfold Oper.wp
    rw [e1]
    have := hK (M.new st x c (.cells arr t)) (a.put o.dst u) (hs.extNew x c _) (by rw [hdst]; exact e2.put hd e3)
    exact this
  | @s b x hb hlt h =>
    have hl := h.2.2 st rfl rfl rfl (fun _ _ => rfl) base w0 M a hs
    have hw : Region.wanted o (yielded ops a.tmps) = true := by simp [Region.wanted, h.1]
    unfold wpList at hl
    rw [if_pos hw] at hl
    unfold wpOp
    simp only [hi]
    rw [if_pos hw]
    rcases hl with hl | ⟨_, a', w', M', st', _, _, _, hf⟩
    · refine .inl (upon_mono2 (fun a' w' hk => ?_) (fun e a' w' hne hq => ?_) hl)
      · obtain ⟨M', st', e1, e2, e3, e4⟩ := hk
        subst e1
        have e4 : st' = _ := e4
        subst e4
        exact hK M' a' e3 e2
      · obtain ⟨M', st', e1, e2, e3, e4⟩ := hq
        cases e <;> first | exact absurd rfl hne | exact e4.elim
    · exact hf.elim
section
variable {i nn nx k : Nat} {env : List (Nat × AV)} {heap : List (Nat × Option AB)} {gl : List (Nat × List CV)} {listed : Array Bool} {ty : TypeId} {pos : String} {af : Array Edge}
end
end
end Go.Proofs.Ythkjkhffljlidaa.Ev
/- Rules of a walk: bits, truth values held against each other, function values in calls. Nothing here names a program. -/
namespace Go.Proofs.Ythkjkhffljlidaa.Ev
set_option linter.unusedVariables false
set_option linter.unusedSimpArgs false
open Go.RowKit
section
variable {P : Program} {ops : Array Oper} {Q : Exit → St → Prop} {X : List Oper → St → Prop} {rest : List Oper} {d : Nat} {ty : TypeId} {pos : String} {af : Array Edge} {n : Nat} {env : List (Nat × AV)} {heap : List (Nat × Option AB)} {nx : Nat} {gl : List (Nat × List CV)}
theorem r_or [W : Walk P X] {x y : Operand} {t t2 : TypeId} {k : IntKind} {a b : Int} (hx : St.ev ⟨n, env, heap, nx, gl⟩ x = some (.c (.v (.int k a)))) (hy : St.ev ⟨n, env, heap, nx, gl⟩ y = some (.c (.v (.int k b)))) (hd : Nat.blt d n = true) (h : X rest ⟨n, (d, .c (.v (.int k (bits .or k a b)))) :: env, heap, nx, gl⟩) : X (⟨some d, .binOp .or t x y t2, ty, pos, af, none⟩ :: rest) ⟨n, env, heap, nx, gl⟩ := by
  refine ao_val (st := ⟨n, env, heap, nx, gl⟩) rfl rfl hd (fun _ _ M e hs => ⟨.int k (bits .or k a b), ?_, .c (.v _)⟩) h
  simp only [execOp, (hs.ev (by simp [Op.operands, Call.operands]) hx).bool, (hs.ev (by simp [Op.operands, Call.operands]) hy).bool]
  simp [go_sem]
theorem r_shr [W : Walk P X] {x y : Operand} {t t2 : TypeId} {k k2 : IntKind} {a b : Int} (hx : St.ev ⟨n, env, heap, nx, gl⟩ x = some (.c (.v (.int k a)))) (hy : St.ev ⟨n, env, heap, nx, gl⟩ y = some (.c (.v (.int k2 b)))) (h0 : 0 ≤ b) (h1 : b < k.bits) (hd : Nat.blt d n = true) (h : X rest ⟨n, (d, .c (.v (.int k (a / 2 ^ b.toNat)))) :: env, heap, nx, gl⟩) : X (⟨some d, .binOp .shr t x y t2, ty, pos, af, none⟩ :: rest) ⟨n, env, heap, nx, gl⟩ := by
  refine ao_val (st := ⟨n, env, heap, nx, gl⟩) rfl rfl hd (fun _ _ M e hs => ⟨.int k (a / 2 ^ b.toNat), ?_, .c (.v _)⟩) h
  simp only [execOp, (hs.ev (by simp [Op.operands, Call.operands]) hx).bool, (hs.ev (by simp [Op.operands, Call.operands]) hy).bool]
  have e1 : min b.toNat k.bits = b.toNat := by omega
  have e2 : a.fdiv (2 ^ b.toNat) = a / 2 ^ b.toNat := Int.fdiv_eq_ediv_of_nonneg _ (Int.le_of_lt (Int.pow_pos (by decide)))
  have e3 : (binOp .shr t (.int k a) (.int k2 b)).run P M.w = .ok (.int k (a / 2 ^ b.toNat)) M.w := by
    show (Op.shift .shr k a k2 b).run P M.w = _
    unfold Op.shift
    rw [if_neg (by omega)]
    dsimp only
    rw [e1, e2]; rfl
  simp only [Sem.run_bind]
  rw [show (eqGuard .shr t x y (.int k a) (.int k2 b)).run P M.w = .ok () M.w from rfl]
  show (Sem.run P (binOp .shr t (.int k a) (.int k2 b)) M.w).andThen _ = _
  rw [e3]; rfl
end
end Go.Proofs.Ythkjkhffljlidaa.Ev
/- Rules of a walk: regions that draw their order, store into lists while addresses are still computed. Nothing here names a program. -/
namespace Go.Proofs.Ythkjkhffljlidaa.Ev
set_option linter.unusedVariables false
set_option linter.unusedSimpArgs false
open Go.RowKit
section
variable {P : Program} {ops : Array Oper} {n : Nat}
inductive DG4 (P : Program) (ops : Array Oper) (bs : List Nat) (o : Oper) (st : St) : St → Prop
  | q {d : Nat} {y : AV} (h : DY P ops o st d y) : DG4 P ops bs o st (st.put d y)
  | s {b : Nat} {x : AB} (hb : b ∈ bs) (hlt : b < st.nx) (h : SStep P ops o st b x) : DG4 P ops bs o st (st.set b x)
  | a {d : Nat} {x : AB} (h : AOp P o d x) (hd : Nat.blt d st.n = true) : DG4 P ops bs o st ((st.new x).put d (.ptr st.nx 0))
variable {bs : List Nat}
theorem DG4.eq {o : Oper} {s t s' : St} (h : DG4 P ops bs o s s') (e : StEq2 s t) : ∃ t', DG4 P ops bs o t t' ∧ StEq2 s' t' := by
  cases h with
  | q h => exact ⟨_, .q (h.eq2 e), e.put _ _⟩
  | s hb hlt h => exact ⟨_, .s hb (by rw [← e.nx]; exact hlt) (h.of e.n e.gl (e.H _) (fun z _ => e.ev z)), e.set _ _⟩
  | a h hd => exact ⟨_, .a h (by rw [← e.n]; exact hd), by rw [e.nx]; exact (e.new _).put _ _⟩
def DAny4 (P : Program) (ops : Array Oper) (bs : List Nat) (L : Array Bool → St → Prop) : Nat → Array Bool → St → Prop
  | 0, listed, st => L listed st
  | f + 1, listed, st => Region.ready .any ops listed ≠ [] ∧ ∀ i ∈ Region.ready .any ops listed, ∃ o st', ops[i]? = some o ∧ DG4 P ops bs o st st' ∧ DAny4 P ops bs L f (listed.setIfInBounds i true) st'
variable {L : Array Bool → St → Prop}
theorem DAny4.eq (hL : ∀ listed s t, StEq2 s t → L listed s → L listed t) : ∀ (f : Nat) (listed : Array Bool) (s t : St), StEq2 s t → DAny4 P ops bs L f listed s → DAny4 P ops bs L f listed t
  | 0, listed, s, t, e, h => hL listed s t e h
  | f + 1, listed, s, t, e, h => ⟨h.1, fun i hi => by
    obtain ⟨o, s', h2, h3, h4⟩ := h.2 i hi
    obtain ⟨t', h5, h6⟩ := h3.eq e
    exact ⟨o, t', h2, h5, DAny4.eq hL f _ _ _ h6 h4⟩⟩
def Cl (ops : Array Oper) (listed : Array Bool) : Prop := ∀ (j : Nat) (oj : Oper), ops[j]? = some oj → listed.getD j false = true → ∀ e ∈ oj.after, Region.binds .any e = true → listed.getD e.on false = true
theorem Cl.set {listed : Array Bool} (cl : Cl ops listed) {i : Nat} (hr : i ∈ Region.ready .any ops listed) : Cl ops (listed.setIfInBounds i true) := by
  obtain ⟨h1, o, h2, h3⟩ := mem_ready.1 hr
  have mono : ∀ j, listed.getD j false = true → (listed.setIfInBounds i true).getD j false = true := fun j hj => by
    by_cases he : i = j
    · subst he
      have := getD_both h1
      rw [this] at hj; cases hj
    · rw [getD_set_ne false he]; exact hj
  intro j oj hj hl e he hb
  by_cases hij : i = j
  · subst hij
    have : oj = o := Option.some.inj (hj.symm.trans h2)
    subst this
    exact mono _ (h3 e he hb)
  · rw [getD_set_ne false hij] at hl
    exact mono _ (cl j oj hj hl e he hb)
theorem DG4.wp {base : Nat} {w0 : W0} {st st' : St} {M : Wd} {a : Act} {i : Nat} {o : Oper} {K : Act → World → Prop} {Q' : Exit → Act → World → Prop} (hi : ops[i]? = some o) (h : DG4 P ops bs o st st') (hs : Sim base w0 st M a)
    (hK : ∀ M' a', Ext M M' → Sim base w0 st' M' a' → K a' M'.w) : wpOp P ops Q' i K a M.w := by
  cases h with
  | q h => exact h.wp hi hs hK
  | @a d x h hd =>
    obtain ⟨g, hdst, hrun⟩ := h
    obtain ⟨u, c, arr, t, e1, e2, e3⟩ := hrun st base w0 M a hs
    unfold wpOp
    simp only [hi]
    rw [if_pos (by simp [Region.wanted, g])]
    refine .inl ?_
    unfold Oper.wp
    rw [e1]
    have := hK (M.new st x c (.cells arr t)) (a.put o.dst u) (hs.extNew x c _) (by rw [hdst]; exact e2.put hd e3)
    exact this
  | @s b x hb hlt h =>
    have hl := h.2.2 st rfl rfl rfl (fun _ _ => rfl) base w0 M a hs
    have hw : Region.wanted o (yielded ops a.tmps) = true := by simp [Region.wanted, h.1]
    unfold wpList at hl
    rw [if_pos hw] at hl
    unfold wpOp
    simp only [hi]
    rw [if_pos hw]
    rcases hl with hl | ⟨_, a', w', M', st', _, _, _, hf⟩
    · refine .inl (upon_mono2 (fun a' w' hk => ?_) (fun e a' w' hne hq => ?_) hl)
      · obtain ⟨M', st', e1, e2, e3, e4⟩ := hk
        subst e1
        have e4 : st' = _ := e4
        subst e4
        exact hK M' a' e3 e2
      · obtain ⟨M', st', e1, e2, e3, e4⟩ := hq
        cases e <;> first | exact absurd rfl hne | exact e4.elim
    · exact hf.elim
section
variable {i nn nx k : Nat} {env : List (Nat × AV)} {heap : List (Nat × Option AB)} {gl : List (Nat × List CV)} {listed : Array Bool} {ty : TypeId} {pos : String} {af : Array Edge}
end
end
end Go.Proofs.Ythkjkhffljlidaa.Ev
/- Rules of a walk: regions that draw their order and call what makes memory. Nothing here names a program. -/
namespace Go.Proofs.Ythkjkhffljlidaa.Ev
set_option linter.unusedVariables false
set_option linter.unusedSimpArgs false
open Go.RowKit
section
variable {P : Program} {ops : Array Oper} {n : Nat}
def NStep (P : Program) (ops : Array Oper) (o : Oper) (st : St) (d : Nat) (x : AB) (mk : Nat → AV) : Prop :=
  o.guard = none ∧ o.dst = some d ∧ ∀ s : St, s.n = st.n → s.gl = st.gl → (∀ z ∈ o.op.operands, s.ev z = st.ev z) → AOps P ops (only (fun s' => StEq2 s' ((s.new x).put d (mk s.nx)))) [o] s
theorem NStep.of {o : Oper} {s t : St} {d : Nat} {x : AB} {mk : Nat → AV} (h : NStep P ops o s d x mk) (hn : s.n = t.n) (hg : s.gl = t.gl) (hev : ∀ z ∈ o.op.operands, s.ev z = t.ev z) : NStep P ops o t d x mk :=
  ⟨h.1, h.2.1, fun u e1 e2 e4 => h.2.2 u (e1.trans hn.symm) (e2.trans hg.symm) (fun z hz => (e4 z hz).trans (hev z hz).symm)⟩
inductive DG5 (P : Program) (ops : Array Oper) (bs : List Nat) (o : Oper) (st : St) : St → Prop
  | q {d : Nat} {y : AV} (h : DY P ops o st d y) : DG5 P ops bs o st (st.put d y)
  | s {b : Nat} {x : AB} (hb : b ∈ bs) (hlt : b < st.nx) (h : SStep P ops o st b x) : DG5 P ops bs o st (st.set b x)
  | a {d : Nat} {x : AB} (h : AOp P o d x) (hd : Nat.blt d st.n = true) : DG5 P ops bs o st ((st.new x).put d (.ptr st.nx 0))
  | n {d : Nat} {x : AB} {mk : Nat → AV} (h : NStep P ops o st d x mk) : DG5 P ops bs o st ((st.new x).put d (mk st.nx))
variable {bs : List Nat}
theorem DG5.eq {o : Oper} {s t s' : St} (h : DG5 P ops bs o s s') (e : StEq2 s t) : ∃ t', DG5 P ops bs o t t' ∧ StEq2 s' t' := by
  cases h with
  | q h => exact ⟨_, .q (h.eq2 e), e.put _ _⟩
  | s hb hlt h => exact ⟨_, .s hb (by rw [← e.nx]; exact hlt) (h.of e.n e.gl (e.H _) (fun z _ => e.ev z)), e.set _ _⟩
  | a h hd => exact ⟨_, .a h (by rw [← e.n]; exact hd), by rw [e.nx]; exact (e.new _).put _ _⟩
  | n h => exact ⟨_, .n (h.of e.n e.gl (fun z _ => e.ev z)), by rw [e.nx]; exact (e.new _).put _ _⟩
def DAny5 (P : Program) (ops : Array Oper) (bs : List Nat) (L : Array Bool → St → Prop) : Nat → Array Bool → St → Prop
  | 0, listed, st => L listed st
  | f + 1, listed, st => Region.ready .any ops listed ≠ [] ∧ ∀ i ∈ Region.ready .any ops listed, ∃ o st', ops[i]? = some o ∧ DG5 P ops bs o st st' ∧ DAny5 P ops bs L f (listed.setIfInBounds i true) st'
variable {L : Array Bool → St → Prop}
theorem DAny5.eq (hL : ∀ listed s t, StEq2 s t → L listed s → L listed t) : ∀ (f : Nat) (listed : Array Bool) (s t : St), StEq2 s t → DAny5 P ops bs L f listed s → DAny5 P ops bs L f listed t
  | 0, listed, s, t, e, h => hL listed s t e h
  | f + 1, listed, s, t, e, h => ⟨h.1, fun i hi => by
    obtain ⟨o, s', h2, h3, h4⟩ := h.2 i hi
    obtain ⟨t', h5, h6⟩ := h3.eq e
    exact ⟨o, t', h2, h5, DAny5.eq hL f _ _ _ h6 h4⟩⟩
theorem DG5.wp {base : Nat} {w0 : W0} {st st' : St} {M : Wd} {a : Act} {i : Nat} {o : Oper} {K : Act → World → Prop} {Q' : Exit → Act → World → Prop} (hi : ops[i]? = some o) (h : DG5 P ops bs o st st') (hs : Sim base w0 st M a)
    (hK : ∀ M' a', Ext M M' → Sim base w0 st' M' a' → K a' M'.w) : wpOp P ops Q' i K a M.w := by
  cases h with
  | q h => exact h.wp hi hs hK
  | @a d x h hd =>
    obtain ⟨g, hdst, hrun⟩ := h
    obtain ⟨u, c, arr, t, e1, e2, e3⟩ := hrun st base w0 M a hs
    unfold wpOp
    simp only [hi]
    rw [if_pos (by simp [Region.wanted, g])]
    refine .inl ?_
    unfold Oper.wp
    rw [e1]
    have := hK (M.new st x c (.cells arr t)) (a.put o.dst u) (hs.extNew x c _) (by rw [hdst]; exact e2.put hd e3)
    exact this
  | @n d x mk h =>
    have hl := h.2.2 st rfl rfl (fun _ _ => rfl) base w0 M a hs
    have hw : Region.wanted o (yielded ops a.tmps) = true := by simp [Region.wanted, h.1]
    unfold wpList at hl
    rw [if_pos hw] at hl
    unfold wpOp
    simp only [hi]
    rw [if_pos hw]
    rcases hl with hl | ⟨_, a', w', M', st', _, _, _, hf⟩
    · refine .inl (upon_mono2 (fun a' w' hk => ?_) (fun e a' w' hne hq => ?_) hl)
      · obtain ⟨M', st', e1, e2, e3, e4⟩ := hk
        subst e1
        have e4 : StEq2 st' _ := e4
        exact hK M' a' e3 (e4.sim e2)
      · obtain ⟨M', st', e1, e2, e3, e4⟩ := hq
        cases e <;> first | exact absurd rfl hne | exact e4.elim
    · exact hf.elim
  | @s b x hb hlt h =>
    have hl := h.2.2 st rfl rfl rfl (fun _ _ => rfl) base w0 M a hs
    have hw : Region.wanted o (yielded ops a.tmps) = true := by simp [Region.wanted, h.1]
    unfold wpList at hl
    rw [if_pos hw] at hl
    unfold wpOp
    simp only [hi]
    rw [if_pos hw]
    rcases hl with hl | ⟨_, a', w', M', st', _, _, _, hf⟩
    · refine .inl (upon_mono2 (fun a' w' hk => ?_) (fun e a' w' hne hq => ?_) hl)
      · obtain ⟨M', st', e1, e2, e3, e4⟩ := hk
        subst e1
        have e4 : st' = _ := e4
        subst e4
        exact hK M' a' e3 e2
      · obtain ⟨M', st', e1, e2, e3, e4⟩ := hq
        cases e <;> first | exact absurd rfl hne | exact e4.elim
    · exact hf.elim
section
variable {i nn nx k : Nat} {env : List (Nat × AV)} {heap : List (Nat × Option AB)} {gl : List (Nat × List CV)} {listed : Array Bool} {ty : TypeId} {pos : String} {af : Array Edge}
end
end
end Go.Proofs.Ythkjkhffljlidaa.Ev
