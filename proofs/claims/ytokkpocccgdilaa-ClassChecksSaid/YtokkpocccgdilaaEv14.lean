/- Rules of a walk: reading the call's own lists. Nothing here names a program. -/
import Derived.Test.YtokkpocccgdilaaEv13
namespace Go.Proofs.Ytokkpocccgdilaa.Ev
set_option linter.unusedVariables false
set_option linter.unusedSimpArgs false
open Go.RowKit
section
variable {P : Program} {X : List Oper → St → Prop} {rest : List Oper} {d : Nat} {ty : TypeId} {pos : String} {af : Array Edge} {st : St}

theorem ao_index_vf [W : Walk P X] {α : Type} {enc : α → List CV} {x i : Operand} {t E E2 size bytes b m : Nat} [I : SlT P t E size bytes] {l : List α} {kk : IntKind} {idx : Int} (k : Nat) (hx : st.ev x = some (.vec b m)) (hH : st.H b = some (.vec E2 size (l.flatMap enc))) (J : EncL enc size) (hn : l.length = m) (hi : st.ev i = some (.c (.v (.int kk idx)))) (hk : idx = (k : Int)) (hlt : k < m) (hd : Nat.blt d st.n = true)
    (h : X rest (st.put d (.vptr b m (k * size)))) : X (⟨some d, .indexAddr t x i, ty, pos, af, none⟩ :: rest) st :=
  ao_index_v k hx hH (by rw [flat_len J.len, hn]) hi hk hlt hd h
theorem ao_field_vf [W : Walk P X] {α : Type} {enc : α → List CV} {x : Operand} {s i k b m off : Nat} [I : FieldAt P s i k] {E size : Nat} {l : List α} (hx : st.ev x = some (.vptr b m off)) (hH : st.H b = some (.vec E size (l.flatMap enc))) (J : EncL enc size) (hn : l.length = m) (hd : Nat.blt d st.n = true) (h : X rest (st.put d (.vptr b m (off + k)))) : X (⟨some d, .fieldAddr s x i, ty, pos, af, none⟩ :: rest) st :=
  ao_field_v hx hH (by rw [flat_len J.len, hn]) hd h
theorem ao_load_vf0 [W : Walk P X] {α : Type} {enc : α → List CV} {x : Operand} {t b m q k E size : Nat} {l : List α} {r : α} {y : CV} {ys : List CV} [I : TyC P t false q] (hx : st.ev x = some (.vptr b m (k * size))) (hH : st.H b = some (.vec E size (l.flatMap enc))) (J : EncL enc size) (hn : l.length = m) (hr : l[k]? = some r) (hy : enc r = y :: ys) (hd : Nat.blt d st.n = true) (h : X rest (st.put d (.c y))) : X (⟨some d, .load t x, ty, pos, af, none⟩ :: rest) st := by
  obtain ⟨hk, rfl⟩ := List.getElem?_eq_some_iff.1 hr
  exact ao_load_v hx hH (by rw [flat_len J.len, hn]) (by rw [drop_at J l k hk, hy]; rfl) hd h
theorem ao_load_vf [W : Walk P X] {α : Type} {enc : α → List CV} {x : Operand} {t b m q k j E size : Nat} {l : List α} {r : α} {y : CV} {ys : List CV} [I : TyC P t false q] (hx : st.ev x = some (.vptr b m (k * size + j))) (hH : st.H b = some (.vec E size (l.flatMap enc))) (J : EncL enc size) (hn : l.length = m) (hr : l[k]? = some r) (hj : Nat.ble j size = true) (hy : (enc r).drop j = y :: ys) (hd : Nat.blt d st.n = true) (h : X rest (st.put d (.c y))) : X (⟨some d, .load t x, ty, pos, af, none⟩ :: rest) st := by
  obtain ⟨hk, rfl⟩ := List.getElem?_eq_some_iff.1 hr
  exact ao_load_v hx hH (by rw [flat_len J.len, hn]) (by rw [drop_atj J l k j hk (Nat.le_of_ble_eq_true hj), hy]; rfl) hd h
theorem ao_load_vfa0 [W : Walk P X] {α : Type} {enc : α → List CV} {x : Operand} {t b m q k E size : Nat} {l : List α} {r : α} {zs : List AV} [I : TyC P t true q] (hx : st.ev x = some (.vptr b m (k * size))) (hH : st.H b = some (.vec E size (l.flatMap enc))) (J : EncL enc size) (hn : l.length = m) (hr : l[k]? = some r) (hq : Nat.beq q size = true) (hz : (enc r).map .c = zs) (hd : Nat.blt d st.n = true) (h : X rest (st.put d (.agg zs))) : X (⟨some d, .load t x, ty, pos, af, none⟩ :: rest) st := by
  obtain ⟨hk, rfl⟩ := List.getElem?_eq_some_iff.1 hr
  subst hz
  exact ao_load_va (enc l[k]) hx hH (by rw [flat_len J.len, hn]) (drop_at J l k hk) (by rw [J.len, beq_true hq]) hd h
theorem ao_load_vfa [W : Walk P X] {α : Type} {enc : α → List CV} {x : Operand} {t b m q k j E size : Nat} {l : List α} {r : α} {zs : List AV} [I : TyC P t true q] (hx : st.ev x = some (.vptr b m (k * size + j))) (hH : st.H b = some (.vec E size (l.flatMap enc))) (J : EncL enc size) (hn : l.length = m) (hr : l[k]? = some r) (hj : Nat.ble (j + q) size = true) (hz : (((enc r).drop j).take q).map .c = zs) (hd : Nat.blt d st.n = true) (h : X rest (st.put d (.agg zs))) : X (⟨some d, .load t x, ty, pos, af, none⟩ :: rest) st := by
  obtain ⟨hk, rfl⟩ := List.getElem?_eq_some_iff.1 hr
  subst hz
  have hle := Nat.le_of_ble_eq_true hj
  refine ao_load_va (((enc l[k]).drop j).take q) (ys := ((enc l[k]).drop j).drop q ++ (l.drop (k + 1)).flatMap enc) hx hH (by rw [flat_len J.len, hn]) ?_ ?_ hd h
  · rw [drop_atj J l k j hk (by omega), ← List.append_assoc, List.take_append_drop]
  · rw [List.length_take, List.length_drop, J.len]; omega
theorem cell_new (w : World) (c : Array Value) (t : TypeId) (k : Nat) : (w.alloc (.cells c t)).cell? ⟨w.heap.size, k, none⟩ = c[k]? := by
  have h : (w.alloc (.cells c t)).heap[w.heap.size]? = some (.cells c t) := alloc_new _ _
  unfold World.cell?
  dsimp only
  rw [h]
  rfl
/-- A literal, taken as a closed list: a quiet step. -/
theorem ao_litq [W : Walk P X] {t E size bytes len : Nat} [I : SlT P t E size bytes] {parts : List (Nat × Operand)} {ps : List (Nat × AV)} {zs : List CV} (hp : evp st parts = some ps) (hi : ps.map (·.1) = List.range len) (hz : lits (ps.map (·.2)) = some zs) (hb : litB size (ps.map (·.2)) = true) (hl : Nat.ble 1 len = true) (hs2 : Nat.ble (len * size) 100000 = true) (hd : Nat.blt d st.n = true)
    (h : X rest (st.put d (.c (.lst size zs)))) : X (⟨some d, .buildSlice t len parts.toArray, ty, pos, af, none⟩ :: rest) st := by
  refine W.step rfl rfl hd (fun base w0 M a hs K Q hK => ?_) h
  obtain ⟨i, z, f1, f2, f3, f4, f5, f6⟩ := I.out
  obtain ⟨e1, e2⟩ := evp_get hp
  have hl := Nat.le_of_ble_eq_true hl
  have hs2 := Nat.le_of_ble_eq_true hs2
  have hplen : ps.length = len := by
    have := congrArg List.length hi
    simpa using this
  let vs : List Value := parts.map fun q => a.eval q.2
  have hvl : vs.length = len := by show (parts.map _).length = _; simp; omega
  have hra : ∀ (k : Nat) (y : AV) (v : Value), (ps.map (·.2))[k]? = some y → vs[k]? = some v → RA M y v := fun k y v hy hv => by
    obtain ⟨p, g1, rfl⟩ : ∃ p, ps[k]? = some p ∧ p.2 = y := by simpa using hy
    obtain ⟨q, g2, rfl⟩ : ∃ q, parts[k]? = some q ∧ a.eval q.2 = v := by simpa [vs] using hv
    exact hs.ev (by simp [Op.operands]; exact ⟨q.1, List.mem_of_getElem? g2⟩) (e2 k p q g1 g2).2
  obtain ⟨c1, c2, c3, c4⟩ := lits_get I.pos hz hb (by simp; omega) hra
  have hparts : (parts.map fun q => (q.1, a.eval q.2)) = (vs.zipIdx 0).map fun x => (x.2, x.1) := by
    apply List.ext_getElem?
    intro k
    simp only [List.getElem?_map, List.getElem?_zipIdx, vs]
    cases hk : parts[k]? with
    | none => simp
    | some q =>
      have hk' : k < parts.length := (List.getElem?_eq_some_iff.1 hk).1
      obtain ⟨p, hpk⟩ : ∃ p, ps[k]? = some p := ⟨_, List.getElem?_eq_getElem (by omega)⟩
      have h1 := (e2 k p q hpk hk).1
      have h2 : (ps.map (·.1))[k]? = some p.1 := by simp [hpk]
      rw [hi] at h2
      have h3 : k = p.1 := by
        have : k < len := by omega
        simpa [this] using h2
      simp [← h1, ← h3]
  have hfill := Great.fill_whole I.pos vs ((Array.range (len * size)).map (z.cells[· % z.cells.size]!)) c3 (by simp [hvl])
  have hne : len * size ≠ 0 := by
    have := I.pos
    exact Nat.mul_ne_zero (by omega) (by omega)
  have hrun : (execOp a.eval ⟨some d, .buildSlice t len parts.toArray, ty, pos, af, none⟩).run P M.w = .ok (.value (.slice (some ⟨M.w.heap.size, 0, none⟩) len len)) (M.w.alloc (.cells (vs.flatMap fun v => v.cells.toList).toArray E)) := by
    simp only [execOp]
    rw [Sem.run_bind, run_buildSlice (P := P) M.w t E len _ _ i z f1 f2 f3 (by rw [f4]; omega) (by rw [f4]; exact hne) (by rw [f4, show (Array.map (fun x : Nat × Operand => (x.fst, a.eval x.snd)) parts.toArray).toList = parts.map fun q => (q.1, a.eval q.2) from by simp, hparts]; exact hfill)]
    rfl
  have hb : Below M.w.heap.size M.w (M.w.alloc (.cells (vs.flatMap fun v => v.cells.toList).toArray E)) := (Below.refl _ _).alloc (Nat.le_refl _) _
  unfold Oper.wp
  rw [hrun]
  have hext := Ext.after hb hs.sim.heap.frz
  refine hK _ (M.after _) hext (fun s hs' => hs'.after hb) (.c (.lst (fun k => (vs.flatMap fun v => v.cells.toList).getD k undef) (by rw [c1, hvl]) (Nat.le_refl _) (.inr ⟨Nat.le_refl _, by simp [World.alloc]⟩) (fun k x hk => ?_) (fun k x hk => ?_)))
  · have hkl : k < (vs.flatMap fun v => v.cells.toList).length := by
      have := (List.getElem?_eq_some_iff.1 hk).1
      omega
    show (M.w.alloc _).cell? _ = _
    rw [cell_new, List.getD_eq_getElem?_getD, List.getElem?_eq_getElem hkl, Nat.zero_add]
    simp only [List.getElem?_toArray, List.getElem?_eq_getElem hkl, Option.getD_some]
  · have hkl : k < (vs.flatMap fun v => v.cells.toList).length := by
      have := (List.getElem?_eq_some_iff.1 hk).1
      omega
    have := c4 k x _ hk (List.getElem?_eq_getElem hkl)
    rw [List.getD_eq_getElem?_getD, List.getElem?_eq_getElem hkl]
    exact this.mono hext.F
end
end Go.Proofs.Ytokkpocccgdilaa.Ev
