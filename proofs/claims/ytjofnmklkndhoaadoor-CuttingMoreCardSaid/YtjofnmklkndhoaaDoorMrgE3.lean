/- Ev14 Ev15 EvR Ev16 Ev17 Ev18 Ev19 Ev22 Ev20: texts laid together. -/
import Derived.Test.YtjofnmklkndhoaaDoorMrgE2
import Derived.WalkSpells
/- Rules of a walk: reading the call's own lists. Nothing here names a program. -/
namespace Go.Proofs.YtjofnmklkndhoaaDoor.Ev
set_option linter.unusedVariables false
set_option linter.unusedSimpArgs false
open Go.RowKit
section
variable {P : Program} {X : List Oper → St → Prop} {rest : List Oper} {d : Nat} {ty : TypeId} {pos : String} {af : Array Edge} {st : St}
theorem ao_index_vf [W : Walk P X] {α : Type} {enc : α → List CV} {x i : Operand} {t E E2 size bytes b m : Nat} [I : SlT P t E size bytes] {l : List α} {kk : IntKind} {idx : Int} (k : Nat) (hx : st.ev x = some (.vec b m)) (hH : st.H b = some (.vec E2 size (l.flatMap enc))) (J : EncL enc size) (hn : l.length = m) (hi : st.ev i = some (.c (.v (.int kk idx)))) (hk : idx = (k : Int)) (hlt : k < m) (hd : Nat.blt d st.n = true)
    (h : X rest (st.put d (.vptr b m (k * size)))) : X (⟨some d, .indexAddr t x i, ty, pos, af, none⟩ :: rest) st :=
  ao_index_v k hx hH (by rw [flat_len J.len, hn]) hi hk hlt hd h
theorem ao_field_vf [W : Walk P X] {α : Type} {enc : α → List CV} {x : Operand} {s i k b m off : Nat} [I : FieldAt P s i k] {E size : Nat} {l : List α} (hx : st.ev x = some (.vptr b m off)) (hH : st.H b = some (.vec E size (l.flatMap enc))) (J : EncL enc size) (hn : l.length = m) (hd : Nat.blt d st.n = true) (h : X rest (st.put d (.vptr b m (off + k)))) : X (⟨some d, .fieldAddr s x i, ty, pos, af, none⟩ :: rest) st :=
  ao_field_v hx hH (by rw [flat_len J.len, hn]) hd h
theorem ao_load_vf0 [W : Walk P X] {α : Type} {enc : α → List CV} {x : Operand} {t b m q k E size : Nat} {l : List α} {r : α} {y : CV} {ys : List CV} [I : TyC P t false q] (hx : st.ev x = some (.vptr b m (k * size))) (hH : st.H b = some (.vec E size (l.flatMap enc))) (J : EncL enc size) (hn : l.length = m) (hr : l[k]? = some r) (hy : enc r = y :: ys) (hd : Nat.blt d st.n = true) (h : X rest (st.put d (.c y))) : X (⟨some d, .load t x, ty, pos, af, none⟩ :: rest) st := by
  obtain ⟨hk, rfl⟩ := List.getElem?_eq_some_iff.1 hr
  exact ao_load_v hx hH (by rw [flat_len J.len, hn]) (by rw [drop_at J l k hk, hy]; rfl) hd h
theorem ao_load_vf [W : Walk P X] {α : Type} {enc : α → List CV} {x : Operand} {t b m q k j E size : Nat} {l : List α} {r : α} {y : CV} {ys : List CV} [I : TyC P t false q] (hx : st.ev x = some (.vptr b m (k * size + j))) (hH : st.H b = some (.vec E size (l.flatMap enc))) (J : EncL enc size) (hn : l.length = m) (hr : l[k]? = some r) (hj : Nat.ble j size = true) (hy : (enc r).drop j = y :: ys) (hd : Nat.blt d st.n = true) (h : X rest (st.put d (.c y))) : X (⟨some d, .load t x, ty, pos, af, none⟩ :: rest) st := by
  obtain ⟨hk, rfl⟩ := List.getElem?_eq_some_iff.1 hr
  exact ao_load_v hx hH (by rw [flat_len J.len, hn]) (by rw [drop_atj J l k j hk (Nat.le_of_ble_eq_true hj), hy]; rfl) hd h
theorem ao_load_vfa0 [W : Walk P X] {α : Type} {enc : α → List CV} {x : Operand} {t b m q k E size : Nat} {l : List α} {r : α} {zs : List AV} [I : TyC P t true q] (hx : st.ev x = some (.vptr b m (k * size))) (hH : st.H b = some (.vec E size (l.flatMap enc))) (J : EncL enc size) (hn : l.length = m) (hr : l[k]? = some r) (hq : Nat.beq q size = true) (hz : (enc r).map .c = zs) (hd : Nat.blt d st.n = true) (h : X rest (st.put d (.agg zs))) : X (⟨some d, .load t x, ty, pos, af, none⟩ :: rest) st := by
  obtain ⟨hk, rfl⟩ := List.getElem?_eq_some_iff.1 hr
  subst hz
  exact ao_load_va (enc l[k]) hx hH (by rw [flat_len J.len, hn]) (drop_at J l k hk) (by rw [J.len, beq_true hq]) hd h
theorem ao_load_vfa [W : Walk P X] {α : Type} {enc : α → List CV} {x : Operand} {t b m q k j E size : Nat} {l : List α} {r : α} {zs : List AV} [I : TyC P t true q] (hx : st.ev x = some (.vptr b m (k * size + j))) (hH : st.H b = some (.vec E size (l.flatMap enc))) (J : EncL enc size) (hn : l.length = m) (hr : l[k]? = some r) (hj : Nat.ble (j + q) size = true) (hz : (((enc r).drop j).take q).map .c = zs) (hd : Nat.blt d st.n = true) (h : X rest (st.put d (.agg zs))) : X (⟨some d, .load t x, ty, pos, af, none⟩ :: rest) st := by
  obtain ⟨hk, rfl⟩ := List.getElem?_eq_some_iff.1 hr
  subst hz
  have hle := Nat.le_of_ble_eq_true hj
  refine ao_load_va (((enc l[k]).drop j).take q) (ys := ((enc l[k]).drop j).drop q ++ (l.drop (k + 1)).flatMap enc) hx hH (by rw [flat_len J.len, hn]) ?_ ?_ hd h
  · rw [drop_atj J l k j hk (by omega), ← List.append_assoc, List.take_append_drop]
  · rw [List.length_take, List.length_drop, J.len]; omega
theorem cell_new (w : World) (c : Array Value) (t : TypeId) (k : Nat) : (w.alloc (.cells c t)).cell? ⟨w.heap.size, k, none⟩ = c[k]? := by
  have h : (w.alloc (.cells c t)).heap[w.heap.size]? = some (.cells c t) := alloc_new _ _
  unfold World.cell?
  dsimp only
  rw [h]
  rfl
theorem ao_litq [W : Walk P X] {t E size bytes len : Nat} [I : SlT P t E size bytes] {parts : List (Nat × Operand)} {ps : List (Nat × AV)} {zs : List CV} (hp : evp st parts = some ps) (hi : ps.map (·.1) = List.range len) (hz : lits (ps.map (·.2)) = some zs) (hb : litB size (ps.map (·.2)) = true) (hl : Nat.ble 1 len = true) (hs2 : Nat.ble (len * size) 100000 = true) (hd : Nat.blt d st.n = true)
    (h : X rest (st.put d (.c (.lst size zs)))) : X (⟨some d, .buildSlice t len parts.toArray, ty, pos, af, none⟩ :: rest) st := by
  refine W.step rfl rfl hd (fun base w0 M a hs K Q hK => ?_) h
  obtain ⟨i, z, f1, f2, f3, f4, f5, f6⟩ := I.out
  obtain ⟨e1, e2⟩ := evp_get hp
  have hl := Nat.le_of_ble_eq_true hl
  have hs2 := Nat.le_of_ble_eq_true hs2
  have hplen : ps.length = len := by
    have := congrArg List.length hi
    simpa using this
  let vs : List Value := parts.map fun q => a.eval q.2
  have hvl : vs.length = len := by show (parts.map _).length = _; simp; omega
  have hra : ∀ (k : Nat) (y : AV) (v : Value), (ps.map (·.2))[k]? = some y → vs[k]? = some v → RA M y v := fun k y v hy hv => by
    obtain ⟨p, g1, rfl⟩ : ∃ p, ps[k]? = some p ∧ p.2 = y := by simpa using hy
    obtain ⟨q, g2, rfl⟩ : ∃ q, parts[k]? = some q ∧ a.eval q.2 = v := by simpa [vs] using hv
    exact hs.ev (by simp [Op.operands]; exact ⟨q.1, List.mem_of_getElem? g2⟩) (e2 k p q g1 g2).2
  obtain ⟨c1, c2, c3, c4⟩ := lits_get I.pos hz hb (by simp; omega) hra
  have hparts : (parts.map fun q => (q.1, a.eval q.2)) = (vs.zipIdx 0).map fun x => (x.2, x.1) := by
    apply List.ext_getElem?
    intro k
    simp only [List.getElem?_map, List.getElem?_zipIdx, vs]
    cases hk : parts[k]? with
    | none => simp
    | some q =>
      have hk' : k < parts.length := (List.getElem?_eq_some_iff.1 hk).1
      obtain ⟨p, hpk⟩ : ∃ p, ps[k]? = some p := ⟨_, List.getElem?_eq_getElem (by omega)⟩
      have h1 := (e2 k p q hpk hk).1
      have h2 : (ps.map (·.1))[k]? = some p.1 := by simp [hpk]
      rw [hi] at h2
      have h3 : k = p.1 := by
        have : k < len := by omega
        simpa [this] using h2
      simp [← h1, ← h3]
  have hfill := Great.fill_whole I.pos vs ((Array.range (len * size)).map (z.cells[· % z.cells.size]!)) c3 (by simp [hvl])
  have hne : len * size ≠ 0 := by
    have := I.pos
    exact Nat.mul_ne_zero (by omega) (by omega)
  have hrun : (execOp a.eval ⟨some d, .buildSlice t len parts.toArray, ty, pos, af, none⟩).run P M.w = .ok (.value (.slice (some ⟨M.w.heap.size, 0, none⟩) len len)) (M.w.alloc (.cells (vs.flatMap fun v => v.cells.toList).toArray E)) := by
    simp only [execOp]
    rw [Sem.run_bind, run_buildSlice (P := P) M.w t E len _ _ i z f1 f2 f3 (by rw [f4]; omega) (by rw [f4]; exact hne) (by rw [f4, show (Array.map (fun x : Nat × Operand => (x.fst, a.eval x.snd)) parts.toArray).toList = parts.map fun q => (q.1, a.eval q.2) from by simp, hparts]; exact hfill)]
    rfl
  have hb : Below M.w.heap.size M.w (M.w.alloc (.cells (vs.flatMap fun v => v.cells.toList).toArray E)) := (Below.refl _ _).alloc (Nat.le_refl _) _
  unfold Oper.wp
  rw [hrun]
  have hext := Ext.after hb hs.sim.heap.frz
  refine hK _ (M.after _) hext (fun s hs' => hs'.after hb) (.c (.lst (fun k => (vs.flatMap fun v => v.cells.toList).getD k undef) (by rw [c1, hvl]) (Nat.le_refl _) (.inr ⟨Nat.le_refl _, by simp [World.alloc]⟩) (fun k x hk => ?_) (fun k x hk => ?_)))
  · have hkl : k < (vs.flatMap fun v => v.cells.toList).length := by
      have := (List.getElem?_eq_some_iff.1 hk).1
      omega
    show (M.w.alloc _).cell? _ = _
    rw [cell_new, List.getD_eq_getElem?_getD, List.getElem?_eq_getElem hkl, Nat.zero_add]
    simp only [List.getElem?_toArray, List.getElem?_eq_getElem hkl, Option.getD_some]
  · have hkl : k < (vs.flatMap fun v => v.cells.toList).length := by
      have := (List.getElem?_eq_some_iff.1 hk).1
      omega
    have := c4 k x _ hk (List.getElem?_eq_getElem hkl)
    rw [List.getD_eq_getElem?_getD, List.getElem?_eq_getElem hkl]
    exact this.mono hext.F
end
end Go.Proofs.YtjofnmklkndhoaaDoor.Ev
/- Rules of a walk: regions that draw their order and make one box. Nothing here names a program. -/
namespace Go.Proofs.YtjofnmklkndhoaaDoor.Ev
set_option linter.unusedVariables false
set_option linter.unusedSimpArgs false
open Go.RowKit
section
variable {P : Program} {ops : Array Oper}
def AOp (P : Program) (o : Oper) (d : Nat) (x : AB) : Prop :=
  o.guard = none ∧ o.dst = some d ∧ ∀ (st : St) base w0 M a, Sim base w0 st M a → ∃ (u : Value) (c : Conc) (arr : Array Value) (t : TypeId), (execOp a.eval o).run P M.w = .ok (.value u) (M.w.alloc (.cells arr t)) ∧ Sim base w0 (st.new x) (M.new st x c (.cells arr t)) a ∧ RA (M.new st x c (.cells arr t)) (.ptr st.nx 0) u
theorem aop_alloc {d : Nat} {t : TypeId} {zs : List Value} {ty : TypeId} {pos : String} {af : Array Edge} [I : ZeroT P t zs] : AOp P ⟨some d, .alloc t, ty, pos, af, none⟩ d (.cells t (zs.map fun z => .c (.v z))) := by
  refine ⟨rfl, rfl, fun st base w0 M a hs => ?_⟩
  obtain ⟨i, z, h1, h2, h3⟩ := I.out
  refine ⟨.pointer (some ⟨M.w.heap.size, 0, none⟩), .blk M.w.heap.size, z.cells, t, ?_, hs.newB (fun g hg => by simpa [Conc.block] using hg.symm) ?_ (fun _ _ _ h => by cases h), ?_⟩
  · simp only [execOp]
    simp [Instr.alloc, zeroValue, typeInfo, h1, h2, newVar, newRow]
  · intro t' l hl
    simp only [AB.cells.injEq] at hl
    obtain ⟨rfl, rfl⟩ := hl
    subst h3
    refine ⟨rfl, rfl, by simp, fun i y u hy hu => ?_⟩
    simp only [List.getElem?_map, Array.getElem?_toList, hu, Option.map_some, Option.some.injEq] at hy
    subst hy; exact .c (.v _)
  · refine .ptr ?_
    simp [Wd.new, hs.nx]
inductive DG (P : Program) (ops : Array Oper) (o : Oper) (st : St) : St → Prop
  | q {d : Nat} {y : AV} (h : DY P ops o st d y) : DG P ops o st (st.put d y)
  | a {d : Nat} {x : AB} (h : AOp P o d x) (hd : Nat.blt d st.n = true) : DG P ops o st ((st.new x).put d (.ptr st.nx 0))
theorem StEq.new {s t : St} (h : StEq s t) (x : AB) : StEq (s.new x) (t.new x) :=
  ⟨h.n, by simp only [St.new]; rw [h.heap, h.nx], by simp only [St.new]; rw [h.nx], h.gl, h.env⟩
theorem DG.eq {o : Oper} {s t s' : St} (h : DG P ops o s s') (e : StEq s t) : ∃ t', DG P ops o t t' ∧ StEq s' t' := by
  cases h with
  | q h => exact ⟨_, .q (h.eq e), e.put _ _⟩
  | a h hd => exact ⟨_, .a h (by rw [← e.n]; exact hd), by rw [e.nx]; exact (e.new _).put _ _⟩
def Fr (st : St) : Prop := ∀ b, st.nx ≤ b → st.H b = none
def frB (heap : List (Nat × Option AB)) (nx : Nat) : Bool := heap.all fun p => Nat.blt p.1 nx
theorem fr_of {st : St} (h : frB st.heap st.nx = true) : Fr st := by
  intro b hb
  have : look b st.heap = none := by
    have h : ∀ p ∈ st.heap, p.1 < st.nx := fun p hp => blt_true (List.all_eq_true.1 h p hp)
    generalize st.heap = l at h
    induction l with
    | nil => rfl
    | cons p l ih =>
      rw [show p :: l = (p.1, p.2) :: l from rfl, look_cons, if_neg (by have := h p (by simp); omega)]
      exact ih (fun q hq => h q (by simp [hq]))
  unfold St.H; rw [this]
theorem Fr.put {st : St} (h : Fr st) (d : Nat) (y : AV) : Fr (st.put d y) := h
theorem Fr.new {st : St} (h : Fr st) (x : AB) : Fr (st.new x) := fun b hb => by
  have : st.nx + 1 ≤ b := hb
  rw [H_new, if_neg (by omega)]; exact h b (by omega)
theorem DY.new {o : Oper} {s : St} {d : Nat} {y : AV} (h : DY P ops o s d y) (hf : Fr s) (x : AB) : DY P ops o (s.new x) d y :=
  h.of rfl (fun b z hz => by
    rw [H_new, if_neg]
    · exact hz
    · intro e; subst e
      rw [hf _ (Nat.le_refl _)] at hz; cases hz) rfl (fun x _ => by cases x <;> rfl) (fun _ _ _ _ _ => rfl)
def DAny2 (P : Program) (md : Region.Mode) (ops : Array Oper) (n : Nat) (L : Array Bool → St → Prop) : Nat → Array Bool → St → Prop
  | 0, listed, st => L listed st
  | f + 1, listed, st => Region.ready md ops listed ≠ [] ∧ ∀ i ∈ Region.ready md ops listed, i < n ∧ ∃ o st', ops[i]? = some o ∧ DG P ops o st st' ∧ DAny2 P md ops n L f (listed.setIfInBounds i true) st'
variable {md : Region.Mode} {n : Nat} {L : Array Bool → St → Prop}
theorem DAny2.eq (hL : ∀ listed s t, StEq s t → L listed s → L listed t) : ∀ (f : Nat) (listed : Array Bool) (s t : St), StEq s t → DAny2 P md ops n L f listed s → DAny2 P md ops n L f listed t
  | 0, listed, s, t, e, h => hL listed s t e h
  | f + 1, listed, s, t, e, h => ⟨h.1, fun i hi => by
    obtain ⟨h1, o, s', h2, h3, h4⟩ := h.2 i hi
    obtain ⟨t', h5, h6⟩ := h3.eq e
    exact ⟨h1, o, t', h2, h5, DAny2.eq hL f _ _ _ h6 h4⟩⟩
theorem DAny2_last {i : Nat} {oi : Oper} (hi : ops[i]? = some oi) (hin : i < n) (hdone : ∀ listed st, L listed st → ∀ j ∈ Region.ready md ops listed, n ≤ j)
    (htail : ∀ listed, HeadInv md ops n listed → ∀ i, i < n → listed.getD i true = false → ∀ t, n ≤ t → t ∉ Region.ready md ops listed)
    (listed : Array Bool) (st st' : St) (inv : HeadInv md ops n listed) (hr : i ∈ Region.ready md ops listed) (hy : DG P ops oi st st') (H : L (listed.setIfInBounds i true) st') : DAny2 P md ops n L 1 listed st := by
  refine ⟨fun h0 => (by rw [h0] at hr; cases hr), fun j hj => ?_⟩
  have hjn : j < n := Nat.lt_of_not_le fun hc => htail listed inv i hin (mem_ready.1 hr).1 j hc hj
  by_cases hji : j = i
  · subst hji; exact ⟨hjn, oi, st', hi, hy, H⟩
  · have := hdone _ _ H j (ready_mono hj hji)
    omega
theorem DAny2_first {i : Nat} {oi : Oper} (hi : ops[i]? = some oi) (hin : i < n) (hL : ∀ listed s t, StEq s t → L listed s → L listed t) (hdone : ∀ listed st, L listed st → ∀ j ∈ Region.ready md ops listed, n ≤ j)
    (htail : ∀ listed, HeadInv md ops n listed → ∀ i, i < n → listed.getD i true = false → ∀ t, n ≤ t → t ∉ Region.ready md ops listed) :
    ∀ (f : Nat) (listed : Array Bool) (st : St) (d : Nat) (y : AV), Fr st → HeadInv md ops n listed →
      (∀ j oj, ops[j]? = some oj → j ≠ i → listed.getD j true = false → (∀ e ∈ oj.after, Region.binds md e = true → e.on ≠ i) → oi.apart ops oj = true) →
      i ∈ Region.ready md ops listed → DY P ops oi st d y → DAny2 P md ops n L f (listed.setIfInBounds i true) (st.put d y) → DAny2 P md ops n L (f + 1) listed st := by
  intro f
  induction f with
  | zero =>
    intro listed st d y _ inv hfree hr hy H
    exact DAny2_last hi hin hdone htail listed st _ inv hr (.q hy) H
  | succ f ih =>
    intro listed st d y fr inv hfree hr hy H
    refine ⟨fun h0 => (by rw [h0] at hr; cases hr), fun j hj => ?_⟩
    have hjn : j < n := Nat.lt_of_not_le fun hc => htail listed inv i hin (mem_ready.1 hr).1 j hc hj
    by_cases hji : j = i
    · subst hji; exact ⟨hjn, oi, _, hi, .q hy, H⟩
    · obtain ⟨_, oj, sj, h2, h3, h4⟩ := H.2 j (ready_mono hj hji)
      obtain ⟨hjun, oj', hoj, hall⟩ := mem_ready.1 hj
      have hoo : oj' = oj := Option.some.inj (hoj.symm.trans h2)
      subst hoo
      have hnot : ∀ e ∈ oj'.after, Region.binds md e = true → e.on ≠ i := fun e he hb heq => by
        have h1 := hall e he hb
        have h0 := getD_both (mem_ready.1 hr).1
        rw [heq, h0] at h1
        cases h1
      obtain ⟨a1, a2, a3⟩ := Oper.apart_spec (hfree j oj' hoj hji hjun hnot)
      have hdi : oi.dst = some d := hy.1
      have hfree' : ∀ k ok, ops[k]? = some ok → k ≠ i → (listed.setIfInBounds j true).getD k true = false → (∀ e ∈ ok.after, Region.binds md e = true → e.on ≠ i) → oi.apart ops ok = true := fun k ok hk hki hun hno => by
        refine hfree k ok hk hki ?_ hno
        by_cases hjk : j = k
        · subst hjk; exact hjun
        · rw [getD_set_ne true hjk] at hun; exact hun
      cases h3 with
      | @q dj yj h3 =>
        have hdj : oj'.dst = some dj := h3.1
        have hne : d ≠ dj := fun e => a2 d hdi (by rw [hdj, e])
        refine ⟨hjn, oj', _, h2, .q (h3.unput (a1 d hdi)), ?_⟩
        refine ih (listed.setIfInBounds j true) (st.put dj yj) d y (fr.put _ _) (inv.set hj hjn) hfree' (ready_mono hr (Ne.symm hji)) (hy.put yj (a3 dj hdj)) ?_
        rw [Array.setIfInBounds_comm _ _ hji]
        exact DAny2.eq hL f _ _ _ (StEq.comm st hne y yj) h4
      | @a dj x h3 hd3 =>
        have hdj : oj'.dst = some dj := h3.2.1
        have hne : d ≠ dj := fun e => a2 d hdi (by rw [hdj, e])
        refine ⟨hjn, oj', _, h2, .a h3 hd3, ?_⟩
        refine ih (listed.setIfInBounds j true) ((st.new x).put dj (.ptr st.nx 0)) d y ((fr.new x).put _ _) (inv.set hj hjn) hfree' (ready_mono hr (Ne.symm hji)) ((hy.new fr x).put _ (a3 dj hdj)) ?_
        rw [Array.setIfInBounds_comm _ _ hji]
        exact DAny2.eq hL f _ _ _ (StEq.comm (st.new x) hne y _) h4
theorem DAny2_lex {g : Nat} {Lq : St → Prop} {oa : Oper} {da : Nat} {x : AB} (hoa : ops[n]? = some oa) (ha : AOp P oa da x) (hLq : ∀ s t, StEq s t → Lq s → Lq t)
    (htail : ∀ listed, HeadInv md ops (n + 1) listed → ∀ i, i < n + 1 → listed.getD i true = false → ∀ t, n + 1 ≤ t → t ∉ Region.ready md ops listed) :
    ∀ (l : List Oper) (k : Nat) (listed : Array Bool) (st : St), (∀ j, j < l.length → l[j]? = ops[k + j]?) → k + l.length = n → HeadInv md ops (n + 1) listed → Fr st →
    Region.lexHead md ops g (l.length + 1) k listed = true → DSeq P ops (fun s => Nat.blt da s.n = true ∧ Lq ((s.new x).put da (.ptr s.nx 0))) l st → DAny2 P md ops (n + 1) (fun listed' st' => Region.seqB md ops g (n + 1) listed' = true ∧ Lq st') (l.length + 1) listed st
  | [], k, listed, st, _, hk, inv, _, hB, h => by
    have : k = n := by simpa using hk
    subst this
    simp only [List.length_nil, Region.lexHead, Bool.and_eq_true] at hB
    obtain ⟨⟨hr, hf⟩, hB'⟩ := hB
    have hr' : k ∈ Region.ready md ops listed := by simpa using hr
    exact DAny2_last hoa (Nat.lt_succ_self _) (fun listed' st' hL => seqB_ready hL.1) htail listed st _ inv hr' (.a ha h.1) ⟨hB', h.2⟩
  | o :: l, k, listed, st, hl, hk, inv, fr, hB, h => by
    have h0 : ops[k]? = some o := by simpa using (hl 0 (by simp)).symm
    simp only [List.length_cons] at hB
    unfold Region.lexHead at hB
    simp only [Bool.and_eq_true] at hB
    obtain ⟨⟨hr, hf⟩, hB'⟩ := hB
    have hkn : k < n + 1 := by simp only [List.length_cons] at hk; omega
    have hr' : k ∈ Region.ready md ops listed := by simpa using hr
    obtain ⟨d, y, hy, hK⟩ := h
    exact DAny2_first h0 hkn (fun listed s t e hh => ⟨hh.1, hLq s t e hh.2⟩) (fun listed' st' hL => seqB_ready hL.1) htail (l.length + 1) listed st d y fr inv (Region.free_spec h0 hf) hr' hy
      (DAny2_lex hoa ha hLq htail l (k + 1) _ _ (fun j hj => by have := hl (j + 1) (by simp; omega); simpa [Nat.add_assoc, Nat.add_comm 1 j] using this) (by simp only [List.length_cons] at hk; omega) (inv.set hr' hkn) (fr.put _ _) hB' hK)
theorem DG.wp {base : Nat} {w0 : W0} {st st' : St} {M : Wd} {a : Act} {i : Nat} {o : Oper} {K : Act → World → Prop} {Q' : Exit → Act → World → Prop} (hi : ops[i]? = some o) (h : DG P ops o st st') (hs : Sim base w0 st M a)
    (hK : ∀ M' a', Ext M M' → Sim base w0 st' M' a' → K a' M'.w) : wpOp P ops Q' i K a M.w := by
  cases h with
  | q h => exact h.wp hi hs hK
  | @a d x h hd =>
    obtain ⟨g, hdst, hrun⟩ := h
    obtain ⟨u, c, arr, t, e1, e2, e3⟩ := hrun st base w0 M a hs
    unfold wpOp
    simp only [hi]
    rw [if_pos (by simp [Region.wanted, g])]
    refine .inl ?_
    unfold Oper.wp
    rw [e1]
    have := hK (M.new st x c (.cells arr t)) (a.put o.dst u) (hs.extNew x c _) (by rw [hdst]; exact e2.put hd e3)
    exact this
theorem wpAny_of_DAny2 {base : Nat} {w0 : W0} {M0 : Wd} {Q : Exit → St → Prop} {g : Nat} (hL : ∀ listed st M a, L listed st → Sim base w0 st M a → Ext M0 M → wpAny P md ops (Lift base w0 M0 Q) g listed a M.w) :
    ∀ (f : Nat) (listed : Array Bool) (st : St) (M : Wd) (a : Act), Sim base w0 st M a → Ext M0 M → DAny2 P md ops n L f listed st → wpAny P md ops (Lift base w0 M0 Q) (f + g) listed a M.w
  | 0, listed, st, M, a, hs, he, h => by rw [Nat.zero_add]; exact hL _ _ _ _ h hs he
  | f + 1, listed, st, M, a, hs, he, h => by
    rw [show f + 1 + g = (f + g) + 1 by omega]
    refine ⟨fun h0 => absurd h0 h.1, fun i hi => ?_⟩
    obtain ⟨_, o, st', h1, h2, h3⟩ := h.2 i hi
    exact h2.wp h1 hs fun M' a' hext hs' => wpAny_of_DAny2 hL f _ _ M' a' hs' (he.trans hext) h3
theorem aw_drawA {id : Nat} {l : List Oper} {Q : Exit → St → Prop} {st : St} [m : Mixed P] (n : Nat) {oa : Oper} {da : Nat} {x : AB} (hB : drawB l.toArray (n + 1) = true) (hoa : l[n]? = some oa) (ha : AOp P oa da x) (hf : frB st.heap st.nx = true)
    (h : DSeq P l.toArray (fun s => Nat.blt da s.n = true ∧ AOps P l.toArray Q (l.drop (n + 1)) ((s.new x).put da (.ptr s.nx 0))) (l.take n) st) : Awp P (.region id l.toArray true) Q st := by
  simp only [drawB, Bool.and_eq_true, Bool.or_eq_true] at hB
  obtain ⟨⟨⟨hsel, hle⟩, hcase⟩, hlex⟩ := hB
  have hle := Nat.le_of_ble_eq_true hle
  have hle' : n + 1 ≤ l.length := by simpa using hle
  have htl : (l.take n).length = n := by simp; omega
  have hdl : (l.drop (n + 1)).length = l.toArray.size - (n + 1) := by simp
  have inv0 : HeadInv .any l.toArray (n + 1) (Array.replicate l.toArray.size false) :=
    ⟨by simp, fun j oj _ hl => (by rw [getD_replicate_false] at hl; cases hl), fun t _ ht => getD_in (by simpa using ht) (getD_replicate_false _ _)⟩
  have htail : ∀ listed, HeadInv .any l.toArray (n + 1) listed → ∀ i, i < n + 1 → listed.getD i true = false → ∀ t, n + 1 ≤ t → t ∉ Region.ready .any l.toArray listed := by
    intro listed inv i hi hun t ht
    rcases hcase with he | ⟨hs, hc⟩
    · intro hr
      obtain ⟨_, o, ho, _⟩ := mem_ready.1 hr
      have := (Array.getElem?_eq_some_iff.1 ho).1
      have := beq_true he
      omega
    · rcases Nat.lt_or_ge (n + 1) l.toArray.size with hn | hn
      · exact tail_waits hs hc hn inv _ i rfl hi hun t ht
      · intro hr
        obtain ⟨_, o, ho, _⟩ := mem_ready.1 hr
        have := (Array.getElem?_eq_some_iff.1 ho).1
        omega
  intro base w0 M a hs
  have H := DAny2_lex (P := P) (md := .any) (ops := l.toArray) (n := n) (g := l.toArray.size - (n + 1)) (Lq := AOps P l.toArray Q (l.drop (n + 1))) (by simpa using hoa) ha (fun s t e hh => fun base w0 M a hs' => hh base w0 M a (e.symm.sim hs')) htail (l.take n) 0 _ st (fun j hj => by
    have hj' : j < n := by rw [htl] at hj; exact hj
    simp [hj']) (by simpa using htl) inv0 (fr_of hf) (by rw [htl]; exact hlex) h
  refine wp_region_any m.h ?_
  have := wpAny_of_DAny2 (P := P) (md := .any) (ops := l.toArray) (n := n + 1) (base := base) (w0 := w0) (M0 := M) (Q := Q) (g := l.toArray.size - (n + 1)) (fun listed st' M' a' hL hs' he => by
    have h1 := wpList_monoQ (fun e a w => Lift.ext he) _ _ _ (hL.2 base w0 M' a' hs')
    have h2 := wpAny_of_seq (md := .any) (l.drop (n + 1)) (n + 1) listed a' M'.w (fun j => by simp) (by rw [hdl]; exact hL.1) h1
    rwa [hdl] at h2) ((l.take n).length + 1) (Array.replicate l.toArray.size false) st M.drew a hs.drew (Ext.drew M) H
  rw [htl] at this
  rw [show n + 1 + (l.toArray.size - (n + 1)) = l.toArray.size by omega] at this
  exact this
theorem ds_nilA {da nn nx : Nat} {x : AB} {tl : List Oper} {env : List (Nat × AV)} {heap : List (Nat × Option AB)} {gl : List (Nat × List CV)} {Q : Exit → St → Prop} (h1 : Nat.blt da nn = true) (h2 : AOps P ops Q tl ⟨nn, (da, .ptr nx 0) :: env, (nx, some x) :: heap, nx + 1, gl⟩) : DSeq P ops (fun s => Nat.blt da s.n = true ∧ AOps P ops Q tl ((s.new x).put da (.ptr s.nx 0))) [] ⟨nn, env, heap, nx, gl⟩ := ⟨h1, h2⟩
end
end Go.Proofs.YtjofnmklkndhoaaDoor.Ev
/- The rules of a walk, over states that are written out. Nothing here names a program. -/
namespace Go.Proofs.YtjofnmklkndhoaaDoor.Ev
set_option linter.unusedVariables false
set_option linter.unusedSimpArgs false
open Go.RowKit
section
variable {P : Program} {ops : Array Oper} {Q : Exit → St → Prop} {X : List Oper → St → Prop} {rest : List Oper} {d : Nat} {ty : TypeId} {pos : String} {af : Array Edge} {n : Nat} {env : List (Nat × AV)} {heap : List (Nat × Option AB)} {nx : Nat} {gl : List (Nat × List CV)}
theorem r_move [W : Walk P X] {x : Operand} {y : AV} (hx : St.ev ⟨n, env, heap, nx, gl⟩ x = some y) (hd : Nat.blt d n = true) (h : X rest ⟨n, (d, y) :: env, heap, nx, gl⟩) : X (⟨some d, .move x, ty, pos, af, none⟩ :: rest) ⟨n, env, heap, nx, gl⟩ :=
  ao_move (st := ⟨n, env, heap, nx, gl⟩) hx hd h
theorem r_assign [W : Walk P X] {x : Operand} {y : AV} (hx : St.ev ⟨n, env, heap, nx, gl⟩ x = some y) (hd : Nat.blt d n = true) (h : X rest ⟨n, (d, y) :: env, heap, nx, gl⟩) : X (⟨some d, .assign x, ty, pos, af, none⟩ :: rest) ⟨n, env, heap, nx, gl⟩ :=
  ao_assign (st := ⟨n, env, heap, nx, gl⟩) hx hd h
theorem r_pick_t [W : Walk P X] {c x y : Operand} {z : AV} (hc : St.ev ⟨n, env, heap, nx, gl⟩ c = some (.c (.v (.bool true)))) (hx : St.ev ⟨n, env, heap, nx, gl⟩ x = some z) (hd : Nat.blt d n = true) (h : X rest ⟨n, (d, z) :: env, heap, nx, gl⟩) : X (⟨some d, .pick c x y, ty, pos, af, none⟩ :: rest) ⟨n, env, heap, nx, gl⟩ :=
  ao_pick_t (st := ⟨n, env, heap, nx, gl⟩) hc hx hd h
theorem r_pick_f [W : Walk P X] {c x y : Operand} {z : AV} (hc : St.ev ⟨n, env, heap, nx, gl⟩ c = some (.c (.v (.bool false)))) (hy : St.ev ⟨n, env, heap, nx, gl⟩ y = some z) (hd : Nat.blt d n = true) (h : X rest ⟨n, (d, z) :: env, heap, nx, gl⟩) : X (⟨some d, .pick c x y, ty, pos, af, none⟩ :: rest) ⟨n, env, heap, nx, gl⟩ :=
  ao_pick_f (st := ⟨n, env, heap, nx, gl⟩) hc hy hd h
theorem r_pick [W : Walk P X] {c x y : Operand} {b b1 b2 : Bool} (hc : St.ev ⟨n, env, heap, nx, gl⟩ c = some (.c (.v (.bool b)))) (hx : St.ev ⟨n, env, heap, nx, gl⟩ x = some (.c (.v (.bool b1)))) (hy : St.ev ⟨n, env, heap, nx, gl⟩ y = some (.c (.v (.bool b2)))) (hd : Nat.blt d n = true) (h : X rest ⟨n, (d, (.c (.v (.bool (if b then b1 else b2))))) :: env, heap, nx, gl⟩) : X (⟨some d, .pick c x y, ty, pos, af, none⟩ :: rest) ⟨n, env, heap, nx, gl⟩ :=
  ao_pick (st := ⟨n, env, heap, nx, gl⟩) hc hx hy hd h
theorem r_not [W : Walk P X] {x : Operand} {t : TypeId} {b : Bool} (hx : St.ev ⟨n, env, heap, nx, gl⟩ x = some (.c (.v (.bool b)))) (hd : Nat.blt d n = true) (h : X rest ⟨n, (d, (.c (.v (.bool !b)))) :: env, heap, nx, gl⟩) : X (⟨some d, .unOp .not t x, ty, pos, af, none⟩ :: rest) ⟨n, env, heap, nx, gl⟩ :=
  ao_not (st := ⟨n, env, heap, nx, gl⟩) hx hd h
theorem r_neg [W : Walk P X] {x : Operand} {t : TypeId} {n' : Int} (hx : St.ev ⟨n, env, heap, nx, gl⟩ x = some (.c (.v (.int .i64 n')))) (hf : fits (-n')) (hd : Nat.blt d n = true) (h : X rest ⟨n, (d, (.c (.v (.int .i64 (-n'))))) :: env, heap, nx, gl⟩) : X (⟨some d, .unOp .neg t x, ty, pos, af, none⟩ :: rest) ⟨n, env, heap, nx, gl⟩ :=
  ao_neg (st := ⟨n, env, heap, nx, gl⟩) hx hf hd h
theorem r_extract [W : Walk P X] {x : Operand} {i : Nat} {xs : List AV} {y : AV} (hx : St.ev ⟨n, env, heap, nx, gl⟩ x = some (.tup xs)) (hi : xs[i]? = some y) (hd : Nat.blt d n = true) (h : X rest ⟨n, (d, y) :: env, heap, nx, gl⟩) : X (⟨some d, .extract x i, ty, pos, af, none⟩ :: rest) ⟨n, env, heap, nx, gl⟩ :=
  ao_extract (st := ⟨n, env, heap, nx, gl⟩) hx hi hd h
theorem r_lss [W : Walk P X] {x y : Operand} {t t2 : TypeId} {k : IntKind} {a b : Int} (hx : St.ev ⟨n, env, heap, nx, gl⟩ x = some (.c (.v (.int k a)))) (hy : St.ev ⟨n, env, heap, nx, gl⟩ y = some (.c (.v (.int k b)))) (hd : Nat.blt d n = true) (h : X rest ⟨n, (d, (.c (.v (.bool (decide (a < b)))))) :: env, heap, nx, gl⟩) : X (⟨some d, .binOp .lss t x y t2, ty, pos, af, none⟩ :: rest) ⟨n, env, heap, nx, gl⟩ :=
  ao_lss (st := ⟨n, env, heap, nx, gl⟩) hx hy hd h
theorem r_leq [W : Walk P X] {x y : Operand} {t t2 : TypeId} {k : IntKind} {a b : Int} (hx : St.ev ⟨n, env, heap, nx, gl⟩ x = some (.c (.v (.int k a)))) (hy : St.ev ⟨n, env, heap, nx, gl⟩ y = some (.c (.v (.int k b)))) (hd : Nat.blt d n = true) (h : X rest ⟨n, (d, (.c (.v (.bool (decide (a ≤ b)))))) :: env, heap, nx, gl⟩) : X (⟨some d, .binOp .leq t x y t2, ty, pos, af, none⟩ :: rest) ⟨n, env, heap, nx, gl⟩ :=
  ao_leq (st := ⟨n, env, heap, nx, gl⟩) hx hy hd h
theorem r_gtr [W : Walk P X] {x y : Operand} {t t2 : TypeId} {k : IntKind} {a b : Int} (hx : St.ev ⟨n, env, heap, nx, gl⟩ x = some (.c (.v (.int k a)))) (hy : St.ev ⟨n, env, heap, nx, gl⟩ y = some (.c (.v (.int k b)))) (hd : Nat.blt d n = true) (h : X rest ⟨n, (d, (.c (.v (.bool (decide (a > b)))))) :: env, heap, nx, gl⟩) : X (⟨some d, .binOp .gtr t x y t2, ty, pos, af, none⟩ :: rest) ⟨n, env, heap, nx, gl⟩ :=
  ao_gtr (st := ⟨n, env, heap, nx, gl⟩) hx hy hd h
theorem r_geq [W : Walk P X] {x y : Operand} {t t2 : TypeId} {k : IntKind} {a b : Int} (hx : St.ev ⟨n, env, heap, nx, gl⟩ x = some (.c (.v (.int k a)))) (hy : St.ev ⟨n, env, heap, nx, gl⟩ y = some (.c (.v (.int k b)))) (hd : Nat.blt d n = true) (h : X rest ⟨n, (d, (.c (.v (.bool (decide (a ≥ b)))))) :: env, heap, nx, gl⟩) : X (⟨some d, .binOp .geq t x y t2, ty, pos, af, none⟩ :: rest) ⟨n, env, heap, nx, gl⟩ :=
  ao_geq (st := ⟨n, env, heap, nx, gl⟩) hx hy hd h
theorem r_eql [W : Walk P X] {x y : Operand} {t t2 : TypeId} {k : IntKind} {a b : Int} (hx : St.ev ⟨n, env, heap, nx, gl⟩ x = some (.c (.v (.int k a)))) (hy : St.ev ⟨n, env, heap, nx, gl⟩ y = some (.c (.v (.int k b)))) (hd : Nat.blt d n = true) (h : X rest ⟨n, (d, (.c (.v (.bool (decide (a = b)))))) :: env, heap, nx, gl⟩) : X (⟨some d, .binOp .eql t x y t2, ty, pos, af, none⟩ :: rest) ⟨n, env, heap, nx, gl⟩ :=
  ao_eql (st := ⟨n, env, heap, nx, gl⟩) hx hy hd h
theorem r_neq [W : Walk P X] {x y : Operand} {t t2 : TypeId} {k : IntKind} {a b : Int} (hx : St.ev ⟨n, env, heap, nx, gl⟩ x = some (.c (.v (.int k a)))) (hy : St.ev ⟨n, env, heap, nx, gl⟩ y = some (.c (.v (.int k b)))) (hd : Nat.blt d n = true) (h : X rest ⟨n, (d, (.c (.v (.bool (!decide (a = b)))))) :: env, heap, nx, gl⟩) : X (⟨some d, .binOp .neq t x y t2, ty, pos, af, none⟩ :: rest) ⟨n, env, heap, nx, gl⟩ :=
  ao_neq (st := ⟨n, env, heap, nx, gl⟩) hx hy hd h
theorem r_add [W : Walk P X] {x y : Operand} {t t2 : TypeId} {a b : Int} (hx : St.ev ⟨n, env, heap, nx, gl⟩ x = some (.c (.v (.int .i64 a)))) (hy : St.ev ⟨n, env, heap, nx, gl⟩ y = some (.c (.v (.int .i64 b)))) (hf : fits (a + b)) (hd : Nat.blt d n = true) (h : X rest ⟨n, (d, (.c (.v (.int .i64 (a + b))))) :: env, heap, nx, gl⟩) : X (⟨some d, .binOp .add t x y t2, ty, pos, af, none⟩ :: rest) ⟨n, env, heap, nx, gl⟩ :=
  ao_add (st := ⟨n, env, heap, nx, gl⟩) hx hy hf hd h
theorem r_sub [W : Walk P X] {x y : Operand} {t t2 : TypeId} {a b : Int} (hx : St.ev ⟨n, env, heap, nx, gl⟩ x = some (.c (.v (.int .i64 a)))) (hy : St.ev ⟨n, env, heap, nx, gl⟩ y = some (.c (.v (.int .i64 b)))) (hf : fits (a - b)) (hd : Nat.blt d n = true) (h : X rest ⟨n, (d, (.c (.v (.int .i64 (a - b))))) :: env, heap, nx, gl⟩) : X (⟨some d, .binOp .sub t x y t2, ty, pos, af, none⟩ :: rest) ⟨n, env, heap, nx, gl⟩ :=
  ao_sub (st := ⟨n, env, heap, nx, gl⟩) hx hy hf hd h
theorem r_mul [W : Walk P X] {x y : Operand} {t t2 : TypeId} {a b : Int} (hx : St.ev ⟨n, env, heap, nx, gl⟩ x = some (.c (.v (.int .i64 a)))) (hy : St.ev ⟨n, env, heap, nx, gl⟩ y = some (.c (.v (.int .i64 b)))) (hf : fits (a * b)) (hd : Nat.blt d n = true) (h : X rest ⟨n, (d, (.c (.v (.int .i64 (a * b))))) :: env, heap, nx, gl⟩) : X (⟨some d, .binOp .mul t x y t2, ty, pos, af, none⟩ :: rest) ⟨n, env, heap, nx, gl⟩ :=
  ao_mul (st := ⟨n, env, heap, nx, gl⟩) hx hy hf hd h
theorem r_rem [W : Walk P X] {x y : Operand} {t t2 : TypeId} {a b : Int} (hx : St.ev ⟨n, env, heap, nx, gl⟩ x = some (.c (.v (.int .i64 a)))) (hy : St.ev ⟨n, env, heap, nx, gl⟩ y = some (.c (.v (.int .i64 b)))) (h0 : b ≠ 0) (hd : Nat.blt d n = true) (h : X rest ⟨n, (d, (.c (.v (.int .i64 (a.tmod b))))) :: env, heap, nx, gl⟩) : X (⟨some d, .binOp .rem t x y t2, ty, pos, af, none⟩ :: rest) ⟨n, env, heap, nx, gl⟩ :=
  ao_rem (st := ⟨n, env, heap, nx, gl⟩) hx hy h0 hd h
theorem r_max [W : Walk P X] {x y : Operand} {ts : Array TypeId} {k : IntKind} {a b : Int} (hx : St.ev ⟨n, env, heap, nx, gl⟩ x = some (.c (.v (.int k a)))) (hy : St.ev ⟨n, env, heap, nx, gl⟩ y = some (.c (.v (.int k b)))) (hd : Nat.blt d n = true) (h : X rest ⟨n, (d, (.c (.v (.int k (max a b))))) :: env, heap, nx, gl⟩) : X (⟨some d, .call ⟨.builtin .max, #[x, y], ts⟩, ty, pos, af, none⟩ :: rest) ⟨n, env, heap, nx, gl⟩ :=
  ao_max (st := ⟨n, env, heap, nx, gl⟩) hx hy hd h
theorem r_min [W : Walk P X] {x y : Operand} {ts : Array TypeId} {k : IntKind} {a b : Int} (hx : St.ev ⟨n, env, heap, nx, gl⟩ x = some (.c (.v (.int k a)))) (hy : St.ev ⟨n, env, heap, nx, gl⟩ y = some (.c (.v (.int k b)))) (hd : Nat.blt d n = true) (h : X rest ⟨n, (d, (.c (.v (.int k (min a b))))) :: env, heap, nx, gl⟩) : X (⟨some d, .call ⟨.builtin .min, #[x, y], ts⟩, ty, pos, af, none⟩ :: rest) ⟨n, env, heap, nx, gl⟩ :=
  ao_min (st := ⟨n, env, heap, nx, gl⟩) hx hy hd h
theorem r_max3 [W : Walk P X] {x y z : Operand} {ts : Array TypeId} {k : IntKind} {a b c : Int} (hx : St.ev ⟨n, env, heap, nx, gl⟩ x = some (.c (.v (.int k a)))) (hy : St.ev ⟨n, env, heap, nx, gl⟩ y = some (.c (.v (.int k b)))) (hz : St.ev ⟨n, env, heap, nx, gl⟩ z = some (.c (.v (.int k c)))) (hd : Nat.blt d n = true) (h : X rest ⟨n, (d, (.c (.v (.int k (max (max a b) c))))) :: env, heap, nx, gl⟩) : X (⟨some d, .call ⟨.builtin .max, #[x, y, z], ts⟩, ty, pos, af, none⟩ :: rest) ⟨n, env, heap, nx, gl⟩ :=
  ao_max3 (st := ⟨n, env, heap, nx, gl⟩) hx hy hz hd h
theorem r_guard {dst : Option Tmp} {op : Op} {j t : Nat} {want b : Bool} (hj : (ops[j]?).bind (·.dst) = some t) (hb : look t env = some (.c (.v (.bool b)))) (hdst : dst = some d) (hd : Nat.blt d n = true) (h : b = want → AOps P ops Q (⟨dst, op, ty, pos, af, none⟩ :: rest) ⟨n, (t, (.c (.v (.bool want)))) :: env, heap, nx, gl⟩) (h' : b = !want → AOps P ops Q rest ⟨n, (d, (.c (.v undef))) :: (t, (.c (.v (.bool !want)))) :: env, heap, nx, gl⟩) : AOps P ops Q (⟨dst, op, ty, pos, af, some (j, want)⟩ :: rest) ⟨n, env, heap, nx, gl⟩ :=
  ao_guard (st := ⟨n, env, heap, nx, gl⟩) hj hb hdst hd h h'
theorem r_guard_none {dst : Option Tmp} {op : Op} {j t : Nat} {want : Bool} (hj : (ops[j]?).bind (·.dst) = some t) (hb : look t env = some (.c (.v undef))) (hdst : dst = some d) (hd : Nat.blt d n = true) (h : AOps P ops Q rest ⟨n, (d, (.c (.v undef))) :: env, heap, nx, gl⟩) : AOps P ops Q (⟨dst, op, ty, pos, af, some (j, want)⟩ :: rest) ⟨n, env, heap, nx, gl⟩ :=
  ao_guard_none (st := ⟨n, env, heap, nx, gl⟩) hj hb hdst hd h
theorem r_field_p [W : Walk P X] {x : Operand} {s i k b off : Nat} [I : FieldAt P s i k] (hx : St.ev ⟨n, env, heap, nx, gl⟩ x = some (.ptr b off)) (hd : Nat.blt d n = true) (h : X rest ⟨n, (d, (.ptr b (off + k))) :: env, heap, nx, gl⟩) : X (⟨some d, .fieldAddr s x i, ty, pos, af, none⟩ :: rest) ⟨n, env, heap, nx, gl⟩ :=
  ao_field_p (st := ⟨n, env, heap, nx, gl⟩) hx hd h
theorem r_field_e [W : Walk P X] {x : Operand} {s i k off : Nat} {xs : List CV} [I : FieldAt P s i k] (hx : St.ev ⟨n, env, heap, nx, gl⟩ x = some (.eptr xs off)) (hd : Nat.blt d n = true) (h : X rest ⟨n, (d, (.eptr xs (off + k))) :: env, heap, nx, gl⟩) : X (⟨some d, .fieldAddr s x i, ty, pos, af, none⟩ :: rest) ⟨n, env, heap, nx, gl⟩ :=
  ao_field_e (st := ⟨n, env, heap, nx, gl⟩) hx hd h
theorem r_load_p [W : Walk P X] {x : Operand} {t b off n' : Nat} {t' : TypeId} {l : List AV} {y : AV} [I : TyC P t false n'] (hx : St.ev ⟨n, env, heap, nx, gl⟩ x = some (.ptr b off)) (hH : St.H ⟨n, env, heap, nx, gl⟩ b = some (.cells t' l)) (hy : l[off]? = some y) (hd : Nat.blt d n = true) (h : X rest ⟨n, (d, y) :: env, heap, nx, gl⟩) : X (⟨some d, .load t x, ty, pos, af, none⟩ :: rest) ⟨n, env, heap, nx, gl⟩ :=
  ao_load_p (st := ⟨n, env, heap, nx, gl⟩) hx hH hy hd h
theorem r_load_pa [W : Walk P X] {x : Operand} {t b off n' : Nat} {t' : TypeId} {l : List AV} [I : TyC P t true n'] (ys : List AV) (hx : St.ev ⟨n, env, heap, nx, gl⟩ x = some (.ptr b off)) (hH : St.H ⟨n, env, heap, nx, gl⟩ b = some (.cells t' l)) (hy : (l.drop off).take n' = ys) (hn : ys.length = n') (hd : Nat.blt d n = true) (h : X rest ⟨n, (d, (.agg ys)) :: env, heap, nx, gl⟩) : X (⟨some d, .load t x, ty, pos, af, none⟩ :: rest) ⟨n, env, heap, nx, gl⟩ :=
  ao_load_pa (st := ⟨n, env, heap, nx, gl⟩) ys hx hH hy hn hd h
theorem r_load_ea [W : Walk P X] {x : Operand} {t off n' : Nat} {xs : List CV} (zs : List CV) {ys : List CV} [I : TyC P t true n'] (hx : St.ev ⟨n, env, heap, nx, gl⟩ x = some (.eptr xs off)) (hy : xs.drop off = zs ++ ys) (hn : zs.length = n') (hd : Nat.blt d n = true) (h : X rest ⟨n, (d, (.agg (zs.map .c))) :: env, heap, nx, gl⟩) : X (⟨some d, .load t x, ty, pos, af, none⟩ :: rest) ⟨n, env, heap, nx, gl⟩ :=
  ao_load_ea (st := ⟨n, env, heap, nx, gl⟩) zs hx hy hn hd h
theorem r_box {x : Operand} {t : TypeId} {y : AV} (hx : St.ev ⟨n, env, heap, nx, gl⟩ x = some y) (hc : y.cellB = true) (hd : Nat.blt d n = true) (h : AOps P ops Q rest ⟨n, (d, (.ptr nx 0)) :: env, (nx, some (.cells t [y])) :: heap, nx + 1, gl⟩) : AOps P ops Q (⟨some d, .box t x, ty, pos, af, none⟩ :: rest) ⟨n, env, heap, nx, gl⟩ :=
  ao_box (st := ⟨n, env, heap, nx, gl⟩) hx hc hd h
theorem r_box_a {x : Operand} {t : TypeId} {ys : List AV} (hx : St.ev ⟨n, env, heap, nx, gl⟩ x = some (.agg ys)) (hd : Nat.blt d n = true) (h : AOps P ops Q rest ⟨n, (d, (.ptr nx 0)) :: env, (nx, some (.cells t ys)) :: heap, nx + 1, gl⟩) : AOps P ops Q (⟨some d, .box t x, ty, pos, af, none⟩ :: rest) ⟨n, env, heap, nx, gl⟩ :=
  ao_box_a (st := ⟨n, env, heap, nx, gl⟩) hx hd h
theorem r_alloc {t : TypeId} {zs : List Value} [I : ZeroT P t zs] (hd : Nat.blt d n = true) (h : AOps P ops Q rest ⟨n, (d, (.ptr nx 0)) :: env, (nx, some (.cells t (zs.map fun z => .c (.v z)))) :: heap, nx + 1, gl⟩) : AOps P ops Q (⟨some d, .alloc t, ty, pos, af, none⟩ :: rest) ⟨n, env, heap, nx, gl⟩ :=
  ao_alloc (st := ⟨n, env, heap, nx, gl⟩) hd h
theorem r_store_p {x z : Operand} {t n' b off : Nat} {ag : Bool} {t' : TypeId} {l : List AV} {y : AV} [I : TyC P t ag n'] (hx : St.ev ⟨n, env, heap, nx, gl⟩ x = some (.ptr b off)) (hz : St.ev ⟨n, env, heap, nx, gl⟩ z = some y) (hc : y.cellB = true) (h1 : n' = 1) (hH : St.H ⟨n, env, heap, nx, gl⟩ b = some (.cells t' l)) (hl : Nat.blt off l.length = true) (h : AOps P ops Q rest ⟨n, env, (b, some (.cells t' (l.set off y))) :: heap, nx, gl⟩) : AOps P ops Q (⟨none, .store t x z, ty, pos, af, none⟩ :: rest) ⟨n, env, heap, nx, gl⟩ :=
  ao_store_p (st := ⟨n, env, heap, nx, gl⟩) hx hz hc h1 hH hl h
theorem r_store_pa {x z : Operand} {t n' b off : Nat} {ag : Bool} {t' : TypeId} {l ys : List AV} [I : TyC P t ag n'] (hx : St.ev ⟨n, env, heap, nx, gl⟩ x = some (.ptr b off)) (hz : St.ev ⟨n, env, heap, nx, gl⟩ z = some (.agg ys)) (hc : ys.all AV.cellB = true) (h1 : ys.length = n') (hH : St.H ⟨n, env, heap, nx, gl⟩ b = some (.cells t' l)) (hl : Nat.ble (off + n') l.length = true) (h : AOps P ops Q rest ⟨n, env, (b, some (.cells t' (splice l ys off))) :: heap, nx, gl⟩) : AOps P ops Q (⟨none, .store t x z, ty, pos, af, none⟩ :: rest) ⟨n, env, heap, nx, gl⟩ :=
  ao_store_pa (st := ⟨n, env, heap, nx, gl⟩) hx hz hc h1 hH hl h
theorem r_call {X : List Oper → St → Prop} [W : Walk P X] {f : FuncId} {args : List Operand} {tys : Array TypeId} {ys : List AV} {zs : List CV} {r : CV} {y : AV} (hys : evs ⟨n, env, heap, nx, gl⟩ args = some ys) (hz0 : clF.clFL ys = some zs) (hcon : Con P gl f zs r) (hy : ofC r = y) (hd : Nat.blt d n = true) (h : X rest ⟨n, (d, y) :: env, heap, nx, gl⟩) : X (⟨some d, .call ⟨.value (.func f), args.toArray, tys⟩, ty, pos, af, none⟩ :: rest) ⟨n, env, heap, nx, gl⟩ :=
  ao_call (st := ⟨n, env, heap, nx, gl⟩) hys hz0 hcon hy hd h
theorem r_index_f [W : Walk P X] {α : Type} {enc : α → List CV} {x i : Operand} {t E size bytes : Nat} [I : SlT P t E size bytes] {l : List α} {kk : IntKind} {idx : Int} (k : Nat) (hx : St.ev ⟨n, env, heap, nx, gl⟩ x = some (.c (.lst size (l.flatMap enc)))) (J : EncL enc size) (hi : St.ev ⟨n, env, heap, nx, gl⟩ i = some (.c (.v (.int kk idx)))) (hk : idx = (k : Int)) (hlt : k < l.length) (hd : Nat.blt d n = true) (h : X rest ⟨n, (d, (.eptr (l.flatMap enc) (k * size))) :: env, heap, nx, gl⟩) : X (⟨some d, .indexAddr t x i, ty, pos, af, none⟩ :: rest) ⟨n, env, heap, nx, gl⟩ :=
  ao_index_f (st := ⟨n, env, heap, nx, gl⟩) k hx J hi hk hlt hd h
theorem r_load_f0 [W : Walk P X] {α : Type} {enc : α → List CV} {x : Operand} {t n' size k : Nat} {l : List α} {r : α} {y : CV} {ys : List CV} [I : TyC P t false n'] (hx : St.ev ⟨n, env, heap, nx, gl⟩ x = some (.eptr (l.flatMap enc) (k * size))) (J : EncL enc size) (hr : l[k]? = some r) (hy : enc r = y :: ys) (hd : Nat.blt d n = true) (h : X rest ⟨n, (d, (.c y)) :: env, heap, nx, gl⟩) : X (⟨some d, .load t x, ty, pos, af, none⟩ :: rest) ⟨n, env, heap, nx, gl⟩ :=
  ao_load_f0 (st := ⟨n, env, heap, nx, gl⟩) hx J hr hy hd h
theorem r_load_f [W : Walk P X] {α : Type} {enc : α → List CV} {x : Operand} {t n' size k j : Nat} {l : List α} {r : α} {y : CV} {ys : List CV} [I : TyC P t false n'] (hx : St.ev ⟨n, env, heap, nx, gl⟩ x = some (.eptr (l.flatMap enc) (k * size + j))) (J : EncL enc size) (hr : l[k]? = some r) (hj : Nat.ble j size = true) (hy : (enc r).drop j = y :: ys) (hd : Nat.blt d n = true) (h : X rest ⟨n, (d, (.c y)) :: env, heap, nx, gl⟩) : X (⟨some d, .load t x, ty, pos, af, none⟩ :: rest) ⟨n, env, heap, nx, gl⟩ :=
  ao_load_f (st := ⟨n, env, heap, nx, gl⟩) hx J hr hj hy hd h
theorem r_load_fa0 [W : Walk P X] {α : Type} {enc : α → List CV} {x : Operand} {t n' size k : Nat} {l : List α} {r : α} {zs : List AV} [I : TyC P t true n'] (hx : St.ev ⟨n, env, heap, nx, gl⟩ x = some (.eptr (l.flatMap enc) (k * size))) (J : EncL enc size) (hr : l[k]? = some r) (hn : Nat.beq n' size = true) (hz : (enc r).map .c = zs) (hd : Nat.blt d n = true) (h : X rest ⟨n, (d, (.agg zs)) :: env, heap, nx, gl⟩) : X (⟨some d, .load t x, ty, pos, af, none⟩ :: rest) ⟨n, env, heap, nx, gl⟩ :=
  ao_load_fa0 (st := ⟨n, env, heap, nx, gl⟩) hx J hr hn hz hd h
theorem r_load_fa [W : Walk P X] {α : Type} {enc : α → List CV} {x : Operand} {t n' size k j : Nat} {l : List α} {r : α} {zs : List AV} [I : TyC P t true n'] (hx : St.ev ⟨n, env, heap, nx, gl⟩ x = some (.eptr (l.flatMap enc) (k * size + j))) (J : EncL enc size) (hr : l[k]? = some r) (hj : Nat.ble (j + n') size = true) (hz : (((enc r).drop j).take n').map .c = zs) (hd : Nat.blt d n = true) (h : X rest ⟨n, (d, (.agg zs)) :: env, heap, nx, gl⟩) : X (⟨some d, .load t x, ty, pos, af, none⟩ :: rest) ⟨n, env, heap, nx, gl⟩ :=
  ao_load_fa (st := ⟨n, env, heap, nx, gl⟩) hx J hr hj hz hd h
theorem r_len_f [W : Walk P X] {α : Type} {enc : α → List CV} {x : Operand} {t E size bytes : Nat} [I : SlT P t E size bytes] {l : List α} (hx : St.ev ⟨n, env, heap, nx, gl⟩ x = some (.c (.lst size (l.flatMap enc)))) (J : EncL enc size) (hd : Nat.blt d n = true) (h : X rest ⟨n, (d, (.c (.v (.int .i64 (l.length : Int))))) :: env, heap, nx, gl⟩) : X (⟨some d, .call ⟨.builtin .len, #[x], #[t]⟩, ty, pos, af, none⟩ :: rest) ⟨n, env, heap, nx, gl⟩ :=
  ao_len_f (st := ⟨n, env, heap, nx, gl⟩) hx J hd h
theorem r_len_nil [W : Walk P X] {x : Operand} {t E size bytes : Nat} [I : SlT P t E size bytes] (hx : St.ev ⟨n, env, heap, nx, gl⟩ x = some (.c (.v (.slice none 0 0)))) (hd : Nat.blt d n = true) (h : X rest ⟨n, (d, (.c (.v (.int .i64 0)))) :: env, heap, nx, gl⟩) : X (⟨some d, .call ⟨.builtin .len, #[x], #[t]⟩, ty, pos, af, none⟩ :: rest) ⟨n, env, heap, nx, gl⟩ :=
  ao_len_nil (st := ⟨n, env, heap, nx, gl⟩) hx hd h
theorem r_len_v [W : Walk P X] {x : Operand} {t E E' size size' bytes b n' : Nat} [I : SlT P t E size bytes] {xs : List CV} (hx : St.ev ⟨n, env, heap, nx, gl⟩ x = some (.vec b n')) (hH : St.H ⟨n, env, heap, nx, gl⟩ b = some (.vec E' size' xs)) (hn : xs.length = n' * size') (hd : Nat.blt d n = true) (h : X rest ⟨n, (d, (.c (.v (.int .i64 (n' : Int))))) :: env, heap, nx, gl⟩) : X (⟨some d, .call ⟨.builtin .len, #[x], #[t]⟩, ty, pos, af, none⟩ :: rest) ⟨n, env, heap, nx, gl⟩ :=
  ao_len_v (st := ⟨n, env, heap, nx, gl⟩) hx hH hn hd h
theorem r_slice_f [W : Walk P X] {α : Type} {enc : α → List CV} {x p q : Operand} {t E size bytes : Nat} [I : SlT P t E size bytes] {l : List α} {k1 k2 : IntKind} {i1 i2 : Int} (lo hi : Nat) (hx : St.ev ⟨n, env, heap, nx, gl⟩ x = some (.c (.lst size (l.flatMap enc)))) (J : EncL enc size) (hp : St.ev ⟨n, env, heap, nx, gl⟩ p = some (.c (.v (.int k1 i1)))) (hq : St.ev ⟨n, env, heap, nx, gl⟩ q = some (.c (.v (.int k2 i2)))) (h1 : i1 = (lo : Int)) (h2 : i2 = (hi : Int)) (hlo : lo ≤ hi) (hhi : hi ≤ l.length) (hd : Nat.blt d n = true) (h : X rest ⟨n, (d, (.c (.lst size (((l.take hi).drop lo).flatMap enc)))) :: env, heap, nx, gl⟩) : X (⟨some d, .slice t x (some p) (some q) none, ty, pos, af, none⟩ :: rest) ⟨n, env, heap, nx, gl⟩ :=
  ao_slice_f (st := ⟨n, env, heap, nx, gl⟩) lo hi hx J hp hq h1 h2 hlo hhi hd h
theorem r_build [W : Walk P X] {t : TypeId} {parts : List (Nat × Operand)} {pl : List (Nat × Nat)} {zs : List Value} {ps : List (Nat × AV)} {out : List AV} [I : StrT P t pl zs] (hp : evp ⟨n, env, heap, nx, gl⟩ parts = some ps) (hf : fillA pl (zs.map fun z => .c (.v z)) ps = some out) (hd : Nat.blt d n = true) (h : X rest ⟨n, (d, (.agg out)) :: env, heap, nx, gl⟩) : X (⟨some d, .build t parts.toArray, ty, pos, af, none⟩ :: rest) ⟨n, env, heap, nx, gl⟩ :=
  ao_build (st := ⟨n, env, heap, nx, gl⟩) hp hf hd h
theorem r_fieldv_s [W : Walk P X] {x : Operand} {s i off n' : Nat} {xs : List AV} {y : AV} [I : FieldV P s i off false n'] (hx : St.ev ⟨n, env, heap, nx, gl⟩ x = some (.agg xs)) (hy : xs[off]? = some y) (hd : Nat.blt d n = true) (h : X rest ⟨n, (d, y) :: env, heap, nx, gl⟩) : X (⟨some d, .field s x i, ty, pos, af, none⟩ :: rest) ⟨n, env, heap, nx, gl⟩ :=
  ao_fieldv_s (st := ⟨n, env, heap, nx, gl⟩) hx hy hd h
theorem r_fieldv_a [W : Walk P X] {x : Operand} {s i off n' : Nat} {xs : List AV} [I : FieldV P s i off true n'] (hx : St.ev ⟨n, env, heap, nx, gl⟩ x = some (.agg xs)) (hle : Nat.ble (off + n') xs.length = true) (hd : Nat.blt d n = true) (h : X rest ⟨n, (d, (.agg ((xs.drop off).take n'))) :: env, heap, nx, gl⟩) : X (⟨some d, .field s x i, ty, pos, af, none⟩ :: rest) ⟨n, env, heap, nx, gl⟩ :=
  ao_fieldv_a (st := ⟨n, env, heap, nx, gl⟩) hx hle hd h
theorem rd_guard {L : St → Prop} {rest : List Oper} {d : Nat} {op : Op} {ty : TypeId} {pos : String} {af : Array Edge} {j t : Nat} {want b : Bool} (hj : (ops[j]?).bind (·.dst) = some t) (hb : look t env = some (.c (.v (.bool b)))) (hd : Nat.blt d n = true) (h : b = want → DSeq P ops L (⟨some d, op, ty, pos, af, none⟩ :: rest) ⟨n, env, heap, nx, gl⟩) (h' : b = !want → DSeq P ops L rest ⟨n, (d, (.c (.v undef))) :: env, heap, nx, gl⟩) : DSeq P ops L (⟨some d, op, ty, pos, af, some (j, want)⟩ :: rest) ⟨n, env, heap, nx, gl⟩ :=
  ds_guard (st := ⟨n, env, heap, nx, gl⟩) hj hb hd h h'
theorem rd_guard_n {L : St → Prop} {rest : List Oper} {d : Nat} {op : Op} {ty : TypeId} {pos : String} {af : Array Edge} {j t : Nat} {want : Bool} (hj : (ops[j]?).bind (·.dst) = some t) (hb : look t env = some (.c (.v undef))) (hd : Nat.blt d n = true) (h : DSeq P ops L rest ⟨n, (d, (.c (.v undef))) :: env, heap, nx, gl⟩) : DSeq P ops L (⟨some d, op, ty, pos, af, some (j, want)⟩ :: rest) ⟨n, env, heap, nx, gl⟩ :=
  ds_guard_n (st := ⟨n, env, heap, nx, gl⟩) hj hb hd h
theorem r_push {α : Type} {enc : α → List CV} {s x : Operand} {t E E2 size bytes b b2 n' : Nat} [I : SlT P t E size bytes] {l : List α} {ys : List CV} (x0 : α) (hs0 : St.ev ⟨n, env, heap, nx, gl⟩ s = some (.vec b n')) (hH : St.H ⟨n, env, heap, nx, gl⟩ b = some (.vec E size (l.flatMap enc))) (J : EncL enc size) (hn : l.length = n') (hx : St.ev ⟨n, env, heap, nx, gl⟩ x = some (.vec b2 1)) (hH2 : St.H ⟨n, env, heap, nx, gl⟩ b2 = some (.vec E2 size ys)) (hy : ys = enc x0) (hb1 : n' < 1000000000000) (hb2 : (n' + 1) * bytes ≤ 140737488355328) (hd : Nat.blt d n = true) (h : AOps P ops Q rest ⟨n, (d, (.vec b (n' + 1))) :: env, (b, some (.vec E size ((l ++ [x0]).flatMap enc))) :: heap, nx, gl⟩) : AOps P ops Q (⟨some d, .call ⟨.builtin .append, #[s, x], #[t, t]⟩, ty, pos, af, none⟩ :: rest) ⟨n, env, heap, nx, gl⟩ :=
  ao_push (st := ⟨n, env, heap, nx, gl⟩) x0 hs0 hH J hn hx hH2 hy hb1 hb2 hd h
theorem r_appendl {α : Type} {enc : α → List CV} {s x : Operand} {t E size bytes b n' : Nat} [I : SlT P t E size bytes] {l l2 : List α} (hs0 : St.ev ⟨n, env, heap, nx, gl⟩ s = some (.vec b n')) (hH : St.H ⟨n, env, heap, nx, gl⟩ b = some (.vec E size (l.flatMap enc))) (J : EncL enc size) (hn : l.length = n') (hx : St.ev ⟨n, env, heap, nx, gl⟩ x = some (.c (.lst size (l2.flatMap enc)))) (hb1 : n' + l2.length < 1000000000000) (hb2 : (n' + l2.length) * bytes ≤ 140737488355328) (hd : Nat.blt d n = true) (h : AOps P ops Q rest ⟨n, (d, (.vec b (n' + l2.length))) :: env, (b, some (.vec E size ((l ++ l2).flatMap enc))) :: heap, nx, gl⟩) : AOps P ops Q (⟨some d, .call ⟨.builtin .append, #[s, x], #[t, t]⟩, ty, pos, af, none⟩ :: rest) ⟨n, env, heap, nx, gl⟩ :=
  ao_appendl (st := ⟨n, env, heap, nx, gl⟩) hs0 hH J hn hx hb1 hb2 hd h
theorem r_lit {t E size bytes len : Nat} [I : SlT P t E size bytes] {parts : List (Nat × Operand)} {ps : List (Nat × AV)} {zs : List CV} (hp : evp ⟨n, env, heap, nx, gl⟩ parts = some ps) (hi : ps.map (·.1) = List.range len) (hz : lits (ps.map (·.2)) = some zs) (hb : litB size (ps.map (·.2)) = true) (hl : Nat.ble 1 len = true) (hs2 : Nat.ble (len * size) 100000 = true) (hd : Nat.blt d n = true) (h : AOps P ops Q rest ⟨n, (d, (.vec nx len)) :: env, (nx, some (.vec E size zs)) :: heap, nx + 1, gl⟩) : AOps P ops Q (⟨some d, .buildSlice t len parts.toArray, ty, pos, af, none⟩ :: rest) ⟨n, env, heap, nx, gl⟩ :=
  ao_lit (st := ⟨n, env, heap, nx, gl⟩) hp hi hz hb hl hs2 hd h
theorem r_lit0 {t E size bytes : Nat} [I : SlT P t E size bytes] (hd : Nat.blt d n = true) (h : AOps P ops Q rest ⟨n, (d, (.vec nx 0)) :: env, (nx, some (.vec E size [])) :: heap, nx + 1, gl⟩) : AOps P ops Q (⟨some d, .buildSlice t 0 #[], ty, pos, af, none⟩ :: rest) ⟨n, env, heap, nx, gl⟩ :=
  ao_lit0 (st := ⟨n, env, heap, nx, gl⟩) hd h
theorem r_make {α : Type} {enc : α → List CV} {t E size bytes : Nat} {zs : List Value} [I : SlT P t E size bytes] [Z : ZeroT P E zs] {x y : Operand} {k1 k2 : IntKind} {i1 i2 : Int} (z0 : α) (n' : Nat) (J : EncL enc size) (hz : enc z0 = zs.map .v) (hx : St.ev ⟨n, env, heap, nx, gl⟩ x = some (.c (.v (.int k1 i1)))) (hy : St.ev ⟨n, env, heap, nx, gl⟩ y = some (.c (.v (.int k2 i2)))) (h1 : i1 = (n' : Int)) (h2 : i2 = (n' : Int)) (hb1 : n' < 1000000000000) (hb2 : bytes * n' ≤ 281474976710656) (hd : Nat.blt d n = true) (h : AOps P ops Q rest ⟨n, (d, (.vec nx n')) :: env, (nx, some (.vec E size ((List.replicate n' z0).flatMap enc))) :: heap, nx + 1, gl⟩) : AOps P ops Q (⟨some d, .makeSlice t x y, ty, pos, af, none⟩ :: rest) ⟨n, env, heap, nx, gl⟩ :=
  ao_make (st := ⟨n, env, heap, nx, gl⟩) z0 n' J hz hx hy h1 h2 hb1 hb2 hd h
theorem r_store_v {α : Type} {enc : α → List CV} {x z : Operand} {t m b n' k E size : Nat} {ag : Bool} {l : List α} {y : AV} {ys : List CV} [I : TyC P t ag m] (x0 : α) (hx : St.ev ⟨n, env, heap, nx, gl⟩ x = some (.vptr b n' (k * size))) (hH : St.H ⟨n, env, heap, nx, gl⟩ b = some (.vec E size (l.flatMap enc))) (J : EncL enc size) (hn : l.length = n') (hk : k < l.length) (hz : St.ev ⟨n, env, heap, nx, gl⟩ z = some y) (hy : cvL y = some ys) (hm : ys.length = m) (hxe : enc x0 = ys) (h : AOps P ops Q rest ⟨n, env, (b, some (.vec E size ((l.set k x0).flatMap enc))) :: heap, nx, gl⟩) : AOps P ops Q (⟨none, .store t x z, ty, pos, af, none⟩ :: rest) ⟨n, env, heap, nx, gl⟩ :=
  ao_store_v (st := ⟨n, env, heap, nx, gl⟩) x0 hx hH J hn hk hz hy hm hxe h
theorem r_callv {f : FuncId} {args : List Operand} {tys : Array TypeId} {ys : List AV} {zs : List CV} {r : CV} (hcon : Con P gl f zs r) (hys : evs ⟨n, env, heap, nx, gl⟩ args = some ys) (hz : cl.clL (St.H ⟨n, env, heap, nx, gl⟩) ys zs) (hr : r.plain = true) (hd : Nat.blt d n = true) (h : AOps P ops Q rest ⟨n, (d, (ofC r)) :: env, heap, nx, gl⟩) : AOps P ops Q (⟨some d, .call ⟨.value (.func f), args.toArray, tys⟩, ty, pos, af, none⟩ :: rest) ⟨n, env, heap, nx, gl⟩ :=
  ao_callv (st := ⟨n, env, heap, nx, gl⟩) hcon hys hz hr hd h
theorem r_eqs {X : List Oper → St → Prop} [W : Walk P X] {x y : Operand} {t t2 n' : Nat} {xs ys : List AV} {as bs : List Int} [I : EqInts P t n'] (hx : St.ev ⟨n, env, heap, nx, gl⟩ x = some (.agg xs)) (hy : St.ev ⟨n, env, heap, nx, gl⟩ y = some (.agg ys)) (ha : ints xs = some as) (hb : ints ys = some bs) (hn : as.length = n') (hn2 : bs.length = n') (hd : Nat.blt d n = true) (h : X rest ⟨n, (d, (.c (.v (.bool (decide (as = bs)))))) :: env, heap, nx, gl⟩) : X (⟨some d, .binOp .eql t x y t2, ty, pos, af, none⟩ :: rest) ⟨n, env, heap, nx, gl⟩ :=
  ao_eqs (st := ⟨n, env, heap, nx, gl⟩) hx hy ha hb hn hn2 hd h
theorem r_neqs {X : List Oper → St → Prop} [W : Walk P X] {x y : Operand} {t t2 n' : Nat} {xs ys : List AV} {as bs : List Int} [I : EqInts P t n'] (hx : St.ev ⟨n, env, heap, nx, gl⟩ x = some (.agg xs)) (hy : St.ev ⟨n, env, heap, nx, gl⟩ y = some (.agg ys)) (ha : ints xs = some as) (hb : ints ys = some bs) (hn : as.length = n') (hn2 : bs.length = n') (hd : Nat.blt d n = true) (h : X rest ⟨n, (d, (.c (.v (.bool (!decide (as = bs)))))) :: env, heap, nx, gl⟩) : X (⟨some d, .binOp .neq t x y t2, ty, pos, af, none⟩ :: rest) ⟨n, env, heap, nx, gl⟩ :=
  ao_neqs (st := ⟨n, env, heap, nx, gl⟩) hx hy ha hb hn hn2 hd h
theorem r_index_vf [W : Walk P X] {α : Type} {enc : α → List CV} {x i : Operand} {t E E2 size bytes b m : Nat} [I : SlT P t E size bytes] {l : List α} {kk : IntKind} {idx : Int} (k : Nat) (hx : St.ev ⟨n, env, heap, nx, gl⟩ x = some (.vec b m)) (hH : St.H ⟨n, env, heap, nx, gl⟩ b = some (.vec E2 size (l.flatMap enc))) (J : EncL enc size) (hn : l.length = m) (hi : St.ev ⟨n, env, heap, nx, gl⟩ i = some (.c (.v (.int kk idx)))) (hk : idx = (k : Int)) (hlt : k < m) (hd : Nat.blt d n = true) (h : X rest ⟨n, (d, (.vptr b m (k * size))) :: env, heap, nx, gl⟩) : X (⟨some d, .indexAddr t x i, ty, pos, af, none⟩ :: rest) ⟨n, env, heap, nx, gl⟩ :=
  ao_index_vf (st := ⟨n, env, heap, nx, gl⟩) k hx hH J hn hi hk hlt hd h
theorem r_field_vf [W : Walk P X] {α : Type} {enc : α → List CV} {x : Operand} {s i k b m off : Nat} [I : FieldAt P s i k] {E size : Nat} {l : List α} (hx : St.ev ⟨n, env, heap, nx, gl⟩ x = some (.vptr b m off)) (hH : St.H ⟨n, env, heap, nx, gl⟩ b = some (.vec E size (l.flatMap enc))) (J : EncL enc size) (hn : l.length = m) (hd : Nat.blt d n = true) (h : X rest ⟨n, (d, (.vptr b m (off + k))) :: env, heap, nx, gl⟩) : X (⟨some d, .fieldAddr s x i, ty, pos, af, none⟩ :: rest) ⟨n, env, heap, nx, gl⟩ :=
  ao_field_vf (st := ⟨n, env, heap, nx, gl⟩) hx hH J hn hd h
theorem r_load_vf0 [W : Walk P X] {α : Type} {enc : α → List CV} {x : Operand} {t b m q k E size : Nat} {l : List α} {r : α} {y : CV} {ys : List CV} [I : TyC P t false q] (hx : St.ev ⟨n, env, heap, nx, gl⟩ x = some (.vptr b m (k * size))) (hH : St.H ⟨n, env, heap, nx, gl⟩ b = some (.vec E size (l.flatMap enc))) (J : EncL enc size) (hn : l.length = m) (hr : l[k]? = some r) (hy : enc r = y :: ys) (hd : Nat.blt d n = true) (h : X rest ⟨n, (d, (.c y)) :: env, heap, nx, gl⟩) : X (⟨some d, .load t x, ty, pos, af, none⟩ :: rest) ⟨n, env, heap, nx, gl⟩ :=
  ao_load_vf0 (st := ⟨n, env, heap, nx, gl⟩) hx hH J hn hr hy hd h
theorem r_load_vf [W : Walk P X] {α : Type} {enc : α → List CV} {x : Operand} {t b m q k j E size : Nat} {l : List α} {r : α} {y : CV} {ys : List CV} [I : TyC P t false q] (hx : St.ev ⟨n, env, heap, nx, gl⟩ x = some (.vptr b m (k * size + j))) (hH : St.H ⟨n, env, heap, nx, gl⟩ b = some (.vec E size (l.flatMap enc))) (J : EncL enc size) (hn : l.length = m) (hr : l[k]? = some r) (hj : Nat.ble j size = true) (hy : (enc r).drop j = y :: ys) (hd : Nat.blt d n = true) (h : X rest ⟨n, (d, (.c y)) :: env, heap, nx, gl⟩) : X (⟨some d, .load t x, ty, pos, af, none⟩ :: rest) ⟨n, env, heap, nx, gl⟩ :=
  ao_load_vf (st := ⟨n, env, heap, nx, gl⟩) hx hH J hn hr hj hy hd h
theorem r_load_vfa0 [W : Walk P X] {α : Type} {enc : α → List CV} {x : Operand} {t b m q k E size : Nat} {l : List α} {r : α} {zs : List AV} [I : TyC P t true q] (hx : St.ev ⟨n, env, heap, nx, gl⟩ x = some (.vptr b m (k * size))) (hH : St.H ⟨n, env, heap, nx, gl⟩ b = some (.vec E size (l.flatMap enc))) (J : EncL enc size) (hn : l.length = m) (hr : l[k]? = some r) (hq : Nat.beq q size = true) (hz : (enc r).map .c = zs) (hd : Nat.blt d n = true) (h : X rest ⟨n, (d, (.agg zs)) :: env, heap, nx, gl⟩) : X (⟨some d, .load t x, ty, pos, af, none⟩ :: rest) ⟨n, env, heap, nx, gl⟩ :=
  ao_load_vfa0 (st := ⟨n, env, heap, nx, gl⟩) hx hH J hn hr hq hz hd h
theorem r_load_vfa [W : Walk P X] {α : Type} {enc : α → List CV} {x : Operand} {t b m q k j E size : Nat} {l : List α} {r : α} {zs : List AV} [I : TyC P t true q] (hx : St.ev ⟨n, env, heap, nx, gl⟩ x = some (.vptr b m (k * size + j))) (hH : St.H ⟨n, env, heap, nx, gl⟩ b = some (.vec E size (l.flatMap enc))) (J : EncL enc size) (hn : l.length = m) (hr : l[k]? = some r) (hj : Nat.ble (j + q) size = true) (hz : (((enc r).drop j).take q).map .c = zs) (hd : Nat.blt d n = true) (h : X rest ⟨n, (d, (.agg zs)) :: env, heap, nx, gl⟩) : X (⟨some d, .load t x, ty, pos, af, none⟩ :: rest) ⟨n, env, heap, nx, gl⟩ :=
  ao_load_vfa (st := ⟨n, env, heap, nx, gl⟩) hx hH J hn hr hj hz hd h
theorem r_litq [W : Walk P X] {t E size bytes len : Nat} [I : SlT P t E size bytes] {parts : List (Nat × Operand)} {ps : List (Nat × AV)} {zs : List CV} (hp : evp ⟨n, env, heap, nx, gl⟩ parts = some ps) (hi : ps.map (·.1) = List.range len) (hz : lits (ps.map (·.2)) = some zs) (hb : litB size (ps.map (·.2)) = true) (hl : Nat.ble 1 len = true) (hs2 : Nat.ble (len * size) 100000 = true) (hd : Nat.blt d n = true) (h : X rest ⟨n, (d, (.c (.lst size zs))) :: env, heap, nx, gl⟩) : X (⟨some d, .buildSlice t len parts.toArray, ty, pos, af, none⟩ :: rest) ⟨n, env, heap, nx, gl⟩ :=
  ao_litq (st := ⟨n, env, heap, nx, gl⟩) hp hi hz hb hl hs2 hd h
theorem r_inW {f : FuncId} {fn : Func} {c : Code} {t nt : Nat} {args : List Operand} {tys : Array TypeId} {ys : List AV} {env' : List (Nat × AV)} (hf : P.funcs[f]? = some fn) (hb : fn.body = some c) (hr : fn.results = #[.tmp t]) (hcall : callableB P f = true) (hnt : fn.ntmps = nt) (hys : evs ⟨n, env, heap, nx, gl⟩ args = some ys) (hn : Nat.ble ys.length nt = true) (he : argEnvA 0 ys = env') (hd : Nat.blt d n = true)
    (h : Awp P c (Back t gl (fun y heap2 nx2 => ∃ heap', nx ≤ nx2 ∧ Fewer heap nx heap2 heap' ∧ AV.lt nx y = true ∧ AOps P ops Q rest ⟨n, (d, y) :: env, heap', nx, gl⟩)) ⟨nt, env', heap, nx, gl⟩) : AOps P ops Q (⟨some d, .call ⟨.value (.func f), args.toArray, tys⟩, ty, pos, af, none⟩ :: rest) ⟨n, env, heap, nx, gl⟩ := by
  subst hnt; subst he
  exact ao_inW (st := ⟨n, env, heap, nx, gl⟩) hf hb hr hcall hys hn hd h
end
end Go.Proofs.YtjofnmklkndhoaaDoor.Ev
/- More rules of a walk: a nil slice in a box, a list compared with nil. Nothing here names a program. -/
namespace Go.Proofs.YtjofnmklkndhoaaDoor.Ev
set_option linter.unusedVariables false
set_option linter.unusedSimpArgs false
open Go.RowKit
section
variable {P : Program} {ops : Array Oper} {Q : Exit → St → Prop} {rest : List Oper} {d : Nat} {ty : TypeId} {pos : String} {af : Array Edge} {n : Nat} {env : List (Nat × AV)} {heap : List (Nat × Option AB)} {nx : Nat} {gl : List (Nat × List CV)}
theorem aw_nilcell {c : Code} (b k E size : Nat) {t : TypeId} {l l' : List AV} (hH : St.H ⟨n, env, heap, nx, gl⟩ b = some (.cells t l)) (hk : l[k]? = some (.c (.v (.slice none 0 0)))) (hl' : l.set k (.vec nx 0) = l') (hpos : Nat.blt 0 size = true)
    (h : Awp P c Q ⟨n, env, (b, some (.cells t l')) :: (nx, some (.vec E size [])) :: heap, nx + 1, gl⟩) : Awp P c Q ⟨n, env, heap, nx, gl⟩ := by
  intro base w0 M a hs
  obtain ⟨M', m1, m2, m3, m4⟩ := hs.newNil E size (blt_true hpos)
  have hbn : b ≠ nx := by
    have := hs.heap.lt b (by rw [hs.H, hH]; simp)
    rw [hs.nx] at this
    exact Nat.ne_of_lt this
  have hH' : M'.H b = some (.cells t l) := by rw [m3.H, H_new, if_neg (Ne.symm hbn)]; exact hH
  have hnx : M'.H nx = some (.vec E size []) := by rw [m3.H, H_new, if_pos rfl]
  obtain ⟨g, arr, e1, e2, e3, e4, e5, e6⟩ := m3.heap.cells b t l hH'
  have hch := m3.change (b := b) (x := .cells t l') (c := M'.m b) (w' := M'.w) (by rw [hH']; simp) (fun _ _ _ => rfl) (Nat.le_refl _) rfl rfl rfl
    (fun k hk => by rw [e1] at hk; simp only [Conc.block, Option.some.injEq] at hk; omega) (fun k hk => Or.inl hk)
    (fun k hk => by rw [e1] at hk; simp only [Conc.block, Option.some.injEq] at hk; subst hk; exact e3) (fun g hg => hg)
    (fun E size l' hx => by cases hx)
    (fun M'' hext hw hF t2 l2 hx => by
      simp only [AB.cells.injEq] at hx
      obtain ⟨rfl, rfl⟩ := hx
      refine ⟨g, arr, e1, e2, by exact e4, by rw [← hl', List.length_set]; exact e5, fun i y u hy hu => ?_⟩
      rw [← hl', List.getElem?_set] at hy
      split at hy
      · rename_i hik
        subst hik
        split at hy
        · simp only [Option.some.injEq] at hy; subst hy
          have hu' := (e6 k _ u hk hu).bool
          subst hu'
          refine RA.mono hext (.vec (by rw [m3.nx]; exact Nat.lt_succ_self _) rfl (fun E' s' l'' hl => ?_))
          have hl2 : some (AB.vec E size []) = some (.vec E' s' l'') := by rw [← hnx]; exact hl
          simp only [Option.some.injEq, AB.vec.injEq] at hl2
          obtain ⟨rfl, rfl, rfl⟩ := hl2
          exact ⟨by simp, fun _ => by rw [← show M.nx = nx from hs.nx]; exact m2⟩
        · cases hy
      · exact (e6 i y u hy hu).mono hext)
    (fun E size l hx => by cases hx)
  have hgo := h base w0 _ a hch.1
  have hw : ((M'.set (St.new ⟨n, env, heap, nx, gl⟩ (.vec E size [])) b (.cells t l') (M'.m b) M'.w)).w = M.w := m1
  rw [hw] at hgo
  exact wp_mono hgo fun e a w => Lift.ext (m4.trans hch.2)
theorem r_callq {X : List Oper → St → Prop} [W : Walk P X] {f : FuncId} {args : List Operand} {tys : Array TypeId} {ys : List AV} {zs : List CV} {r : CV} (hcon : Con P gl f zs r) (hys : evs ⟨n, env, heap, nx, gl⟩ args = some ys) (hz : cl.clL (St.H ⟨n, env, heap, nx, gl⟩) ys zs) (hr : r.plain = true) (hd : Nat.blt d n = true)
    (h : X rest ⟨n, (d, (ofC r)) :: env, heap, nx, gl⟩) : X (⟨some d, .call ⟨.value (.func f), args.toArray, tys⟩, ty, pos, af, none⟩ :: rest) ⟨n, env, heap, nx, gl⟩ := by
  refine W.step (st := ⟨n, env, heap, nx, gl⟩) rfl rfl hd (fun base w0 M a hs K Q hK => ?_) h
  obtain ⟨e1, e2⟩ := evs_get hys
  obtain ⟨e3, e4⟩ := clL_get hz
  have hFm : ∀ b, M.F b → b < M.w.heap.size := hs.sim.heap.frz
  unfold Oper.wp
  rw [run_call hcon.1 a M.w]
  refine Calls.mono (hcon.2 M.w (fun b => b < M.w.heap.size) _ (fun b h => h) (fun g xs hg => ?_) (by simp; omega) (fun i x u hx hu => ?_)) (fun e w'' hR => ?_)
  · have := hs.sim.gl g xs hg
    generalize hq : Value.pointer (some ⟨g, 0, none⟩) = q at this ⊢
    cases this with
    | eptr cs hF hcell hr => exact .eptr cs (hFm _ hF) hcell (fun i x hi => (hr i x hi).mono (fun b hb => ⟨hFm b hb, rfl⟩))
  · have hi : i < args.length := by have := (List.getElem?_eq_some_iff.1 hx).1; omega
    obtain ⟨y, hy⟩ : ∃ y, ys[i]? = some y := ⟨_, List.getElem?_eq_getElem (by omega)⟩
    have hev := hs.ev (by simp [Op.operands, Call.operands]; exact Or.inr (List.getElem_mem hi)) (e2 i args[i] y (by simp [hi]) hy)
    have hu' : a.eval args[i] = u := by simpa [hi] using hu
    rw [hu'] at hev
    refine cl_rc hs.sim.heap (F' := fun b => b < M.w.heap.size) hFm (fun b E s l hb => ?_) hev (e4 i y x hy hx)
    have hb' := hs.sim.H b _ hb
    exact ⟨hb', fun g hg => conc_lt hs.sim.heap (by rw [hb']; simp) hg⟩
  · obtain ⟨v, rfl, hb, hrc⟩ := hR
    exact hK v (M.after w'') (Ext.after hb hs.sim.heap.frz) (fun s hs' => hs'.after hb) (RA.ofC (M := M.after w'') (hrc.plain hr))
theorem ao_eqnil {st : St} {x y : Operand} {t t2 E sz by' : Nat} [I : SlT P t E sz by'] {size : Nat} {xs : List CV} (hx : st.ev x = some (.c (.lst size xs))) (hy : st.ev y = some (.c (.v (.slice none 0 0)))) (hd : Nat.blt d st.n = true)
    (h : ∀ b : Bool, (xs ≠ [] → b = false) → AOps P ops Q rest (st.put d (.c (.v (.bool b))))) : AOps P ops Q (⟨some d, .binOp .eql t x y t2, ty, pos, af, none⟩ :: rest) st := by
  intro base w0 M a hs
  have key : ∃ b : Bool, (xs ≠ [] → b = false) ∧ (execOp a.eval ⟨some d, .binOp .eql t x y t2, ty, pos, af, none⟩).run P M.w = .ok (.value (.bool b)) M.w := by
    have hI := I.h
    have ht : P.underlying t = some (.slice E) := by
      unfold slB at hI
      split at hI
      · rename_i E' he
        split at hI
        · split at hI
          · simp only [Option.some.injEq, Prod.mk.injEq] at hI; rw [he, hI.1]
          · cases hI
        · cases hI
      · cases hI
    have h1 := hs.ev hx
    have h2 := (hs.ev hy).bool
    cases h1 with
    | c h1 =>
      generalize hv : a.eval x = v at h1
      simp only [execOp, hv, h2]
      cases h1 with
      | nil =>
        rename_i cap ad
        cases ad with
        | none => exact ⟨true, fun hh => absurd rfl hh, by simp [go_sem, eqGuard, Lib.run_eql_slice_nil M.w t E _ _ _ _ _ ht]⟩
        | some ad => exact ⟨false, fun _ => rfl, by simp [go_sem, eqGuard, Lib.run_eql_slice_nil M.w t E _ _ _ _ _ ht]⟩
      | lst cs hn hc hF hcell hr => exact ⟨false, fun _ => rfl, by simp [go_sem, eqGuard, Lib.run_eql_slice_nil M.w t E _ _ _ _ _ ht]⟩
  obtain ⟨b, hb, hrun⟩ := key
  exact wl_value rfl hrun (h b hb base w0 M _ (hs.put hd (.c (.v _))))
theorem r_eqnil {x y : Operand} {t t2 E sz by' : Nat} [I : SlT P t E sz by'] {size : Nat} {xs : List CV} (hx : St.ev ⟨n, env, heap, nx, gl⟩ x = some (.c (.lst size xs))) (hy : St.ev ⟨n, env, heap, nx, gl⟩ y = some (.c (.v (.slice none 0 0)))) (hd : Nat.blt d n = true)
    (h : ∀ b : Bool, (xs ≠ [] → b = false) → AOps P ops Q rest ⟨n, (d, (.c (.v (.bool b)))) :: env, heap, nx, gl⟩) : AOps P ops Q (⟨some d, .binOp .eql t x y t2, ty, pos, af, none⟩ :: rest) ⟨n, env, heap, nx, gl⟩ :=
  ao_eqnil (st := ⟨n, env, heap, nx, gl⟩) hx hy hd h
end
end Go.Proofs.YtjofnmklkndhoaaDoor.Ev
/- More rules of a walk: an empty literal, and what is appended to it, as quiet steps. Nothing here names a program. -/
namespace Go.Proofs.YtjofnmklkndhoaaDoor.Ev
set_option linter.unusedVariables false
set_option linter.unusedSimpArgs false
open Go.RowKit
section
variable {P : Program} {X : List Oper → St → Prop} {rest : List Oper} {d : Nat} {ty : TypeId} {pos : String} {af : Array Edge} {n : Nat} {env : List (Nat × AV)} {heap : List (Nat × Option AB)} {nx : Nat} {gl : List (Nat × List CV)}
theorem r_lit0q [W : Walk P X] {t E size bytes : Nat} [I : SlT P t E size bytes] (hd : Nat.blt d n = true) (h : X rest ⟨n, (d, .c .e0) :: env, heap, nx, gl⟩) : X (⟨some d, .buildSlice t 0 #[], ty, pos, af, none⟩ :: rest) ⟨n, env, heap, nx, gl⟩ := by
  refine W.step (st := ⟨n, env, heap, nx, gl⟩) rfl rfl hd (fun base w0 M a hs K Q hK => ?_) h
  obtain ⟨i, z, f1, f2, f3, f4, f5, f6⟩ := I.out
  have hrun : (execOp a.eval ⟨some d, .buildSlice t 0 #[], ty, pos, af, none⟩).run P M.w = .ok (.value (.slice (some ⟨M.w.heap.size, 0, none⟩) 0 0)) (M.w.alloc (.cells #[] E)) := by
    simp only [execOp]
    simp [Instr.buildSlice, run_underlying f1, sizeOf, typeInfo, f2, f4, Instr.fill, newRow]
    congr 1; simp [Array.range_zero']
  have hb : Below M.w.heap.size M.w (M.w.alloc (.cells #[] E)) := (Below.refl _ _).alloc (Nat.le_refl _) _
  unfold Oper.wp
  rw [hrun]
  exact hK _ (M.after _) (Ext.after hb hs.sim.heap.frz) (fun s hs' => hs'.after hb) (.c .e0)
theorem run_append_e0 {t E size bytes : Nat} (I : SlT P t E size bytes) (w : World) (a0 : Addr) (ad : Option Addr) (m cap : Nat) (hm : 0 < m) (hm2 : m ≤ maxLen) (hb : m * bytes ≤ 140737488355328) : (Builtin.append_ #[t, t] ty #[.slice (some a0) 0 0, .slice ad m cap]).run P w = (Builtin.append_ #[t, t] ty #[.slice none 0 0, .slice ad m cap]).run P w := by
  obtain ⟨i, z, h1, h2, h3, h4, h5, h6⟩ := I.out
  have hn : ¬ (0 + m ≤ 0) := by omega
  have hc : Builtin.nextslicecap m 0 = m := by unfold Builtin.nextslicecap; rw [if_pos (by omega)]
  have hb' : ¬ (m * i.bytes > 2 ^ 48) := by rw [h5]; omega
  have hx : ¬ ((m : Int) > IntKind.i64.max) := by
    unfold maxLen at hm2
    have : IntKind.i64.max = 9223372036854775807 := by decide
    omega
  simp [Builtin.append_, run_underlying h1, sizeOf, typeInfo, h2, Builtin.lenOf, Builtin.firstCells, loadCells, loadCellsFrom, hc, hb', hx, show m ≠ 0 by omega]
theorem r_append0q [W : Walk P X] {α : Type} {enc : α → List CV} {s x : Operand} {t E size bytes : Nat} [I : SlT P t E size bytes] {l2 : List α} (hs0 : St.ev ⟨n, env, heap, nx, gl⟩ s = some (.c .e0)) (hx : St.ev ⟨n, env, heap, nx, gl⟩ x = some (.c (.lst size (l2.flatMap enc)))) (J : EncL enc size) (hb1 : l2.length < 1000000000000) (hb2 : l2.length * bytes ≤ 140737488355328) (hd : Nat.blt d n = true)
    (h : X rest ⟨n, (d, .c (.lst size (l2.flatMap enc))) :: env, heap, nx, gl⟩) : X (⟨some d, .call ⟨.builtin .append, #[s, x], #[t, t]⟩, ty, pos, af, none⟩ :: rest) ⟨n, env, heap, nx, gl⟩ := by
  refine W.step (st := ⟨n, env, heap, nx, gl⟩) rfl rfl hd (fun base w0 M a hs K Q hK => ?_) h
  obtain ⟨i, z, f1, f2, f3, f4, f5, f6⟩ := I.out
  have hv := hs.ev (by simp [Op.operands, Call.operands]) hs0
  have hu := hs.ev (by simp [Op.operands, Call.operands]) hx
  generalize he : a.eval s = v at hv
  generalize hf : a.eval x = u at hu
  have hlen : (l2.flatMap enc).length = l2.length * size := flat_len J.len l2
  have hone := flat_one J l2
  generalize l2.flatMap enc = ys at *
  generalize l2.length = m at *
  cases hv with
  | c hv =>
  cases hv with
  | e0 =>
  rename_i ad0
  cases hu with
  | c hu =>
  cases hu with
  | nil =>
    rename_i cap ad
    have hrun : (Builtin.append_ #[t, t] ty #[.slice ad0 0 0, .slice ad 0 cap]).run P M.w = .ok (.slice ad0 0 0) M.w := by
      cases ad <;> cases ad0 <;> simp [Builtin.append_, run_underlying f1, sizeOf, typeInfo, f2, Builtin.lenOf, Builtin.firstCells, storeCells, loadCells, loadCellsFrom]
    unfold Oper.wp
    rw [ex_append he hf hrun]
    exact hK _ M (Ext.refl M) (fun _ h => h) (.c .nil)
  | lst cs hn' hc hF hcell hr =>
    rename_i blk off k cap
    have hnn : k = m := Nat.eq_of_mul_eq_mul_right I.pos (by rw [← hn', hlen])
    subst hnn
    by_cases hk : k = 0
    · subst hk
      have hys : ys = [] := List.eq_nil_of_length_eq_zero (by simpa using hlen)
      subst hys
      have hrun : (Builtin.append_ #[t, t] ty #[.slice ad0 0 0, .slice (some ⟨blk, off, none⟩) 0 cap]).run P M.w = .ok (.slice ad0 0 0) M.w := by
        cases ad0 <;> simp [Builtin.append_, run_underlying f1, sizeOf, typeInfo, f2, Builtin.lenOf, Builtin.firstCells, storeCells, loadCells, loadCellsFrom]
      unfold Oper.wp
      rw [ex_append he hf hrun]
      exact hK _ M (Ext.refl M) (fun _ h => h) (.c .nil)
    · let us : List Value := (List.range ys.length).map cs
      have hget : ∀ (i : Nat) (v : Value), us[i]? = some v → i < ys.length ∧ cs i = v := fun i v hv => by
        have hi : i < ys.length := by have := (List.getElem?_eq_some_iff.1 hv).1; simpa [us] using this
        exact ⟨hi, by simpa [us, hi] using hv⟩
      have hpair : ∀ (i : Nat) (z : CV) (v : Value), ys[i]? = some z → us[i]? = some v → RC M.F M.w z v := fun i z v hz hv => by
        rw [← (hget i v hv).2]; exact hr i z hz
      have hul : us.length = ys.length := by simp [us]
      have h1 := pair_one hul hone hpair
      have hML : k ≤ maxLen := by unfold maxLen; omega
      obtain ⟨v', w', g1, g2, g3, g4, g5⟩ := run_append_own_at (P := P) M.w M.w.heap.size t ty E i z size bytes f1 f2 f3 f4 f5 f6 I.pos (.slice none 0 0) 0 [] ⟨by simp, .inl ⟨rfl, rfl⟩⟩ ⟨blk, off, none⟩ k cap us (by rw [hul, hlen]) (fun j u hu => by
        obtain ⟨hj, e⟩ := hget j u hu
        rw [Kit.addr_add, hcell j ys[j] (by simp [hj]), e]) h1 (by omega) (by simpa using hb2) (Nat.le_refl _)
      have hrun : (Builtin.append_ #[t, t] ty #[.slice ad0 0 0, .slice (some ⟨blk, off, none⟩) k cap]).run P M.w = .ok v' w' := by
        cases ad0 with
        | none => exact g1
        | some a0 => rw [run_append_e0 I M.w a0 _ k cap (by omega) hML hb2]; exact g1
      have hb : Below M.w.heap.size M.w w' := ⟨g3.os, g3.tape, g3.output, g3.size, fun q hq => g3.block q hq (by simp [Value.ownBlock])⟩
      have hext := Ext.after hb hs.sim.heap.frz
      unfold Oper.wp
      rw [ex_append he hf hrun]
      refine hK _ (M.after w') hext (fun s hs' => hs'.after hb) (.c ?_)
      rw [Nat.zero_add, List.nil_append] at g2
      rcases g2.2 with ⟨rfl, h0⟩ | ⟨g, cap', cur, rfl, e1, e2, e3, e4⟩
      · exact absurd h0 hk
      · have hcl := World.ownsRow.cells g2 (g := g) rfl
        have hlt := (World.ownsRow.lt g2 g rfl).2
        refine .lst cs (by rw [hlen]) e3 (.inr ⟨e1, hlt⟩) (fun j x hj => ?_) (fun j x hj => (hr j x hj).mono hext.F)
        have hj' : j < ys.length := (List.getElem?_eq_some_iff.1 hj).1
        have := hcl j (cs j) (by simp [us, hj'])
        rw [Kit.addr_add] at this
        exact this
variable {ops : Array Oper} {Q : Exit → St → Prop}
def BackA (P : Program) (ad t : Nat) (gl : List (Nat × List CV)) (K : AV → List (Nat × Option AB) → Nat → Prop) : Exit → St → Prop
  | e, s => (e = .normal ∨ e = .ret) ∧ s.gl = gl ∧ ∃ (b off n : Nat) (t' : TypeId) (l ys : List AV), TyC P t true n ∧ look ad s.env = some (.ptr b off) ∧ s.H b = some (.cells t' l) ∧ (l.drop off).take n = ys ∧ ys.length = n ∧ K (.agg ys) s.heap s.nx
theorem backA_ret {ad t b off k : Nat} {t' : TypeId} {l ys : List AV} {K : AV → List (Nat × Option AB) → Nat → Prop} (I : TyC P t true k) (h : look ad env = some (.ptr b off)) (hH : St.H ⟨n, env, heap, nx, gl⟩ b = some (.cells t' l)) (hy : (l.drop off).take k = ys) (hl : ys.length = k) (hK : K (.agg ys) heap nx) : BackA P ad t gl K .ret ⟨n, env, heap, nx, gl⟩ :=
  ⟨Or.inr rfl, rfl, b, off, k, t', l, ys, I, h, hH, hy, hl, hK⟩
theorem r_inA {f : FuncId} {fn : Func} {c : Code} {ad t nt : Nat} {args : List Operand} {tys : Array TypeId} {ys : List AV} {env' : List (Nat × AV)} (hf : P.funcs[f]? = some fn) (hb : fn.body = some c) (hr : fn.results = #[.cell ad t]) (hcall : callableB P f = true) (hnt : fn.ntmps = nt) (hys : evs ⟨n, env, heap, nx, gl⟩ args = some ys) (hn : Nat.ble ys.length nt = true) (he : argEnvA 0 ys = env') (hd : Nat.blt d n = true)
    (h : Awp P c (BackA P ad t gl (fun y heap nx => AOps P ops Q rest ⟨n, (d, y) :: env, heap, nx, gl⟩)) ⟨nt, env', heap, nx, gl⟩) : AOps P ops Q (⟨some d, .call ⟨.value (.func f), args.toArray, tys⟩, ty, pos, af, none⟩ :: rest) ⟨n, env, heap, nx, gl⟩ := by
  subst hnt; subst he
  intro base w0 M a hs
  obtain ⟨e1, e2⟩ := evs_get hys
  have hn := Nat.le_of_ble_eq_true hn
  have hsim : Sim base w0 ⟨fn.ntmps, argEnvA 0 ys, heap, nx, gl⟩ M { tmps := (args.map a.eval).toArray ++ Array.replicate (fn.ntmps - (args.map a.eval).toArray.size) undef, defers := [] } := by
    refine ⟨hs.H, hs.nx, by simp; omega, fun i y hy => ?_, hs.gl, hs.heap, hs.below, hs.base, rfl, hs.old⟩
    obtain ⟨_, h1⟩ := argEnvA_get ys 0 i y hy
    rw [Nat.sub_zero] at h1
    have hi : i < args.length := by have := (List.getElem?_eq_some_iff.1 h1).1; omega
    exact ⟨a.eval args[i], by simp [Array.getElem?_append, hi], hs.ev (e2 i args[i] y (by simp [hi]) h1)⟩
  refine wl_enter rfl (run_call hcall a M.w) (R := fun v w'' => wpList P ops (Lift base w0 M Q) rest (a.put (some d) v) w'') (calls_of_wp hf hb ?_) (fun v w'' hR => hR)
  refine Code.wp_mono ?_ (h base w0 M _ hsim)
  intro e a' w' ⟨M', s', h1, h2, h3, h4, h5, b, off, k, t', l, zs, I, h6, h7, h8, h9, h10⟩
  subst h1
  obtain ⟨u, g1, g2⟩ := h2.env ad _ h6
  cases g2 with
  | ptr hm =>
  rename_i g
  obtain ⟨g', arr, q1, q2, q3, q4, q5, q6⟩ := h2.heap.cells b t' l (by rw [h2.H]; exact h7)
  rw [hm] at q1; cases q1
  have hln : ((arr.toList.drop off).take k).length = k := by
    have : ((l.drop off).take k).length = k := by rw [h8]; exact h9
    simp only [List.length_take, List.length_drop, Array.length_toList] at this ⊢
    rw [← q5]; exact this
  have hRA : RA M' (.agg zs) (.agg ((arr.toList.drop off).take k).toArray) := by
    refine .agg (by rw [h9]; simpa using hln.symm) (fun i y u hy' hu => ?_)
    subst h8
    have hi : i < k := by have := (List.getElem?_eq_some_iff.1 hy').1; omega
    rw [List.getElem?_take_of_lt hi, List.getElem?_drop] at hy'
    rw [List.getElem?_toArray, List.getElem?_take_of_lt hi, List.getElem?_drop, Array.getElem?_toList] at hu
    exact q6 _ y u hy' hu
  have hres : (results fn a'.tmps).run P M'.w = .ok (.agg ((arr.toList.drop off).take k).toArray) M'.w := by
    have hld := run_load_a I M'.w g off ((arr.toList.drop off).take k) hln (fun j v hv => by
      have hj : j < k := by have := (List.getElem?_eq_some_iff.1 hv).1; omega
      rw [List.getElem?_take_of_lt hj, List.getElem?_drop, Array.getElem?_toList] at hv
      simp [World.cell?, q4, hv])
    simp only [Instr.loadAt, Instr.sureAddr, Sem.run_bind, Sem.run_pure, Result.andThen_ok] at hld
    unfold results
    rw [hr]
    simp [Array.getD_eq_getD_getElem?, g1, asAddr, hld]
  generalize Value.agg ((arr.toList.drop off).take k).toArray = v at *
  have hd' := blt_true hd
  have hcaller : Sim base w0 ⟨n, (d, .agg zs) :: env, s'.heap, s'.nx, gl⟩ M' (a.put (some d) v) := by
    refine ⟨h2.H, h2.nx, by show (a.tmps.setIfInBounds d v).size = _; rw [Array.size_setIfInBounds]; exact hs.n, fun i z hz => ?_, fun g xs hg => h2.gl g xs (by rw [h5]; exact hg), h2.heap, h2.below, h2.base, by simpa [Act.put] using hs.defs, h2.old⟩
    rw [look_cons] at hz
    by_cases hi : d = i
    · subst hi
      rw [if_pos rfl] at hz
      simp only [Option.some.injEq] at hz; subst hz
      exact ⟨v, by simp [Act.put, hs.n, hd'], hRA⟩
    · rw [if_neg hi] at hz
      obtain ⟨u, q1, q2⟩ := hs.env i z hz
      exact ⟨u, by simp [Act.put, Array.getElem?_setIfInBounds_ne hi, q1], q2.mono h3⟩
  have hgoal : wpList P ops (Lift base w0 M Q) rest (a.put (some d) v) M'.w := wpList_monoQ (fun e a w => Lift.ext h3) _ _ _ (h10 base w0 M' _ hcaller)
  have : bodyPost P fn (fun e w'' => ∃ v, e = .returned v ∧ wpList P ops (Lift base w0 M Q) rest (a.put (some d) v) w'') e a' M'.w := by
    rcases h4 with rfl | rfl
    · exact ⟨h2.defs, v, hres, v, rfl, hgoal⟩
    · exact ⟨h2.defs, v, hres, v, rfl, hgoal⟩
  exact this
end
end Go.Proofs.YtjofnmklkndhoaaDoor.Ev
/- More rules of a walk: conversions of integers, functions as values. Nothing here names a program. -/
namespace Go.Proofs.YtjofnmklkndhoaaDoor.Ev
set_option linter.unusedVariables false
set_option linter.unusedSimpArgs false
open Go.RowKit
class IntT (P : Program) (t : Nat) (k : outParam IntKind) : Prop where
  h : P.underlying t = some (.int k)
section
variable {P : Program} {ops : Array Oper} {Q : Exit → St → Prop} {X : List Oper → St → Prop} {rest : List Oper} {d : Nat} {ty : TypeId} {pos : String} {af : Array Edge} {n : Nat} {env : List (Nat × AV)} {heap : List (Nat × Option AB)} {nx : Nat} {gl : List (Nat × List CV)}
theorem r_conv [W : Walk P X] {x : Operand} {t t2 : Nat} {k1 k2 k : IntKind} {a b : Int} [I1 : IntT P t k1] [I2 : IntT P t2 k2] (hx : St.ev ⟨n, env, heap, nx, gl⟩ x = some (.c (.v (.int k a)))) (he : k2.wrap a = b) (hd : Nat.blt d n = true)
    (h : X rest ⟨n, (d, .c (.v (.int k2 b))) :: env, heap, nx, gl⟩) : X (⟨some d, .convert t t2 x, ty, pos, af, none⟩ :: rest) ⟨n, env, heap, nx, gl⟩ := by
  refine ao_val (st := ⟨n, env, heap, nx, gl⟩) rfl rfl hd (fun _ _ M e hs => ⟨.int k2 b, ?_, .c (.v _)⟩) h
  have hv := (hs.ev (by simp [Op.operands]) hx).bool
  simp only [execOp, hv]
  have hk : P.intKind t2 = k2 := by unfold Program.intKind; rw [I2.h]
  have := run_convert_int (P := P) M.w t t2 k a (by rw [I1.h]; rfl) (by rw [hk]; exact I2.h)
  rw [hk, he] at this
  rw [Sem.run_bind, this]; rfl
end
end Go.Proofs.YtjofnmklkndhoaaDoor.Ev
/- Rules of a walk: regions that draw their order and make two boxes. Nothing here names a program. -/
namespace Go.Proofs.YtjofnmklkndhoaaDoor.Ev
set_option linter.unusedVariables false
set_option linter.unusedSimpArgs false
open Go.RowKit
section
variable {P : Program} {ops : Array Oper} {md : Region.Mode} {n : Nat} {L : Array Bool → St → Prop}
def two (da db : Nat) (xa xb : AB) (s : St) : St := (((s.new xa).put da (.ptr s.nx 0)).new xb).put db (.ptr (s.nx + 1) 0)
end
end Go.Proofs.YtjofnmklkndhoaaDoor.Ev
/- Rules of a walk: regions that draw their order, walked in an order that is given, with up to two boxes. Nothing here names a program. -/
namespace Go.Proofs.YtjofnmklkndhoaaDoor.Ev
set_option linter.unusedVariables false
set_option linter.unusedSimpArgs false
open Go.RowKit
section
variable {P : Program} {ops : Array Oper} {md : Region.Mode} {n : Nat}
def ordB (md : Region.Mode) (ops : Array Oper) (fin : Array Bool → Bool) : List Nat → Array Bool → Bool
  | [], listed => fin listed
  | i :: is, listed => (Region.ready md ops listed).contains i && Region.free md ops listed i && ordB md ops fin is (listed.setIfInBounds i true)
def pk : List Oper → List Nat → List Oper
  | _, [] => []
  | l, i :: is => match l.drop i with
    | o :: _ => o :: pk l is
    | [] => pk l is
theorem pk_cons {l : List Oper} {i : Nat} {is : List Nat} {o : Oper} (h : l[i]? = some o) : pk l (i :: is) = o :: pk l is := by
  have hi := (List.getElem?_eq_some_iff.1 h)
  obtain ⟨hi, he⟩ := hi
  show (match l.drop i with | o :: _ => o :: pk l is | [] => pk l is) = _
  rw [List.drop_eq_getElem_cons hi, he]
end
end Go.Proofs.YtjofnmklkndhoaaDoor.Ev
/- Rules of a walk: small regions that draw their order, each order walked. Nothing here names a program. -/
namespace Go.Proofs.YtjofnmklkndhoaaDoor.Ev
set_option linter.unusedVariables false
set_option linter.unusedSimpArgs false
open Go.RowKit
section
variable {P : Program} {ops : Array Oper}
theorem upon_mono2 {o : Oper} {a : Act} {K K' : Act → World → Prop} {Q Q' : Exit → Act → World → Prop} (hk : ∀ a w, K a w → K' a w) (hq : ∀ e a w, e ≠ .normal → Q e a w → Q' e a w) {r : Result Next} (h : o.upon P a K Q r) : o.upon P a K' Q' r := by
  cases r with
  | ok n w' =>
    cases n <;> simp only [Oper.upon] at h ⊢ <;>
      first
        | exact hk _ _ h
        | exact Calls.mono h (fun e w'' he => by cases e <;> first | exact hk _ _ he | exact hq _ _ _ (by intro h; cases h) he | exact (he.elim fun a h => h.elim fun w h => ⟨a, w, hq _ _ _ (by intro h; cases h) h⟩))
        | exact Rows.mono h (fun _ _ he => hk _ _ he)
  | halt x w' => cases x <;> simp only [Oper.upon] at h ⊢ <;> exact hq _ _ _ (by intro h; cases h) h
def only (K : St → Prop) : Exit → St → Prop
  | .normal, st => K st
  | _, _ => False
theorem only_normal {K : St → Prop} {st : St} (h : K st) : only K .normal st := h
end
end Go.Proofs.YtjofnmklkndhoaaDoor.Ev
