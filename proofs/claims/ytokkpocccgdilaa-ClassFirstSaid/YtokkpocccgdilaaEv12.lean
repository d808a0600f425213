/- Rules of a walk over abstract states: stores into lists, lists that stand from now on, more calls, comparison of structs. Nothing here names a program. -/
import Derived.Test.YtokkpocccgdilaaEv11
import Derived.Laws.StructEq
namespace Go.Proofs.Ytokkpocccgdilaa.Ev
set_option linter.unusedVariables false
set_option linter.unusedSimpArgs false
open Go.RowKit

theorem splice_mid {α : Type} (A e B ys : List α) (j : Nat) (hj : j + ys.length ≤ e.length) : splice (A ++ (e ++ B)) ys (A.length + j) = A ++ (splice e ys j ++ B) := by
  unfold splice
  rw [List.take_append, List.take_of_length_le (by omega), Nat.add_sub_cancel_left, List.take_append_of_le_length (by omega), Nat.add_assoc, List.drop_append, List.drop_eq_nil_of_le (by omega), Nat.add_sub_cancel_left, List.drop_append_of_le_length (by omega)]
  simp only [List.append_assoc, List.nil_append]
theorem splice_flat {α : Type} {enc : α → List CV} {size : Nat} (J : EncL enc size) (l : List α) (k j : Nat) (hk : k < l.length) (ys : List CV) (hj : j + ys.length ≤ size) (x0 : α) (hx : enc x0 = splice (enc l[k]) ys j) : splice (l.flatMap enc) ys (k * size + j) = (l.set k x0).flatMap enc := by
  have hl : l.flatMap enc = (l.take k).flatMap enc ++ (enc l[k] ++ (l.drop (k + 1)).flatMap enc) := by
    conv => lhs; rw [← List.take_append_drop k l, List.drop_eq_getElem_cons hk]
    rw [List.flatMap_append, List.flatMap_cons]
  have hlen : ((l.take k).flatMap enc).length = k * size := by
    rw [flat_len J.len, List.length_take, Nat.min_eq_left (Nat.le_of_lt hk)]
  rw [hl, ← hlen, splice_mid _ _ _ _ j (by rw [J.len]; exact hj), ← hx, List.set_eq_take_append_cons_drop, if_pos hk, List.flatMap_append, List.flatMap_cons]

section
variable {P : Program} {ops : Array Oper} {Q : Exit → St → Prop} {rest : List Oper} {st : St} {d : Nat} {ty : TypeId} {pos : String} {af : Array Edge}

theorem store_v {base : Nat} {w0 : W0} {M : Wd} {a : Act} {t m b n off g cap E size : Nat} {ag : Bool} {xs ys : List CV} {v : Value} (I : TyC P t ag m) (hs : Sim base w0 st M a) (hH : st.H b = some (.vec E size xs)) (hm : M.m b = .row (.slice (some ⟨g, 0, none⟩) n cap)) (hn : xs.length = n * size)
    (hy : ys.length = m) (hl : off + m ≤ xs.length) (hsz : v.cells.size = m) (hone : ∀ u ∈ v.cells.toList, u.oneCell' = true) (hr : ∀ (i : Nat) (y : CV) (u : Value), ys[i]? = some y → v.cells[i]? = some u → RC M.F M.w y u) :
    ∃ w' M', (Instr.storeAt t (.pointer (some ⟨g, off, none⟩)) v).run P M.w = .ok () w' ∧ M'.w = w' ∧ Sim base w0 (st.set b (.vec E size (splice xs ys off))) M' a ∧ Ext M M' := by
  have hb : M.H b = some (.vec E size xs) := by rw [hs.H]; exact hH
  obtain ⟨v', n', us, e1, e2, e3, e4, e5, e6⟩ := hs.heap.vec b E size xs hb
  rw [hm] at e1; cases e1
  have hnn : n = n' := Nat.eq_of_mul_eq_mul_right e3 (by rw [← hn, e2])
  subst hnn
  rcases e4.2 with ⟨h0, _⟩ | ⟨g', cap', cur, hv, f1, f2, f3, f4, f5, f6⟩
  · cases h0
  simp only [Value.slice.injEq, Option.some.injEq, Addr.mk.injEq] at hv
  obtain ⟨⟨rfl, _, _⟩, _, rfl⟩ := hv
  have hcl : n * size ≤ cur.size := by rw [f5]; exact Nat.mul_le_mul_right _ f3
  have hspl : (splice xs ys off).length = xs.length := by simp [splice]; omega
  have hFk : ∀ k, M.F k → M.F k ∧ (M.w.setRow g (cur.toList.take off ++ v.cells.toList ++ cur.toList.drop (off + m)).toArray).heap[k]? = M.w.heap[k]? := fun k hk => ⟨hk, setRow_heap_ne _ _ _ _ (fun he => e6 g rfl (he ▸ hk))⟩
  refine ⟨_, M.set st b (.vec E size (splice xs ys off)) (.row (.slice (some ⟨g, 0, none⟩) n cap)) (M.w.setRow g (cur.toList.take off ++ v.cells.toList ++ cur.toList.drop (off + m)).toArray), run_store_row I M.w g off E cur v f2 hsz (by omega) hone, rfl, ?_⟩
  refine hs.change (by rw [hb]; simp) (fun k hk hne => setRow_heap_ne _ _ _ _ (fun he => hne (by rw [hm, he]; rfl))) (by rw [setRow_size]; exact Nat.le_refl _) rfl rfl rfl (fun k hk => ?_) (fun k hk => Or.inl (by rw [hm]; exact hk)) (fun k hk => by rw [hm] at hk; exact e6 k hk) (fun g' hg' => by rw [hm] at hg'; cases hg') (fun E' size' l' h => ?_) (fun M' _ _ _ t' l' h => by cases h) (fun E' size' l' h => ?_)
  · rw [hm] at hk; simp only [Conc.block, Value.ownBlock, Option.some.injEq] at hk; omega
  · simp only [AB.vec.injEq] at h
    obtain ⟨rfl, rfl, rfl⟩ := h
    exact ⟨xs, hb, by omega, fun _ => hm.symm⟩
  · simp only [AB.vec.injEq] at h
    obtain ⟨rfl, rfl, rfl⟩ := h
    have hcells : v.cells.toList.length = m := by simpa using hsz
    refine ⟨_, n, splice us v.cells.toList off, rfl, by omega, e3, ⟨?_, Or.inr ⟨g, cap, _, rfl, f1, setRow_heap _ _ _ _ _ _ f2, f3, f4, ?_, ?_⟩⟩, fun i y u hy' hu => ?_⟩
    · simp only [splice, List.length_append, List.length_take, List.length_drop, hcells]
      have := e4.1; omega
    · simp; omega
    · rw [← f6]
      apply List.ext_getElem?
      intro i
      have hul : (cur.toList.take (n * size)).length = n * size := by simp; omega
      rw [splice, aget_splice _ _ off v.cells.toList.length i rfl (by rw [hul, hcells]; omega), hcells]
      by_cases hi : i < n * size
      · rw [List.getElem?_take_of_lt hi, aget_splice _ _ off m i hcells (by simp; omega), List.getElem?_take_of_lt hi]
      · rw [List.getElem?_eq_none (by simp; omega), if_neg (by omega), if_neg (by omega), List.getElem?_eq_none (by rw [hul]; omega)]
    · have hul : us.length = n * size := e4.1
      rw [splice, aget_splice xs ys off ys.length i rfl (by omega), hy] at hy'
      rw [splice, aget_splice us v.cells.toList off v.cells.toList.length i rfl (by rw [hcells]; omega), hcells] at hu
      split at hy'
      · rename_i h1; rw [if_pos h1] at hu; exact (e5 i y u hy' hu).mono hFk
      · rename_i h1; rw [if_neg h1] at hu
        split at hy'
        · rename_i h2; rw [if_pos h2] at hu; exact (hr _ y u hy' (by simpa using hu)).mono hFk
        · rename_i h2; rw [if_neg h2] at hu; exact (e5 i y u hy' hu).mono hFk

/-- v[k] = z, the whole element. -/
theorem ao_store_v {α : Type} {enc : α → List CV} {x z : Operand} {t m b n k E size : Nat} {ag : Bool} {l : List α} {y : AV} {ys : List CV} [I : TyC P t ag m] (x0 : α) (hx : st.ev x = some (.vptr b n (k * size))) (hH : st.H b = some (.vec E size (l.flatMap enc))) (J : EncL enc size) (hn : l.length = n) (hk : k < l.length) (hz : st.ev z = some y) (hy : cvL y = some ys) (hm : ys.length = m) (hxe : enc x0 = ys)
    (h : AOps P ops Q rest (st.set b (.vec E size ((l.set k x0).flatMap enc)))) : AOps P ops Q (⟨none, .store t x z, ty, pos, af, none⟩ :: rest) st := by
  have hfl : (l.flatMap enc).length = n * size := by rw [flat_len J.len, hn]
  have hys : ys.length = size := by rw [← hxe, J.len]
  have hsp := splice_flat J l k 0 hk ys (by omega) x0 (by
    rw [hxe]; unfold splice
    rw [List.take_zero, List.nil_append, Nat.zero_add, List.drop_eq_nil_of_le (by rw [J.len]; omega), List.append_nil])
  rw [Nat.add_zero] at hsp
  rw [← hsp] at h
  refine ao_store_gen (fun base w0 M a hs => ?_) h
  have hv := hs.ev hx
  obtain ⟨c1, c2, c3⟩ := cvL_ra hy (hs.ev hz)
  generalize he : a.eval x = u at hv
  cases hv with
  | vptr hb ho hh =>
    obtain ⟨_, h2⟩ := hh E size _ (by rw [hs.H]; exact hH)
    obtain ⟨g, cap, h3, rfl⟩ := h2 hfl
    have hmul : (k + 1) * size ≤ n * size := Nat.mul_le_mul_right _ (by omega)
    rw [Nat.add_mul] at hmul
    exact store_v I hs hH h3 hfl hm (by rw [hfl]; omega) (by omega) c2 c3
/-- v[k].f = z, one field of the element. -/
theorem ao_store_vf {α : Type} {enc : α → List CV} {x z : Operand} {t m b n k j E size : Nat} {ag : Bool} {l : List α} {y : AV} {ys : List CV} {r : α} [I : TyC P t ag m] (x0 : α) (hx : st.ev x = some (.vptr b n (k * size + j))) (hH : st.H b = some (.vec E size (l.flatMap enc))) (J : EncL enc size) (hn : l.length = n) (hr : l[k]? = some r) (hz : st.ev z = some y) (hy : cvL y = some ys) (hm : ys.length = m) (hj : Nat.ble (j + m) size = true) (hxe : enc x0 = splice (enc r) ys j)
    (h : AOps P ops Q rest (st.set b (.vec E size ((l.set k x0).flatMap enc)))) : AOps P ops Q (⟨none, .store t x z, ty, pos, af, none⟩ :: rest) st := by
  obtain ⟨hk, rfl⟩ := List.getElem?_eq_some_iff.1 hr
  have hj := Nat.le_of_ble_eq_true hj
  have hfl : (l.flatMap enc).length = n * size := by rw [flat_len J.len, hn]
  have hsp := splice_flat J l k j hk ys (by omega) x0 hxe
  rw [← hsp] at h
  refine ao_store_gen (fun base w0 M a hs => ?_) h
  have hv := hs.ev hx
  obtain ⟨c1, c2, c3⟩ := cvL_ra hy (hs.ev hz)
  generalize he : a.eval x = u at hv
  cases hv with
  | vptr hb ho hh =>
    obtain ⟨_, h2⟩ := hh E size _ (by rw [hs.H]; exact hH)
    obtain ⟨g, cap, h3, rfl⟩ := h2 hfl
    have hmul : (k + 1) * size ≤ n * size := Nat.mul_le_mul_right _ (by omega)
    rw [Nat.add_mul] at hmul
    exact store_v I hs hH h3 hfl hm (by rw [hfl]; omega) (by omega) c2 c3

/-- Block b is no more known as a list that may change. -/
def St.drop (s : St) (b : Nat) : St := { s with heap := (b, none) :: s.heap }
theorem H_drop (st : St) (b' b : Nat) : (st.drop b').H b = if b' = b then none else st.H b := by
  unfold St.H St.drop
  simp only [look_cons]
  by_cases h : b' = b
  · simp [h]
  · simp [h]

/-- From now on a list of the call's own stands. -/
theorem Sim.freeze {base : Nat} {w0 : W0} {M : Wd} {a : Act} (hs : Sim base w0 st M a) {b E size : Nat} {l : List CV} (hH : st.H b = some (.vec E size l)) :
    ∃ M', M'.w = M.w ∧ Sim base w0 (st.drop b) M' a ∧ Ext M M' ∧ ∀ n v, l.length = n * size → RA M (.vec b n) v → RC M'.F M'.w (.lst size l) v := by
  have hb : M.H b = some (.vec E size l) := by rw [hs.H]; exact hH
  obtain ⟨v, n, cs, e1, e2, e3, e4, e5, e6⟩ := hs.heap.vec b E size l hb
  let M' : Wd := { M with H := (st.drop b).H, F := fun k => M.F k ∨ v.ownBlock = some k }
  have hH' : ∀ k, M'.H k = if b = k then none else M.H k := fun k => by
    show (st.drop b).H k = _
    rw [H_drop, hs.H]
  have hne : ∀ k x, M'.H k = some x → b ≠ k ∧ M.H k = some x := fun k x hx => by
    rw [hH'] at hx
    by_cases h : b = k
    · rw [if_pos h] at hx; cases hx
    · rw [if_neg h] at hx; exact ⟨h, hx⟩
  have hext : Ext M M' := ⟨fun _ _ h => h, fun k E' size' l' _ hl => ⟨l', (hne k _ hl).2, Nat.le_refl _, fun _ => rfl⟩, Nat.le_refl _, fun k hk => ⟨Or.inl hk, rfl⟩⟩
  have hblk : (M.m b).block = v.ownBlock := by rw [e1]; rfl
  refine ⟨M', rfl, ⟨rfl, hs.nx, hs.n, fun i y hy => ?_, fun g xs hg => (hs.gl g xs hg).mono hext, ⟨?_, ?_, ?_, ?_, hs.heap.fresh, ?_⟩, hs.below, hs.base, hs.defs, ?_⟩, hext, fun n' v' hl hv => ?_⟩
  · obtain ⟨u, h1, h2⟩ := hs.env i y hy
    exact ⟨u, h1, h2.mono hext⟩
  · intro k t l' hl
    obtain ⟨h1, h2⟩ := hne k _ hl
    obtain ⟨g, arr, g1, g2, g3, g4, g5, g6⟩ := hs.heap.cells k t l' h2
    refine ⟨g, arr, g1, g2, fun hf => ?_, g4, g5, fun i y u h3 h4 => (g6 i y u h3 h4).mono hext⟩
    rcases hf with hf | hf
    · exact g3 hf
    · exact hs.heap.sep k b g (Ne.symm h1) (by rw [h2]; simp) (by rw [hb]; simp) (by rw [g1]; rfl) (by rw [hblk]; exact hf)
  · intro k E' size' l' hl
    obtain ⟨h1, h2⟩ := hne k _ hl
    obtain ⟨v', n', cs', g1, g2, g3, g4, g5, g6⟩ := hs.heap.vec k E' size' l' h2
    refine ⟨v', n', cs', g1, g2, g3, g4, fun i y u h3 h4 => (g5 i y u h3 h4).mono hext.F, fun g hg hf => ?_⟩
    rcases hf with hf | hf
    · exact g6 g hg hf
    · exact hs.heap.sep k b g (Ne.symm h1) (by rw [h2]; simp) (by rw [hb]; simp) (by rw [g1]; exact hg) (by rw [hblk]; exact hf)
  · intro k k' g hkk hk hk'
    have h1 : M.H k ≠ none := fun h0 => hk (by rw [hH']; split <;> first | rfl | exact h0)
    have h2 : M.H k' ≠ none := fun h0 => hk' (by rw [hH']; split <;> first | rfl | exact h0)
    exact hs.heap.sep k k' g hkk h1 h2
  · intro k hk
    exact hs.heap.lt k (fun h0 => hk (by rw [hH']; split <;> first | rfl | exact h0))
  · intro k hk
    rcases hk with hk | hk
    · exact hs.heap.frz k hk
    · exact (World.ownsRow.lt e4 k hk).2
  · intro k hk hlt
    rcases hk with hk | hk
    · exact hs.old k hk hlt
    · have := (World.ownsRow.lt e4 k hk).1; omega
  · refine cl_rc hs.heap (F' := M'.F) (fun k hk => Or.inl hk) (H := fun k => if k = b then M.H k else none) (fun k E' s' l' hk => ?_) hv ?_
    · by_cases h : k = b
      · subst h; rw [if_pos rfl] at hk; exact ⟨hk, fun g hg => Or.inr (by rw [← hblk]; exact hg)⟩
      · rw [if_neg h] at hk; cases hk
    · exact cl_vec (E := E) (by rw [if_pos rfl]; exact hb) hl

theorem ao_freeze {l : List Oper} (i : Nat) {b n E size : Nat} {xs : List CV} (hi : look i st.env = some (.vec b n)) (hH : st.H b = some (.vec E size xs)) (hn : xs.length = n * size) (h : AOps P ops Q l ((st.drop b).put i (.c (.lst size xs)))) : AOps P ops Q l st := by
  intro base w0 M a hs
  obtain ⟨M', h1, h2, h3, h4⟩ := hs.freeze hH
  obtain ⟨v, g1, g2⟩ := hs.env i _ hi
  have hs' : Sim base w0 ((st.drop b).put i (.c (.lst size xs))) M' a := by
    refine ⟨h2.H, h2.nx, h2.n, fun j y hy => ?_, h2.gl, h2.heap, h2.below, h2.base, h2.defs, h2.old⟩
    simp only [St.put, look_cons] at hy
    split at hy
    · rename_i hj; subst hj; simp only [Option.some.injEq] at hy; subst hy; exact ⟨v, g1, .c (h4 n v hn g2)⟩
    · exact h2.env j y hy
  rw [← h1]
  exact wpList_monoQ (fun e a w => Lift.ext h3) _ _ _ (h base w0 M' a hs')
theorem aw_freeze {c : Code} (i : Nat) {b n E size : Nat} {xs : List CV} (hi : look i st.env = some (.vec b n)) (hH : st.H b = some (.vec E size xs)) (hn : xs.length = n * size) (h : Awp P c Q ((st.drop b).put i (.c (.lst size xs)))) : Awp P c Q st := by
  intro base w0 M a hs
  obtain ⟨M', h1, h2, h3, h4⟩ := hs.freeze hH
  obtain ⟨v, g1, g2⟩ := hs.env i _ hi
  have hs' : Sim base w0 ((st.drop b).put i (.c (.lst size xs))) M' a := by
    refine ⟨h2.H, h2.nx, h2.n, fun j y hy => ?_, h2.gl, h2.heap, h2.below, h2.base, h2.defs, h2.old⟩
    simp only [St.put, look_cons] at hy
    split at hy
    · rename_i hj; subst hj; simp only [Option.some.injEq] at hy; subst hy; exact ⟨v, g1, .c (h4 n v hn g2)⟩
    · exact h2.env j y hy
  rw [← h1]
  exact wp_mono (h base w0 M' a hs') fun e a w => Lift.ext h3

/-- A closed value that leads to no memory. -/
def CV.plain : CV → Bool
  | .v _ => true
  | .agg xs => plainL xs
  | .tup xs => plainL xs
  | .lst _ _ => false
  | .e0 => true
where plainL : List CV → Bool
  | [] => true
  | x :: l => CV.plain x && plainL l
theorem plainL_get : ∀ {xs : List CV}, CV.plain.plainL xs = true → ∀ (i : Nat) (x : CV), xs[i]? = some x → x.plain = true
  | [], _, i, x, h => by simp at h
  | y :: l, hl, 0, x, h => by
    simp only [CV.plain.plainL, Bool.and_eq_true] at hl
    simp only [List.getElem?_cons_zero, Option.some.injEq] at h; subst h; exact hl.1
  | y :: l, hl, i + 1, x, h => by
    simp only [CV.plain.plainL, Bool.and_eq_true] at hl
    exact plainL_get hl.2 i x (by simpa using h)
theorem RC.plain {F F' : Nat → Prop} {w w' : World} {x : CV} {u : Value} (h : RC F w x u) : x.plain = true → RC F' w' x u := by
  induction h with
  | v x => exact fun _ => .v x
  | agg hl _ ih => exact fun hp => .agg hl (fun i x u hx hu => ih i x u hx hu (plainL_get hp i x hx))
  | tup hl _ ih => exact fun hp => .tup hl (fun i x u hx hu => ih i x u hx hu (plainL_get hp i x hx))
  | nil => exact fun hp => by cases hp
  | e0 => exact fun _ => .e0
  | lst _ _ _ _ _ _ _ => exact fun hp => by cases hp

/-- A call by contract; lists of the call's own are among its arguments, and its result is plain. -/
theorem ao_callv {f : FuncId} {args : List Operand} {tys : Array TypeId} {ys : List AV} {zs : List CV} {r : CV} (hcon : Con P st.gl f zs r) (hys : evs st args = some ys) (hz : cl.clL st.H ys zs) (hr : r.plain = true) (hd : Nat.blt d st.n = true)
    (h : AOps P ops Q rest (st.put d (ofC r))) : AOps P ops Q (⟨some d, .call ⟨.value (.func f), args.toArray, tys⟩, ty, pos, af, none⟩ :: rest) st := by
  intro base w0 M a hs
  obtain ⟨e1, e2⟩ := evs_get hys
  obtain ⟨e3, e4⟩ := clL_get hz
  have hFm : ∀ b, M.F b → b < M.w.heap.size := hs.heap.frz
  refine wl_enter rfl (run_call hcon.1 a M.w) (R := fun v w'' => Below M.w.heap.size M.w w'' ∧ RC (M.after w'').F w'' r v) (Calls.mono (hcon.2 M.w (fun b => b < M.w.heap.size) _ (fun b h => h) (fun g xs hg => ?_) (by simp; omega) (fun i x u hx hu => ?_)) (fun e w'' ⟨v, he, hb, hrc⟩ => ⟨v, he, hb, hrc.plain hr⟩)) (fun v w'' hR => ?_)
  · have := hs.gl g xs hg
    generalize hq : Value.pointer (some ⟨g, 0, none⟩) = q at this ⊢
    cases this with
    | eptr cs hF hcell hr => exact .eptr cs (hFm _ hF) hcell (fun i x hi => (hr i x hi).mono (fun b hb => ⟨hFm b hb, rfl⟩))
  · have hi : i < args.length := by have := (List.getElem?_eq_some_iff.1 hx).1; omega
    obtain ⟨y, hy⟩ : ∃ y, ys[i]? = some y := ⟨_, List.getElem?_eq_getElem (by omega)⟩
    have hev := hs.ev (e2 i args[i] y (by simp [hi]) hy)
    have hu' : a.eval args[i] = u := by simpa [hi] using hu
    rw [hu'] at hev
    refine cl_rc hs.heap (F' := fun b => b < M.w.heap.size) hFm (fun b E s l hb => ?_) hev (e4 i y x hy hx)
    rw [← hs.H] at hb
    refine ⟨hb, fun g hg => conc_lt hs.heap (by rw [hb]; simp) hg⟩
  · obtain ⟨hb, hrc⟩ := hR
    have := h base w0 (M.after w'') _ ((hs.after hb).put hd (RA.ofC (M := M.after w'') hrc))
    exact wpList_monoQ (fun e a w => Lift.ext (Ext.after hb hs.heap.frz)) _ _ _ this

/-- Structs of integers are compared cell by cell. -/
class EqInts (P : Program) (t : Nat) (n : outParam Nat) : Prop where
  h : ∀ (w : World) (x y : Operand) (as bs : List Int), as.length = n → bs.length = n →
    (do eqGuard .eql t x y (.agg (as.map (Value.int .i64)).toArray) (.agg (bs.map (Value.int .i64)).toArray); binOp .eql t (.agg (as.map (Value.int .i64)).toArray) (.agg (bs.map (Value.int .i64)).toArray)).run P w = .ok (.bool (decide (as = bs))) w ∧
    (do eqGuard .neq t x y (.agg (as.map (Value.int .i64)).toArray) (.agg (bs.map (Value.int .i64)).toArray); binOp .neq t (.agg (as.map (Value.int .i64)).toArray) (.agg (bs.map (Value.int .i64)).toArray)).run P w = .ok (.bool (!decide (as = bs))) w

def ints : List AV → Option (List Int)
  | [] => some []
  | .c (.v (.int .i64 k)) :: l => (ints l).map (k :: ·)
  | _ :: _ => none
theorem ints_val {M : Wd} : ∀ {xs : List AV} {as : List Int} {vs : List Value}, ints xs = some as → xs.length = vs.length → (∀ (i : Nat) (x : AV) (u : Value), xs[i]? = some x → vs[i]? = some u → RA M x u) → vs = as.map (Value.int .i64)
  | [], as, vs, h, hl, _ => by
    simp only [ints, Option.some.injEq] at h; subst h
    exact List.eq_nil_of_length_eq_zero (by simpa using hl.symm)
  | x :: xs, as, vs, h, hl, hr => by
    match vs, hl with
    | v :: vs, hl =>
      unfold ints at h
      split at h
      · rename_i heq; exact absurd heq (by simp)
      · rename_i k l heq
        simp only [List.cons.injEq] at heq
        obtain ⟨rfl, rfl⟩ := heq
        simp only [Option.map_eq_some_iff] at h
        obtain ⟨as', h1, rfl⟩ := h
        have h2 := (hr 0 _ v rfl rfl).bool
        have h3 := ints_val h1 (by simpa using hl) (fun i x u hx hu => hr (i + 1) x u (by simpa using hx) (by simpa using hu))
        rw [h2, h3]; rfl
      · cases h
theorem ao_eqs {X : List Oper → St → Prop} [W : Walk P X] {x y : Operand} {t t2 n : Nat} {xs ys : List AV} {as bs : List Int} [I : EqInts P t n] (hx : st.ev x = some (.agg xs)) (hy : st.ev y = some (.agg ys)) (ha : ints xs = some as) (hb : ints ys = some bs) (hn : as.length = n) (hn2 : bs.length = n) (hd : Nat.blt d st.n = true) (h : X rest (st.put d (.c (.v (.bool (decide (as = bs))))))) : X (⟨some d, .binOp .eql t x y t2, ty, pos, af, none⟩ :: rest) st := by
  refine ao_val rfl rfl hd (fun _ _ M a hs => ?_) h
  have h1 := hs.ev (by simp [Op.operands]) hx
  have h2 := hs.ev (by simp [Op.operands]) hy
  generalize he1 : a.eval x = u1 at h1
  generalize he2 : a.eval y = u2 at h2
  cases h1 with
  | agg l1 r1 =>
    cases h2 with
    | agg l2 r2 =>
      rename_i v1 v2
      have e1 : v1.toList = _ := ints_val ha (by simpa using l1) (fun i x u hx hu => r1 i x u hx (by simpa using hu))
      have e2 : v2.toList = _ := ints_val hb (by simpa using l2) (fun i x u hx hu => r2 i x u hx (by simpa using hu))
      have e1' : v1 = (as.map (Value.int .i64)).toArray := by rw [← e1]
      have e2' : v2 = (bs.map (Value.int .i64)).toArray := by rw [← e2]
      subst e1'; subst e2'
      refine ⟨_, ?_, .c (.v _)⟩
      simp only [execOp, he1, he2]
      rw [Sem.run_bind, (I.h M.w x y as bs hn hn2).1]; rfl
theorem ao_neqs {X : List Oper → St → Prop} [W : Walk P X] {x y : Operand} {t t2 n : Nat} {xs ys : List AV} {as bs : List Int} [I : EqInts P t n] (hx : st.ev x = some (.agg xs)) (hy : st.ev y = some (.agg ys)) (ha : ints xs = some as) (hb : ints ys = some bs) (hn : as.length = n) (hn2 : bs.length = n) (hd : Nat.blt d st.n = true) (h : X rest (st.put d (.c (.v (.bool (!decide (as = bs))))))) : X (⟨some d, .binOp .neq t x y t2, ty, pos, af, none⟩ :: rest) st := by
  refine ao_val rfl rfl hd (fun _ _ M a hs => ?_) h
  have h1 := hs.ev (by simp [Op.operands]) hx
  have h2 := hs.ev (by simp [Op.operands]) hy
  generalize he1 : a.eval x = u1 at h1
  generalize he2 : a.eval y = u2 at h2
  cases h1 with
  | agg l1 r1 =>
    cases h2 with
    | agg l2 r2 =>
      rename_i v1 v2
      have e1 : v1.toList = _ := ints_val ha (by simpa using l1) (fun i x u hx hu => r1 i x u hx (by simpa using hu))
      have e2 : v2.toList = _ := ints_val hb (by simpa using l2) (fun i x u hx hu => r2 i x u hx (by simpa using hu))
      have e1' : v1 = (as.map (Value.int .i64)).toArray := by rw [← e1]
      have e2' : v2 = (bs.map (Value.int .i64)).toArray := by rw [← e2]
      subst e1'; subst e2'
      refine ⟨_, ?_, .c (.v _)⟩
      simp only [execOp, he1, he2]
      rw [Sem.run_bind, (I.h M.w x y as bs hn hn2).2]; rfl
end
end Go.Proofs.Ytokkpocccgdilaa.Ev
