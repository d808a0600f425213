/- Rules of a walk over abstract states: stores, lists, appends. Nothing here names a program. -/
import Derived.Test.YtokkpocccgdilaaEv4
namespace Go.Proofs.Ytokkpocccgdilaa.Ev
set_option linter.unusedVariables false
set_option linter.unusedSimpArgs false
open Go.RowKit

/-- The world with another content of one block of the call's own. -/
def Wd.set (M : Wd) (st : St) (b : Nat) (x : AB) (c : Conc) (w : World) : Wd := { m := fun k => if k = b then c else M.m k, H := (st.set b x).H, nx := M.nx, F := M.F, w := w }

section
variable {base : Nat} {w0 : W0} {st : St} {M : Wd} {a : Act}

theorem setRow_heap_ne (w : World) (g : Nat) (cs : Array Value) (b : Nat) (h : b ≠ g) : (w.setRow g cs).heap[b]? = w.heap[b]? := by
  simp only [World.setRow, Array.getElem?_modify]
  rw [if_neg (Ne.symm h)]
theorem setRow_size (w : World) (g : Nat) (cs : Array Value) : (w.setRow g cs).heap.size = w.heap.size := by simp [World.setRow]

/-- What a step that changes one block of the call's own (and may make others) leaves. -/
theorem Sim.change (hs : Sim base w0 st M a) {b : Nat} {x : AB} {c : Conc} {w' : World} (hb : M.H b ≠ none)
    (hw : ∀ k, k < M.w.heap.size → (M.m b).block ≠ some k → w'.heap[k]? = M.w.heap[k]?) (hsz : M.w.heap.size ≤ w'.heap.size) (hos : w'.os = M.w.os) (htape : w'.tape = M.w.tape) (hout : w'.output = M.w.output)
    (hbase : ∀ k, (M.m b).block = some k → base ≤ k)
    (hcb : ∀ k, c.block = some k → (M.m b).block = some k ∨ M.w.heap.size ≤ k)
    (hnF : ∀ k, (M.m b).block = some k → ¬ M.F k)
    (hm : ∀ g, M.m b = .blk g → c = .blk g)
    (hv : ∀ E size l', x = .vec E size l' → ∃ l, M.H b = some (.vec E size l) ∧ l.length ≤ l'.length ∧ (l'.length = l.length → c = M.m b))
    (hcells : ∀ M', Ext M M' → M'.w = w' → M'.F = M.F → ∀ t l, x = .cells t l → ∃ (g : Nat) (arr : Array Value), c = .blk g ∧ base ≤ g ∧ w'.heap[g]? = some (.cells arr t (0, 0)) ∧ l.length = arr.size ∧ ∀ (i : Nat) (y : AV) (u : Value), l[i]? = some y → arr[i]? = some u → RA M' y u)
    (hvec : ∀ E size l, x = .vec E size l → ∃ (v : Value) (n : Nat) (cs : List Value), c = .row v ∧ l.length = n * size ∧ 0 < size ∧ w'.ownsRow base E size v n cs ∧ ∀ (i : Nat) (y : CV) (u : Value), l[i]? = some y → cs[i]? = some u → RC M.F w' y u) :
    Sim base w0 (st.set b x) (M.set st b x c w') a ∧ Ext M (M.set st b x c w') := by
  have hF : ∀ k, M.F k → M.F k ∧ w'.heap[k]? = M.w.heap[k]? := fun k hk => ⟨hk, hw k (hs.heap.frz k hk) (fun he => hnF k he hk)⟩
  have hH : ∀ k, (M.set st b x c w').H k = if b = k then some x else M.H k := fun k => by
    show (st.set b x).H k = _
    rw [H_set, hs.H]
  have hm1 : (M.set st b x c w').m b = c := by simp [Wd.set]
  have hm2 : ∀ k, k ≠ b → (M.set st b x c w').m k = M.m k := fun k hk => by simp [Wd.set, hk]
  have hext : Ext M (M.set st b x c w') := by
    refine ⟨fun k g hk => ?_, fun k E size l' hk hl => ?_, Nat.le_refl _, hF⟩
    · by_cases h : k = b
      · subst h; rw [hm1]; exact hm g hk
      · rw [hm2 k h]; exact hk
    · rw [hH] at hl
      by_cases h : b = k
      · subst h
        rw [if_pos rfl] at hl
        simp only [Option.some.injEq] at hl
        obtain ⟨l, e1, e2, e3⟩ := hv E size l' hl
        exact ⟨l, e1, e2, fun hh => by rw [hm1]; exact e3 hh⟩
      · rw [if_neg h] at hl
        exact ⟨l', hl, Nat.le_refl _, fun _ => hm2 k (Ne.symm h)⟩
  have hlt : b < M.nx := hs.heap.lt b hb
  refine ⟨⟨rfl, hs.nx, hs.n, fun i y hy => ?_, fun g xs hg => (hs.gl g xs hg).mono hext, ⟨?_, ?_, ?_, ?_, ?_, ?_⟩, ?_, ?_, hs.defs, hs.old⟩, hext⟩
  · obtain ⟨v, h1, h2⟩ := hs.env i y hy
    exact ⟨v, h1, h2.mono hext⟩
  · intro k t l hl
    rw [hH] at hl
    by_cases h : b = k
    · subst h
      rw [if_pos rfl] at hl
      simp only [Option.some.injEq] at hl
      obtain ⟨g, arr, e1, e2, e3, e4, e5⟩ := hcells _ hext rfl rfl t l hl
      refine ⟨g, arr, by rw [hm1]; exact e1, e2, fun hf => ?_, e3, e4, e5⟩
      rcases hcb g (by rw [e1]; rfl) with h1 | h1
      · exact hnF g h1 hf
      · exact absurd (hs.heap.frz g hf) (by omega)
    · rw [if_neg h] at hl
      obtain ⟨g, arr, e1, e2, e3, e4, e5, e6⟩ := hs.heap.cells k t l hl
      refine ⟨g, arr, by rw [hm2 k (Ne.symm h)]; exact e1, e2, e3, ?_, e5, fun i y u h1 h2 => (e6 i y u h1 h2).mono hext⟩
      show w'.heap[g]? = _
      rw [hw g (Array.getElem?_eq_some_iff.1 e4).1 (hs.heap.sep k b g (Ne.symm h) (by rw [hl]; simp) hb (by rw [e1]; rfl))]
      exact e4
  · intro k E size l hl
    rw [hH] at hl
    by_cases h : b = k
    · subst h
      rw [if_pos rfl] at hl
      simp only [Option.some.injEq] at hl
      obtain ⟨v, n, cs, e1, e2, e3, e4, e5⟩ := hvec E size l hl
      refine ⟨v, n, cs, by rw [hm1]; exact e1, e2, e3, e4, e5, fun g hg hf => ?_⟩
      rcases hcb g (by rw [e1]; exact hg) with h1 | h1
      · exact hnF g h1 hf
      · exact absurd (hs.heap.frz g hf) (by omega)
    · rw [if_neg h] at hl
      obtain ⟨v, n, cs, e1, e2, e3, e4, e5, e6⟩ := hs.heap.vec k E size l hl
      refine ⟨v, n, cs, by rw [hm2 k (Ne.symm h)]; exact e1, e2, e3, ?_, fun i y u h1 h2 => (e5 i y u h1 h2).mono hF, e6⟩
      obtain ⟨f1, f2⟩ := e4
      refine ⟨f1, ?_⟩
      rcases f2 with f2 | ⟨g, cap, cur, rfl, g1, g2, g3⟩
      · exact Or.inl f2
      · refine Or.inr ⟨g, cap, cur, rfl, g1, ?_, g3⟩
        show w'.heap[g]? = _
        rw [hw g (Array.getElem?_eq_some_iff.1 g2).1 (hs.heap.sep k b g (Ne.symm h) (by rw [hl]; simp) hb (by rw [e1]; rfl))]
        exact g2
  · intro k k' g hkk hk hk' hg hg'
    rw [hH] at hk hk'
    have hne : ∀ q, q ≠ b → (if b = q then some x else M.H q) ≠ none → M.H q ≠ none := fun q hq hn => by rwa [if_neg (Ne.symm hq)] at hn
    by_cases h1 : k = b
    · subst h1
      rw [hm1] at hg
      rw [hm2 k' (Ne.symm hkk)] at hg'
      have hk2 := hne k' (Ne.symm hkk) hk'
      rcases hcb g hg with h2 | h2
      · exact hs.heap.sep k k' g hkk hb hk2 h2 hg'
      · have := conc_lt hs.heap hk2 hg'; omega
    · by_cases h2 : k' = b
      · subst h2
        rw [hm1] at hg'
        rw [hm2 k h1] at hg
        have hk2 := hne k h1 hk
        rcases hcb g hg' with h3 | h3
        · exact hs.heap.sep k k' g hkk hk2 hb hg h3
        · have := conc_lt hs.heap hk2 hg; omega
      · rw [hm2 k h1] at hg
        rw [hm2 k' h2] at hg'
        exact hs.heap.sep k k' g hkk (hne k h1 hk) (hne k' h2 hk') hg hg'
  · intro k hk
    rw [hH] at hk
    show k < M.nx
    by_cases h1 : b = k
    · omega
    · rw [if_neg h1] at hk; exact hs.heap.lt k hk
  · intro k hk g
    have hk : M.nx ≤ k := hk
    rw [hm2 k (by omega)]
    exact hs.heap.fresh k hk g
  · intro k hk
    show k < w'.heap.size
    have := hs.heap.frz k hk; omega
  · refine ⟨hos.trans hs.below.os, htape.trans hs.below.tape, hout.trans hs.below.output, Nat.le_trans hs.below.size hsz, fun k hk => ?_⟩
    show w'.heap[k]? = _
    have hb1 := hs.base
    rw [hw k (by omega) (fun he => by have := hbase k he; omega)]
    exact hs.below.block k hk
  · exact Nat.le_trans hs.base hsz
end

section
variable {P : Program} {ops : Array Oper} {Q : Exit → St → Prop} {rest : List Oper} {st : St} {d : Nat} {ty : TypeId} {pos : String} {af : Array Edge}

theorem run_store_row {t n : Nat} {ag : Bool} (I : TyC P t ag n) (w : World) (g o : Nat) (T : TypeId) (cur : Array Value) (v : Value) (hg : w.heap[g]? = some (.cells cur T (0, 0))) (hn : v.cells.size = n) (hl : o + n ≤ cur.size) (h1 : ∀ u ∈ v.cells.toList, u.oneCell' = true) :
    (Instr.storeAt t (.pointer (some ⟨g, o, none⟩)) v).run P w = .ok () (w.setRow g (cur.toList.take o ++ v.cells.toList ++ cur.toList.drop (o + n)).toArray) := by
  obtain ⟨d, i, e1, e2, e3, e4⟩ := I.out
  have := run_storeCells_at (P := P) g o T v.cells.toList 0 cur w hg (by simp; omega) h1
  simp only [Nat.add_zero, Array.length_toList, hn] at this
  simp [Instr.storeAt, Instr.sureAddr, storeVar, sizeOf, typeInfo, e3, e4, hn, this]

theorem aget_splice {α : Type} (cur vs : List α) (o n i : Nat) (hn : vs.length = n) (hl : o + n ≤ cur.length) : (cur.take o ++ vs ++ cur.drop (o + n))[i]? = if i < o then cur[i]? else if i < o + n then vs[i - o]? else cur[i]? := by
  by_cases h1 : i < o
  · rw [if_pos h1, List.append_assoc, List.getElem?_append_left (by simp; omega), List.getElem?_take_of_lt h1]
  · rw [if_neg h1]
    by_cases h2 : i < o + n
    · rw [if_pos h2, List.append_assoc, List.getElem?_append_right (by simp; omega), List.getElem?_append_left (by simp; omega)]
      congr 1
      simp; omega
    · rw [if_neg h2, List.getElem?_append_right (by simp; omega), List.getElem?_drop]
      congr 1
      simp; omega

def splice {α : Type} (l ys : List α) (off : Nat) : List α := l.take off ++ ys ++ l.drop (off + ys.length)

/-- A store of cells into a variable of the call's own. -/
theorem store_p {base : Nat} {w0 : W0} {M : Wd} {a : Act} {t n b off g : Nat} {ag : Bool} {t' : TypeId} {l ys : List AV} {v : Value} (I : TyC P t ag n) (hs : Sim base w0 st M a) (hH : st.H b = some (.cells t' l)) (hm : M.m b = .blk g)
    (hn : ys.length = n) (hl : off + n ≤ l.length) (hsz : v.cells.size = n) (hone : ∀ u ∈ v.cells.toList, u.oneCell' = true) (hr : ∀ (i : Nat) (y : AV) (u : Value), ys[i]? = some y → v.cells[i]? = some u → RA M y u) :
    ∃ w' M', (Instr.storeAt t (.pointer (some ⟨g, off, none⟩)) v).run P M.w = .ok () w' ∧ M'.w = w' ∧ Sim base w0 (st.set b (.cells t' (splice l ys off))) M' a ∧ Ext M M' := by
  have hb : M.H b = some (.cells t' l) := by rw [hs.H]; exact hH
  obtain ⟨g', arr, e1, e2, e3, e4, e5, e6⟩ := hs.heap.cells b t' l hb
  rw [hm] at e1; cases e1
  refine ⟨_, M.set st b (.cells t' (splice l ys off)) (.blk g) (M.w.setRow g (arr.toList.take off ++ v.cells.toList ++ arr.toList.drop (off + n)).toArray), run_store_row I M.w g off t' arr v e4 hsz (by omega) hone, rfl, ?_⟩
  refine hs.change (by rw [hb]; simp) (fun k hk hne => setRow_heap_ne _ _ _ _ (fun he => hne (by rw [hm, he]; rfl))) (by rw [setRow_size]; exact Nat.le_refl _) rfl rfl rfl (fun k hk => ?_) (fun k hk => Or.inl (by rw [hm]; exact hk)) (fun k hk => ?_) (fun g' hg' => by rw [hm] at hg'; cases hg'; rfl) (fun E size l' h => by cases h) ?_ (fun E size l' h => by cases h)
  · rw [hm] at hk; simp only [Conc.block, Option.some.injEq] at hk; omega
  · rw [hm] at hk; simp only [Conc.block, Option.some.injEq] at hk; subst hk; exact e3
  · intro M' hext hw' hF' t2 l2 h2
    simp only [AB.cells.injEq] at h2
    obtain ⟨rfl, rfl⟩ := h2
    refine ⟨g, _, rfl, e2, setRow_heap _ _ _ _ _ _ e4, ?_, fun i y u hy hu => ?_⟩
    · simp [splice, hn, hsz, e5]
    · rw [splice, aget_splice l ys off ys.length i rfl (by omega)] at hy
      rw [List.getElem?_toArray, aget_splice arr.toList v.cells.toList off n i (by simpa using hsz) (by simp; omega)] at hu
      rw [hn] at hy
      split at hy
      · rename_i h1; rw [if_pos h1] at hu; exact (e6 i y u hy (by simpa using hu)).mono hext
      · rename_i h1; rw [if_neg h1] at hu
        split at hy
        · rename_i h2; rw [if_pos h2] at hu; exact (hr _ y u hy (by simpa using hu)).mono hext
        · rename_i h2; rw [if_neg h2] at hu; exact (e6 i y u hy (by simpa using hu)).mono hext

theorem ao_store_gen {x z : Operand} {t : TypeId} {s2 : St} (hrun : ∀ base w0 M a, Sim base w0 st M a → ∃ w' M', (Instr.storeAt t (a.eval x) (a.eval z)).run P M.w = .ok () w' ∧ M'.w = w' ∧ Sim base w0 s2 M' a ∧ Ext M M')
    (h : AOps P ops Q rest s2) : AOps P ops Q (⟨none, .store t x z, ty, pos, af, none⟩ :: rest) st := by
  intro base w0 M a hs
  obtain ⟨w', M', h1, h2, h3, h4⟩ := hrun base w0 M a hs
  refine wl_skip (w' := w') rfl ?_ ?_
  · simp only [execOp]
    rw [Sem.run_bind, h1]; rfl
  · subst h2
    exact wpList_monoQ (fun e a w => Lift.ext h4) _ _ _ (h base w0 M' a h3)

theorem ao_store_p {x z : Operand} {t n b off : Nat} {ag : Bool} {t' : TypeId} {l : List AV} {y : AV} [I : TyC P t ag n] (hx : st.ev x = some (.ptr b off)) (hz : st.ev z = some y) (hc : y.cellB = true) (h1 : n = 1) (hH : st.H b = some (.cells t' l)) (hl : Nat.blt off l.length = true)
    (h : AOps P ops Q rest (st.set b (.cells t' (l.set off y)))) : AOps P ops Q (⟨none, .store t x z, ty, pos, af, none⟩ :: rest) st := by
  have hlt := blt_true hl
  have e : l.set off y = splice l [y] off := by
    unfold splice
    rw [List.set_eq_take_append_cons_drop, if_pos hlt]
    simp
  rw [e] at h
  refine ao_store_gen (fun base w0 M a hs => ?_) h
  have hv := hs.ev hx
  have hu := hs.ev hz
  have ho := hu.one hc
  generalize he : a.eval x = u at hv
  cases hv with
  | ptr hm =>
    refine store_p I hs hH hm (by simp [h1]) (by omega) (by rw [cells_one ho, h1]; rfl) (by rw [cells_one ho]; simpa using ho) (fun i y' u' h2 h3 => ?_)
    rw [cells_one ho] at h3
    cases i with
    | zero => simp at h2 h3; subst h2; subst h3; exact hu
    | succ i => simp at h2
theorem ao_store_pa {x z : Operand} {t n b off : Nat} {ag : Bool} {t' : TypeId} {l ys : List AV} [I : TyC P t ag n] (hx : st.ev x = some (.ptr b off)) (hz : st.ev z = some (.agg ys)) (hc : ys.all AV.cellB = true) (h1 : ys.length = n) (hH : st.H b = some (.cells t' l)) (hl : Nat.ble (off + n) l.length = true)
    (h : AOps P ops Q rest (st.set b (.cells t' (splice l ys off)))) : AOps P ops Q (⟨none, .store t x z, ty, pos, af, none⟩ :: rest) st := by
  have hle := Nat.le_of_ble_eq_true hl
  refine ao_store_gen (fun base w0 M a hs => ?_) h
  have hv := hs.ev hx
  have hu := hs.ev hz
  generalize he : a.eval x = u at hv
  generalize he2 : a.eval z = u2 at hu
  cases hv with
  | ptr hm =>
    cases hu with
    | agg hl2 hh =>
      rename_i vs
      refine store_p I hs hH hm h1 (by omega) (by simp only [Value.cells]; omega) (fun u hu => ?_) (fun i y' u' h2 h3 => hh i y' u' h2 h3)
      simp only [Value.cells] at hu
      obtain ⟨i, hi, rfl⟩ := List.mem_iff_getElem.1 hu
      have hi2 : i < ys.length := by rw [hl2]; simpa using hi
      have := hh i ys[i] vs[i] (by simp [hi2]) (by simp)
      refine this.one ?_
      exact List.all_eq_true.1 hc _ (List.getElem_mem hi2)
end
end Go.Proofs.Ytokkpocccgdilaa.Ev
