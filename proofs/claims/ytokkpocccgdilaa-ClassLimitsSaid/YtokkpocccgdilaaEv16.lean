/- More rules of a walk: a nil slice in a box, a list compared with nil. Nothing here names a program. -/
import Derived.Test.YtokkpocccgdilaaEvR
import Derived.WalkSpells
namespace Go.Proofs.Ytokkpocccgdilaa.Ev
set_option linter.unusedVariables false
set_option linter.unusedSimpArgs false
open Go.RowKit
section
variable {P : Program} {ops : Array Oper} {Q : Exit → St → Prop} {rest : List Oper} {d : Nat} {ty : TypeId} {pos : String} {af : Array Edge} {n : Nat} {env : List (Nat × AV)} {heap : List (Nat × Option AB)} {nx : Nat} {gl : List (Nat × List CV)}

/-- The nil slice in a cell of a box as an empty list of the call's own. -/
theorem aw_nilcell {c : Code} (b k E size : Nat) {t : TypeId} {l l' : List AV} (hH : St.H ⟨n, env, heap, nx, gl⟩ b = some (.cells t l)) (hk : l[k]? = some (.c (.v (.slice none 0 0)))) (hl' : l.set k (.vec nx 0) = l') (hpos : Nat.blt 0 size = true)
    (h : Awp P c Q ⟨n, env, (b, some (.cells t l')) :: (nx, some (.vec E size [])) :: heap, nx + 1, gl⟩) : Awp P c Q ⟨n, env, heap, nx, gl⟩ := by
  intro base w0 M a hs
  obtain ⟨M', m1, m2, m3, m4⟩ := hs.newNil E size (blt_true hpos)
  have hbn : b ≠ nx := by
    have := hs.heap.lt b (by rw [hs.H, hH]; simp)
    rw [hs.nx] at this
    exact Nat.ne_of_lt this
  have hH' : M'.H b = some (.cells t l) := by rw [m3.H, H_new, if_neg (Ne.symm hbn)]; exact hH
  have hnx : M'.H nx = some (.vec E size []) := by rw [m3.H, H_new, if_pos rfl]
  obtain ⟨g, arr, e1, e2, e3, e4, e5, e6⟩ := m3.heap.cells b t l hH'
  have hch := m3.change (b := b) (x := .cells t l') (c := M'.m b) (w' := M'.w) (by rw [hH']; simp) (fun _ _ _ => rfl) (Nat.le_refl _) rfl rfl rfl
    (fun k hk => by rw [e1] at hk; simp only [Conc.block, Option.some.injEq] at hk; omega) (fun k hk => Or.inl hk)
    (fun k hk => by rw [e1] at hk; simp only [Conc.block, Option.some.injEq] at hk; subst hk; exact e3) (fun g hg => hg)
    (fun E size l' hx => by cases hx)
    (fun M'' hext hw hF t2 l2 hx => by
      simp only [AB.cells.injEq] at hx
      obtain ⟨rfl, rfl⟩ := hx
      refine ⟨g, arr, e1, e2, by exact e4, by rw [← hl', List.length_set]; exact e5, fun i y u hy hu => ?_⟩
      rw [← hl', List.getElem?_set] at hy
      split at hy
      · rename_i hik
        subst hik
        split at hy
        · simp only [Option.some.injEq] at hy; subst hy
          have hu' := (e6 k _ u hk hu).bool
          subst hu'
          refine RA.mono hext (.vec (by rw [m3.nx]; exact Nat.lt_succ_self _) rfl (fun E' s' l'' hl => ?_))
          have hl2 : some (AB.vec E size []) = some (.vec E' s' l'') := by rw [← hnx]; exact hl
          simp only [Option.some.injEq, AB.vec.injEq] at hl2
          obtain ⟨rfl, rfl, rfl⟩ := hl2
          exact ⟨by simp, fun _ => by rw [← show M.nx = nx from hs.nx]; exact m2⟩
        · cases hy
      · exact (e6 i y u hy hu).mono hext)
    (fun E size l hx => by cases hx)
  have hgo := h base w0 _ a hch.1
  have hw : ((M'.set (St.new ⟨n, env, heap, nx, gl⟩ (.vec E size [])) b (.cells t l') (M'.m b) M'.w)).w = M.w := m1
  rw [hw] at hgo
  exact wp_mono hgo fun e a w => Lift.ext (m4.trans hch.2)

/-- A call by contract with lists of the call's own among its arguments and a plain result, as a quiet step. -/
theorem r_callq {X : List Oper → St → Prop} [W : Walk P X] {f : FuncId} {args : List Operand} {tys : Array TypeId} {ys : List AV} {zs : List CV} {r : CV} (hcon : Con P gl f zs r) (hys : evs ⟨n, env, heap, nx, gl⟩ args = some ys) (hz : cl.clL (St.H ⟨n, env, heap, nx, gl⟩) ys zs) (hr : r.plain = true) (hd : Nat.blt d n = true)
    (h : X rest ⟨n, (d, (ofC r)) :: env, heap, nx, gl⟩) : X (⟨some d, .call ⟨.value (.func f), args.toArray, tys⟩, ty, pos, af, none⟩ :: rest) ⟨n, env, heap, nx, gl⟩ := by
  refine W.step (st := ⟨n, env, heap, nx, gl⟩) rfl rfl hd (fun base w0 M a hs K Q hK => ?_) h
  obtain ⟨e1, e2⟩ := evs_get hys
  obtain ⟨e3, e4⟩ := clL_get hz
  have hFm : ∀ b, M.F b → b < M.w.heap.size := hs.sim.heap.frz
  unfold Oper.wp
  rw [run_call hcon.1 a M.w]
  refine Calls.mono (hcon.2 M.w (fun b => b < M.w.heap.size) _ (fun b h => h) (fun g xs hg => ?_) (by simp; omega) (fun i x u hx hu => ?_)) (fun e w'' hR => ?_)
  · have := hs.sim.gl g xs hg
    generalize hq : Value.pointer (some ⟨g, 0, none⟩) = q at this ⊢
    cases this with
    | eptr cs hF hcell hr => exact .eptr cs (hFm _ hF) hcell (fun i x hi => (hr i x hi).mono (fun b hb => ⟨hFm b hb, rfl⟩))
  · have hi : i < args.length := by have := (List.getElem?_eq_some_iff.1 hx).1; omega
    obtain ⟨y, hy⟩ : ∃ y, ys[i]? = some y := ⟨_, List.getElem?_eq_getElem (by omega)⟩
    have hev := hs.ev (by simp [Op.operands, Call.operands]; exact Or.inr (List.getElem_mem hi)) (e2 i args[i] y (by simp [hi]) hy)
    have hu' : a.eval args[i] = u := by simpa [hi] using hu
    rw [hu'] at hev
    refine cl_rc hs.sim.heap (F' := fun b => b < M.w.heap.size) hFm (fun b E s l hb => ?_) hev (e4 i y x hy hx)
    have hb' := hs.sim.H b _ hb
    exact ⟨hb', fun g hg => conc_lt hs.sim.heap (by rw [hb']; simp) hg⟩
  · obtain ⟨v, rfl, hb, hrc⟩ := hR
    exact hK v (M.after w'') (Ext.after hb hs.sim.heap.frz) (fun s hs' => hs'.after hb) (RA.ofC (M := M.after w'') (hrc.plain hr))
theorem ao_eqnil {st : St} {x y : Operand} {t t2 E sz by' : Nat} [I : SlT P t E sz by'] {size : Nat} {xs : List CV} (hx : st.ev x = some (.c (.lst size xs))) (hy : st.ev y = some (.c (.v (.slice none 0 0)))) (hd : Nat.blt d st.n = true)
    (h : ∀ b : Bool, (xs ≠ [] → b = false) → AOps P ops Q rest (st.put d (.c (.v (.bool b))))) : AOps P ops Q (⟨some d, .binOp .eql t x y t2, ty, pos, af, none⟩ :: rest) st := by
  intro base w0 M a hs
  have key : ∃ b : Bool, (xs ≠ [] → b = false) ∧ (execOp a.eval ⟨some d, .binOp .eql t x y t2, ty, pos, af, none⟩).run P M.w = .ok (.value (.bool b)) M.w := by
    have hI := I.h
    have ht : P.underlying t = some (.slice E) := by
      unfold slB at hI
      split at hI
      · rename_i E' he
        split at hI
        · split at hI
          · simp only [Option.some.injEq, Prod.mk.injEq] at hI; rw [he, hI.1]
          · cases hI
        · cases hI
      · cases hI
    have h1 := hs.ev hx
    have h2 := (hs.ev hy).bool
    cases h1 with
    | c h1 =>
      generalize hv : a.eval x = v at h1
      simp only [execOp, hv, h2]
      cases h1 with
      | nil =>
        rename_i cap ad
        cases ad with
        | none => exact ⟨true, fun hh => absurd rfl hh, by simp [go_sem, eqGuard, Lib.run_eql_slice_nil M.w t E _ _ _ _ _ ht]⟩
        | some ad => exact ⟨false, fun _ => rfl, by simp [go_sem, eqGuard, Lib.run_eql_slice_nil M.w t E _ _ _ _ _ ht]⟩
      | lst cs hn hc hF hcell hr => exact ⟨false, fun _ => rfl, by simp [go_sem, eqGuard, Lib.run_eql_slice_nil M.w t E _ _ _ _ _ ht]⟩
  obtain ⟨b, hb, hrun⟩ := key
  exact wl_value rfl hrun (h b hb base w0 M _ (hs.put hd (.c (.v _))))
theorem r_eqnil {x y : Operand} {t t2 E sz by' : Nat} [I : SlT P t E sz by'] {size : Nat} {xs : List CV} (hx : St.ev ⟨n, env, heap, nx, gl⟩ x = some (.c (.lst size xs))) (hy : St.ev ⟨n, env, heap, nx, gl⟩ y = some (.c (.v (.slice none 0 0)))) (hd : Nat.blt d n = true)
    (h : ∀ b : Bool, (xs ≠ [] → b = false) → AOps P ops Q rest ⟨n, (d, (.c (.v (.bool b)))) :: env, heap, nx, gl⟩) : AOps P ops Q (⟨some d, .binOp .eql t x y t2, ty, pos, af, none⟩ :: rest) ⟨n, env, heap, nx, gl⟩ :=
  ao_eqnil (st := ⟨n, env, heap, nx, gl⟩) hx hy hd h
end
end Go.Proofs.Ytokkpocccgdilaa.Ev
