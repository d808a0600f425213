/- More rules of a walk: an empty literal, and what is appended to it, as quiet steps. Nothing here names a program. -/
import Derived.Test.YtokkpocccgdilaaEv16
namespace Go.Proofs.Ytokkpocccgdilaa.Ev
set_option linter.unusedVariables false
set_option linter.unusedSimpArgs false
open Go.RowKit
section
variable {P : Program} {X : List Oper → St → Prop} {rest : List Oper} {d : Nat} {ty : TypeId} {pos : String} {af : Array Edge} {n : Nat} {env : List (Nat × AV)} {heap : List (Nat × Option AB)} {nx : Nat} {gl : List (Nat × List CV)}

/-- The empty literal: a list without room. -/
theorem r_lit0q [W : Walk P X] {t E size bytes : Nat} [I : SlT P t E size bytes] (hd : Nat.blt d n = true) (h : X rest ⟨n, (d, .c .e0) :: env, heap, nx, gl⟩) : X (⟨some d, .buildSlice t 0 #[], ty, pos, af, none⟩ :: rest) ⟨n, env, heap, nx, gl⟩ := by
  refine W.step (st := ⟨n, env, heap, nx, gl⟩) rfl rfl hd (fun base w0 M a hs K Q hK => ?_) h
  obtain ⟨i, z, f1, f2, f3, f4, f5, f6⟩ := I.out
  have hrun : (execOp a.eval ⟨some d, .buildSlice t 0 #[], ty, pos, af, none⟩).run P M.w = .ok (.value (.slice (some ⟨M.w.heap.size, 0, none⟩) 0 0)) (M.w.alloc (.cells #[] E)) := by
    simp only [execOp]
    simp [Instr.buildSlice, run_underlying f1, sizeOf, typeInfo, f2, f4, Instr.fill, newRow]
    congr 1; simp [Array.range_zero']
  have hb : Below M.w.heap.size M.w (M.w.alloc (.cells #[] E)) := (Below.refl _ _).alloc (Nat.le_refl _) _
  unfold Oper.wp
  rw [hrun]
  exact hK _ (M.after _) (Ext.after hb hs.sim.heap.frz) (fun s hs' => hs'.after hb) (.c .e0)

theorem run_append_e0 {t E size bytes : Nat} (I : SlT P t E size bytes) (w : World) (a0 : Addr) (ad : Option Addr) (m cap : Nat) (hm : 0 < m) (hm2 : m ≤ maxLen) (hb : m * bytes ≤ 140737488355328) : (Builtin.append_ #[t, t] ty #[.slice (some a0) 0 0, .slice ad m cap]).run P w = (Builtin.append_ #[t, t] ty #[.slice none 0 0, .slice ad m cap]).run P w := by
  obtain ⟨i, z, h1, h2, h3, h4, h5, h6⟩ := I.out
  have hn : ¬ (0 + m ≤ 0) := by omega
  have hc : Builtin.nextslicecap m 0 = m := by unfold Builtin.nextslicecap; rw [if_pos (by omega)]
  have hb' : ¬ (m * i.bytes > 2 ^ 48) := by rw [h5]; omega
  have hx : ¬ ((m : Int) > IntKind.i64.max) := by
    unfold maxLen at hm2
    have : IntKind.i64.max = 9223372036854775807 := by decide
    omega
  simp [Builtin.append_, run_underlying h1, sizeOf, typeInfo, h2, Builtin.lenOf, Builtin.firstCells, loadCells, loadCellsFrom, hc, hb', hx, show m ≠ 0 by omega]

/-- A closed list, appended to an empty literal. -/
theorem r_append0q [W : Walk P X] {α : Type} {enc : α → List CV} {s x : Operand} {t E size bytes : Nat} [I : SlT P t E size bytes] {l2 : List α} (hs0 : St.ev ⟨n, env, heap, nx, gl⟩ s = some (.c .e0)) (hx : St.ev ⟨n, env, heap, nx, gl⟩ x = some (.c (.lst size (l2.flatMap enc)))) (J : EncL enc size) (hb1 : l2.length < 1000000000000) (hb2 : l2.length * bytes ≤ 140737488355328) (hd : Nat.blt d n = true)
    (h : X rest ⟨n, (d, .c (.lst size (l2.flatMap enc))) :: env, heap, nx, gl⟩) : X (⟨some d, .call ⟨.builtin .append, #[s, x], #[t, t]⟩, ty, pos, af, none⟩ :: rest) ⟨n, env, heap, nx, gl⟩ := by
  refine W.step (st := ⟨n, env, heap, nx, gl⟩) rfl rfl hd (fun base w0 M a hs K Q hK => ?_) h
  obtain ⟨i, z, f1, f2, f3, f4, f5, f6⟩ := I.out
  have hv := hs.ev (by simp [Op.operands, Call.operands]) hs0
  have hu := hs.ev (by simp [Op.operands, Call.operands]) hx
  generalize he : a.eval s = v at hv
  generalize hf : a.eval x = u at hu
  have hlen : (l2.flatMap enc).length = l2.length * size := flat_len J.len l2
  have hone := flat_one J l2
  generalize l2.flatMap enc = ys at *
  generalize l2.length = m at *
  cases hv with
  | c hv =>
  cases hv with
  | e0 =>
  rename_i ad0
  cases hu with
  | c hu =>
  cases hu with
  | nil =>
    rename_i cap ad
    have hrun : (Builtin.append_ #[t, t] ty #[.slice ad0 0 0, .slice ad 0 cap]).run P M.w = .ok (.slice ad0 0 0) M.w := by
      cases ad <;> cases ad0 <;> simp [Builtin.append_, run_underlying f1, sizeOf, typeInfo, f2, Builtin.lenOf, Builtin.firstCells, storeCells, loadCells, loadCellsFrom]
    unfold Oper.wp
    rw [ex_append he hf hrun]
    exact hK _ M (Ext.refl M) (fun _ h => h) (.c .nil)
  | lst cs hn' hc hF hcell hr =>
    rename_i blk off k cap
    have hnn : k = m := Nat.eq_of_mul_eq_mul_right I.pos (by rw [← hn', hlen])
    subst hnn
    by_cases hk : k = 0
    · subst hk
      have hys : ys = [] := List.eq_nil_of_length_eq_zero (by simpa using hlen)
      subst hys
      have hrun : (Builtin.append_ #[t, t] ty #[.slice ad0 0 0, .slice (some ⟨blk, off, none⟩) 0 cap]).run P M.w = .ok (.slice ad0 0 0) M.w := by
        cases ad0 <;> simp [Builtin.append_, run_underlying f1, sizeOf, typeInfo, f2, Builtin.lenOf, Builtin.firstCells, storeCells, loadCells, loadCellsFrom]
      unfold Oper.wp
      rw [ex_append he hf hrun]
      exact hK _ M (Ext.refl M) (fun _ h => h) (.c .nil)
    · let us : List Value := (List.range ys.length).map cs
      have hget : ∀ (i : Nat) (v : Value), us[i]? = some v → i < ys.length ∧ cs i = v := fun i v hv => by
        have hi : i < ys.length := by have := (List.getElem?_eq_some_iff.1 hv).1; simpa [us] using this
        exact ⟨hi, by simpa [us, hi] using hv⟩
      have hpair : ∀ (i : Nat) (z : CV) (v : Value), ys[i]? = some z → us[i]? = some v → RC M.F M.w z v := fun i z v hz hv => by
        rw [← (hget i v hv).2]; exact hr i z hz
      have hul : us.length = ys.length := by simp [us]
      have h1 := pair_one hul hone hpair
      have hML : k ≤ maxLen := by unfold maxLen; omega
      obtain ⟨v', w', g1, g2, g3, g4, g5⟩ := run_append_own_at (P := P) M.w M.w.heap.size t ty E i z size bytes f1 f2 f3 f4 f5 f6 I.pos (.slice none 0 0) 0 [] ⟨by simp, .inl ⟨rfl, rfl⟩⟩ ⟨blk, off, none⟩ k cap us (by rw [hul, hlen]) (fun j u hu => by
        obtain ⟨hj, e⟩ := hget j u hu
        rw [Kit.addr_add, hcell j ys[j] (by simp [hj]), e]) h1 (by omega) (by simpa using hb2) (Nat.le_refl _)
      have hrun : (Builtin.append_ #[t, t] ty #[.slice ad0 0 0, .slice (some ⟨blk, off, none⟩) k cap]).run P M.w = .ok v' w' := by
        cases ad0 with
        | none => exact g1
        | some a0 => rw [run_append_e0 I M.w a0 _ k cap (by omega) hML hb2]; exact g1
      have hb : Below M.w.heap.size M.w w' := ⟨g3.os, g3.tape, g3.output, g3.size, fun q hq => g3.block q hq (by simp [Value.ownBlock])⟩
      have hext := Ext.after hb hs.sim.heap.frz
      unfold Oper.wp
      rw [ex_append he hf hrun]
      refine hK _ (M.after w') hext (fun s hs' => hs'.after hb) (.c ?_)
      rw [Nat.zero_add, List.nil_append] at g2
      rcases g2.2 with ⟨rfl, h0⟩ | ⟨g, cap', cur, rfl, e1, e2, e3, e4⟩
      · exact absurd h0 hk
      · have hcl := World.ownsRow.cells g2 (g := g) rfl
        have hlt := (World.ownsRow.lt g2 g rfl).2
        refine .lst cs (by rw [hlen]) e3 (.inr ⟨e1, hlt⟩) (fun j x hj => ?_) (fun j x hj => (hr j x hj).mono hext.F)
        have hj' : j < ys.length := (List.getElem?_eq_some_iff.1 hj).1
        have := hcl j (cs j) (by simp [us, hj'])
        rw [Kit.addr_add] at this
        exact this
variable {ops : Array Oper} {Q : Exit → St → Prop}
/-- What a callee that is walked through leaves to its caller, if its result is a struct in a box. -/
def BackA (P : Program) (ad t : Nat) (gl : List (Nat × List CV)) (K : AV → List (Nat × Option AB) → Nat → Prop) : Exit → St → Prop
  | e, s => (e = .normal ∨ e = .ret) ∧ s.gl = gl ∧ ∃ (b off n : Nat) (t' : TypeId) (l ys : List AV), TyC P t true n ∧ look ad s.env = some (.ptr b off) ∧ s.H b = some (.cells t' l) ∧ (l.drop off).take n = ys ∧ ys.length = n ∧ K (.agg ys) s.heap s.nx
theorem backA_ret {ad t b off k : Nat} {t' : TypeId} {l ys : List AV} {K : AV → List (Nat × Option AB) → Nat → Prop} (I : TyC P t true k) (h : look ad env = some (.ptr b off)) (hH : St.H ⟨n, env, heap, nx, gl⟩ b = some (.cells t' l)) (hy : (l.drop off).take k = ys) (hl : ys.length = k) (hK : K (.agg ys) heap nx) : BackA P ad t gl K .ret ⟨n, env, heap, nx, gl⟩ :=
  ⟨Or.inr rfl, rfl, b, off, k, t', l, ys, I, h, hH, hy, hl, hK⟩
/-- A call that is walked through; one result, a struct in a box. -/
theorem r_inA {f : FuncId} {fn : Func} {c : Code} {ad t nt : Nat} {args : List Operand} {tys : Array TypeId} {ys : List AV} {env' : List (Nat × AV)} (hf : P.funcs[f]? = some fn) (hb : fn.body = some c) (hr : fn.results = #[.cell ad t]) (hcall : callableB P f = true) (hnt : fn.ntmps = nt) (hys : evs ⟨n, env, heap, nx, gl⟩ args = some ys) (hn : Nat.ble ys.length nt = true) (he : argEnvA 0 ys = env') (hd : Nat.blt d n = true)
    (h : Awp P c (BackA P ad t gl (fun y heap nx => AOps P ops Q rest ⟨n, (d, y) :: env, heap, nx, gl⟩)) ⟨nt, env', heap, nx, gl⟩) : AOps P ops Q (⟨some d, .call ⟨.value (.func f), args.toArray, tys⟩, ty, pos, af, none⟩ :: rest) ⟨n, env, heap, nx, gl⟩ := by
  subst hnt; subst he
  intro base w0 M a hs
  obtain ⟨e1, e2⟩ := evs_get hys
  have hn := Nat.le_of_ble_eq_true hn
  have hsim : Sim base w0 ⟨fn.ntmps, argEnvA 0 ys, heap, nx, gl⟩ M { tmps := (args.map a.eval).toArray ++ Array.replicate (fn.ntmps - (args.map a.eval).toArray.size) undef, defers := [] } := by
    refine ⟨hs.H, hs.nx, by simp; omega, fun i y hy => ?_, hs.gl, hs.heap, hs.below, hs.base, rfl, hs.old⟩
    obtain ⟨_, h1⟩ := argEnvA_get ys 0 i y hy
    rw [Nat.sub_zero] at h1
    have hi : i < args.length := by have := (List.getElem?_eq_some_iff.1 h1).1; omega
    exact ⟨a.eval args[i], by simp [Array.getElem?_append, hi], hs.ev (e2 i args[i] y (by simp [hi]) h1)⟩
  refine wl_enter rfl (run_call hcall a M.w) (R := fun v w'' => wpList P ops (Lift base w0 M Q) rest (a.put (some d) v) w'') (calls_of_wp hf hb ?_) (fun v w'' hR => hR)
  refine Code.wp_mono ?_ (h base w0 M _ hsim)
  intro e a' w' ⟨M', s', h1, h2, h3, h4, h5, b, off, k, t', l, zs, I, h6, h7, h8, h9, h10⟩
  subst h1
  obtain ⟨u, g1, g2⟩ := h2.env ad _ h6
  cases g2 with
  | ptr hm =>
  rename_i g
  obtain ⟨g', arr, q1, q2, q3, q4, q5, q6⟩ := h2.heap.cells b t' l (by rw [h2.H]; exact h7)
  rw [hm] at q1; cases q1
  have hln : ((arr.toList.drop off).take k).length = k := by
    have : ((l.drop off).take k).length = k := by rw [h8]; exact h9
    simp only [List.length_take, List.length_drop, Array.length_toList] at this ⊢
    rw [← q5]; exact this
  have hRA : RA M' (.agg zs) (.agg ((arr.toList.drop off).take k).toArray) := by
    refine .agg (by rw [h9]; simpa using hln.symm) (fun i y u hy' hu => ?_)
    subst h8
    have hi : i < k := by have := (List.getElem?_eq_some_iff.1 hy').1; omega
    rw [List.getElem?_take_of_lt hi, List.getElem?_drop] at hy'
    rw [List.getElem?_toArray, List.getElem?_take_of_lt hi, List.getElem?_drop, Array.getElem?_toList] at hu
    exact q6 _ y u hy' hu
  have hres : (results fn a'.tmps).run P M'.w = .ok (.agg ((arr.toList.drop off).take k).toArray) M'.w := by
    have hld := run_load_a I M'.w g off ((arr.toList.drop off).take k) hln (fun j v hv => by
      have hj : j < k := by have := (List.getElem?_eq_some_iff.1 hv).1; omega
      rw [List.getElem?_take_of_lt hj, List.getElem?_drop, Array.getElem?_toList] at hv
      simp [World.cell?, q4, hv])
    simp only [Instr.loadAt, Instr.sureAddr, Sem.run_bind, Sem.run_pure, Result.andThen_ok] at hld
    unfold results
    rw [hr]
    simp [Array.getD_eq_getD_getElem?, g1, asAddr, hld]
  generalize Value.agg ((arr.toList.drop off).take k).toArray = v at *
  have hd' := blt_true hd
  have hcaller : Sim base w0 ⟨n, (d, .agg zs) :: env, s'.heap, s'.nx, gl⟩ M' (a.put (some d) v) := by
    refine ⟨h2.H, h2.nx, by show (a.tmps.setIfInBounds d v).size = _; rw [Array.size_setIfInBounds]; exact hs.n, fun i z hz => ?_, fun g xs hg => h2.gl g xs (by rw [h5]; exact hg), h2.heap, h2.below, h2.base, by simpa [Act.put] using hs.defs, h2.old⟩
    rw [look_cons] at hz
    by_cases hi : d = i
    · subst hi
      rw [if_pos rfl] at hz
      simp only [Option.some.injEq] at hz; subst hz
      exact ⟨v, by simp [Act.put, hs.n, hd'], hRA⟩
    · rw [if_neg hi] at hz
      obtain ⟨u, q1, q2⟩ := hs.env i z hz
      exact ⟨u, by simp [Act.put, Array.getElem?_setIfInBounds_ne hi, q1], q2.mono h3⟩
  have hgoal : wpList P ops (Lift base w0 M Q) rest (a.put (some d) v) M'.w := wpList_monoQ (fun e a w => Lift.ext h3) _ _ _ (h10 base w0 M' _ hcaller)
  have : bodyPost P fn (fun e w'' => ∃ v, e = .returned v ∧ wpList P ops (Lift base w0 M Q) rest (a.put (some d) v) w'') e a' M'.w := by
    rcases h4 with rfl | rfl
    · exact ⟨h2.defs, v, hres, v, rfl, hgoal⟩
    · exact ⟨h2.defs, v, hres, v, rfl, hgoal⟩
  exact this
/-- A list of the call's own in a cell of a box, taken as a closed one. -/
theorem aw_freezecell {c : Code} (b0 k : Nat) {t : TypeId} {l l' : List AV} {b m E size : Nat} {xs : List CV} (hH0 : St.H ⟨n, env, heap, nx, gl⟩ b0 = some (.cells t l)) (hk : l[k]? = some (.vec b m)) (hH : St.H ⟨n, env, heap, nx, gl⟩ b = some (.vec E size xs)) (hn : xs.length = m * size) (hl' : l.set k (.c (.lst size xs)) = l')
    (h : Awp P c Q ⟨n, env, (b0, some (.cells t l')) :: (b, none) :: heap, nx, gl⟩) : Awp P c Q ⟨n, env, heap, nx, gl⟩ := by
  intro base w0 M a hs
  obtain ⟨M', h1, h2, h3, h4⟩ := hs.freeze hH
  have hbn : b0 ≠ b := by
    rintro rfl
    rw [hH] at hH0; cases hH0
  have hH' : M'.H b0 = some (.cells t l) := by
    rw [h2.H]
    show St.H ⟨n, env, (b, none) :: heap, nx, gl⟩ b0 = _
    unfold St.H at hH0 ⊢
    dsimp only at hH0 ⊢
    rw [look_cons, if_neg (Ne.symm hbn)]; exact hH0
  obtain ⟨g, arr, e1, e2, e3, e4, e5, e6⟩ := h2.heap.cells b0 t l hH'
  obtain ⟨g', arr', d1, d2, d3, d4, d5, d6⟩ := hs.heap.cells b0 t l (by rw [hs.H]; exact hH0)
  have hgg : g' = g := by
    have := h3.m b0 g' d1
    rw [e1] at this; cases this; rfl
  subst hgg
  have harr : arr' = arr := by rw [h1, d4] at e4; cases e4; rfl
  subst harr
  have hch := h2.change (b := b0) (x := .cells t l') (c := M'.m b0) (w' := M'.w) (by rw [hH']; simp) (fun _ _ _ => rfl) (Nat.le_refl _) rfl rfl rfl
    (fun k hk => by rw [e1] at hk; simp only [Conc.block, Option.some.injEq] at hk; omega) (fun k hk => Or.inl hk)
    (fun k hk => by rw [e1] at hk; simp only [Conc.block, Option.some.injEq] at hk; subst hk; exact e3) (fun g hg => hg)
    (fun E size l' hx => by cases hx)
    (fun M'' hext hw hF t2 l2 hx => by
      simp only [AB.cells.injEq] at hx
      obtain ⟨rfl, rfl⟩ := hx
      refine ⟨g', arr', e1, e2, by exact e4, by rw [← hl', List.length_set]; exact e5, fun i y u hy hu => ?_⟩
      rw [← hl', List.getElem?_set] at hy
      split at hy
      · rename_i hik
        subst hik
        split at hy
        · simp only [Option.some.injEq] at hy; subst hy
          exact RA.mono hext (.c (h4 m u hn (d6 k _ u hk hu)))
        · cases hy
      · exact (e6 i y u hy hu).mono hext)
    (fun E size l hx => by cases hx)
  have hgo := h base w0 _ a hch.1
  have hw : (M'.set (St.drop ⟨n, env, heap, nx, gl⟩ b) b0 (.cells t l') (M'.m b0) M'.w).w = M.w := h1
  rw [hw] at hgo
  exact wp_mono hgo fun e a w => Lift.ext (h3.trans hch.2)
end
end Go.Proofs.Ytokkpocccgdilaa.Ev
