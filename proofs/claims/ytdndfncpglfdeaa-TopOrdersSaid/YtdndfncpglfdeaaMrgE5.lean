/- Ev53 Ev54 Ev21 Ev46 Ev55 Ev56: texts laid together. -/
import Derived.Test.YtdndfncpglfdeaaMrgE4
import Derived.Test.YtdndfncpglfdeaaMrgE3
/- Rules of a walk: a list of numbers of the call's own from which the first one is taken off (q = q[1:]) and to which more are appended. Nothing here names a program. -/
namespace Go.Proofs.Ytdndfncpglfdeaa.Ev
set_option linter.unusedVariables false
set_option linter.unusedSimpArgs false
open Go.RowKit
section
variable {base : Nat} {w0 : W0} {st : St} {M : Wd} {a : Act}
theorem Sim.forget (hs : Sim base w0 st M a) (b : Nat) : ∃ M', M'.w = M.w ∧ M'.F = M.F ∧ Sim base w0 ⟨st.n, st.env, (b, none) :: st.heap, st.nx, st.gl⟩ M' a ∧ Ext M M' := by
  let M' : Wd := { M with H := St.H ⟨st.n, st.env, (b, none) :: st.heap, st.nx, st.gl⟩ }
  have hH : ∀ k, M'.H k = if b = k then none else M.H k := fun k => by
    show St.H _ k = _
    unfold St.H
    simp only [look_cons]
    by_cases h : b = k
    · rw [if_pos h, if_pos h]
    · rw [if_neg h, if_neg h, hs.H]; rfl
  have hold : ∀ k x, M'.H k = some x → M.H k = some x := fun k x hx => by
    rw [hH] at hx
    by_cases h : b = k
    · rw [if_pos h] at hx; cases hx
    · rwa [if_neg h] at hx
  have hne : ∀ k, M'.H k ≠ none → M.H k ≠ none := fun k hk => by
    obtain ⟨x, hx⟩ := Option.ne_none_iff_exists'.1 hk
    rw [hold k x hx]; simp
  have hext : Ext M M' := ⟨fun _ _ h => h, fun k E size' l' _ hl => ⟨l', hold k _ hl, Nat.le_refl _, fun _ => rfl⟩, Nat.le_refl _, fun k hk => ⟨hk, rfl⟩⟩
  refine ⟨M', rfl, rfl, ⟨rfl, hs.nx, hs.n, fun i y hy => ?_, fun g xs hg => (hs.gl g xs hg).mono hext, ⟨?_, ?_, ?_, ?_, hs.heap.fresh, hs.heap.frz, ?_⟩, hs.below, hs.base, hs.defs, hs.old⟩, hext⟩
  · obtain ⟨u, h1, h2⟩ := hs.env i y hy
    exact ⟨u, h1, h2.mono hext⟩
  · intro k t l hl
    obtain ⟨g, arr, g1, g2, g3, g4, g5, g6⟩ := hs.heap.cells k t l (hold k _ hl)
    exact ⟨g, arr, g1, g2, g3, g4, g5, fun i x u hx hu => (g6 i x u hx hu).mono hext⟩
  · intro k E size l hl
    exact hs.heap.vec k E size l (hold k _ hl)
  · intro k k' g hkk hk hk'
    exact hs.heap.sep k k' g hkk (hne k hk) (hne k' hk')
  · exact fun k hk => hs.heap.lt k (hne k hk)
  · intro k p hp
    obtain ⟨g, e1, e2, e3, e4, e5⟩ := hs.heap.obj k p (hold k _ hp)
    exact ⟨g, e1, e2, e3, e4, fun b' c hbb hc => ⟨fun hb' => (e5 b' c hbb hc).1 (hne b' hb'), fun p' hp' => (e5 b' c hbb hc).2 p' (hold b' _ hp')⟩⟩
theorem Sim.adopt (hs : Sim base w0 st M a) (b : Nat) {g : Nat} {p : ObjP} {fp : Nat → Prop} (h1 : p.holds M.F M.w g fp) (h2 : fp g) (h3 : ∀ k, fp k → base ≤ k ∧ k < M.w.heap.size ∧ ¬ M.F k) (h4 : ∀ b' k, b' ≠ b → fp k → (M.H b' ≠ none → (M.m b').block ≠ some k) ∧ ∀ p', M.H b' = some (.obj p') → ¬ M.fp b' k) :
    ∃ M', M'.w = M.w ∧ M'.F = M.F ∧ M'.m M.nx = .blk g ∧ Sim base w0 ⟨st.n, st.env, (st.nx, some (.obj p)) :: (b, none) :: st.heap, st.nx + 1, st.gl⟩ M' a ∧ Ext M M' := by
  let M' : Wd := { M with m := fun k => if k = M.nx then .blk g else M.m k, H := St.H ⟨st.n, st.env, (st.nx, some (.obj p)) :: (b, none) :: st.heap, st.nx + 1, st.gl⟩, nx := M.nx + 1, fp := fun k => if k = M.nx then fp else M.fp k }
  have hH : ∀ k, M'.H k = if M.nx = k then some (.obj p) else if b = k then none else M.H k := fun k => by
    show St.H _ k = _
    unfold St.H
    simp only [look_cons, hs.nx]
    by_cases h1 : st.nx = k
    · rw [if_pos h1, if_pos h1]
    · rw [if_neg h1, if_neg h1]
      by_cases h2 : b = k
      · rw [if_pos h2, if_pos h2]
      · rw [if_neg h2, if_neg h2, hs.H]; rfl
  have hm : M'.m M.nx = .blk g := by simp [M']
  have hm' : ∀ k, M.nx ≠ k → M'.m k = M.m k := fun k hk => by simp [M', Ne.symm hk]
  have hfp : M'.fp M.nx = fp := by simp [M']
  have hfp' : ∀ k, M.nx ≠ k → M'.fp k = M.fp k := fun k hk => by simp [M', Ne.symm hk]
  have hold : ∀ k, M.nx ≠ k → ∀ x, M'.H k = some x → M.H k = some x ∧ k ≠ b := fun k hk x hx => by
    rw [hH, if_neg hk] at hx
    by_cases h : b = k
    · rw [if_pos h] at hx; cases hx
    · rw [if_neg h] at hx; exact ⟨hx, Ne.symm h⟩
  have hno : ∀ k, M.nx ≠ k → M'.H k ≠ none → M.H k ≠ none ∧ k ≠ b := fun k hk hn => by
    obtain ⟨x, hx⟩ := Option.ne_none_iff_exists'.1 hn
    obtain ⟨e1, e2⟩ := hold k hk x hx
    exact ⟨by rw [e1]; simp, e2⟩
  have hext : Ext M M' := by
    refine ⟨fun k g' hk => ?_, fun k E size' l' hk hl => ?_, by simp [M'], fun k hk => ⟨hk, rfl⟩⟩
    · rw [hm' k (fun he => hs.heap.fresh k (by omega) g' hk)]; exact hk
    · exact ⟨l', (hold k (by omega) _ hl).1, Nat.le_refl _, fun _ => hm' k (by omega)⟩
  refine ⟨M', rfl, rfl, hm, ⟨rfl, by show M.nx + 1 = st.nx + 1; rw [hs.nx], hs.n, fun i y hy => ?_, fun g xs hg => (hs.gl g xs hg).mono hext, ⟨?_, ?_, ?_, ?_, ?_, hs.heap.frz, ?_⟩, hs.below, hs.base, hs.defs, hs.old⟩, hext⟩
  · obtain ⟨u, e1, e2⟩ := hs.env i y hy
    exact ⟨u, e1, e2.mono hext⟩
  · intro k t' l' hl
    have hk : M.nx ≠ k := fun e => by rw [hH, if_pos e] at hl; cases hl
    obtain ⟨g', arr', e1, e2, e3, e4, e5, e6⟩ := hs.heap.cells k t' l' (hold k hk _ hl).1
    exact ⟨g', arr', by rw [hm' k hk]; exact e1, e2, e3, e4, e5, fun i x u hx hu => (e6 i x u hx hu).mono hext⟩
  · intro k E size l' hl
    have hk : M.nx ≠ k := fun e => by rw [hH, if_pos e] at hl; cases hl
    obtain ⟨v, n, cs, e1, e2⟩ := hs.heap.vec k E size l' (hold k hk _ hl).1
    exact ⟨v, n, cs, by rw [hm' k hk]; exact e1, e2⟩
  · intro k k' q hkk hk hk' hq hq'
    by_cases h5 : M.nx = k
    · subst h5
      rw [hm] at hq
      simp only [Conc.block, Option.some.injEq] at hq; subst hq
      rw [hm' k' hkk] at hq'
      obtain ⟨n1, n2⟩ := hno k' hkk hk'
      exact (h4 k' _ n2 h2).1 n1 hq'
    · obtain ⟨n1, n2⟩ := hno k h5 hk
      rw [hm' k h5] at hq
      by_cases h6 : M.nx = k'
      · subst h6
        rw [hm] at hq'
        simp only [Conc.block, Option.some.injEq] at hq'; subst hq'
        exact (h4 k _ n2 h2).1 n1 hq
      · rw [hm' k' h6] at hq'
        exact hs.heap.sep k k' q hkk n1 (hno k' h6 hk').1 hq hq'
  · intro k hk
    show k < M.nx + 1
    by_cases h5 : M.nx = k
    · omega
    · have := hs.heap.lt k (hno k h5 hk).1; omega
  · intro k hk g'
    have hk : M.nx + 1 ≤ k := hk
    rw [hm' k (by omega)]
    exact hs.heap.fresh k (by omega) g'
  · intro k x hx
    by_cases hk : M.nx = k
    · subst hk
      rw [hH, if_pos rfl] at hx
      simp only [Option.some.injEq, AB.obj.injEq] at hx; subst hx
      refine ⟨g, hm, by rw [hfp]; exact h2, by rw [hfp]; exact h1, fun c hc => ?_, fun b' c hbb hc => ⟨fun hb' hq => ?_, fun p2 hp2 hf => ?_⟩⟩
      · rw [hfp] at hc; exact h3 c hc
      · rw [hfp] at hc
        rw [hm' b' (Ne.symm hbb)] at hq
        obtain ⟨n1, n2⟩ := hno b' (Ne.symm hbb) hb'
        exact (h4 b' c n2 hc).1 n1 hq
      · rw [hfp] at hc
        rw [hfp' b' (Ne.symm hbb)] at hf
        obtain ⟨n1, n2⟩ := hold b' (Ne.symm hbb) _ hp2
        exact (h4 b' c n2 hc).2 p2 n1 hf
    · obtain ⟨hxo, hkb⟩ := hold k hk _ hx
      obtain ⟨g', e1, e2, e3, e4, e5⟩ := hs.heap.obj k x hxo
      rw [hfp' k hk]
      refine ⟨g', by rw [hm' k hk]; exact e1, e2, e3, e4, fun b' c hbb hc => ⟨fun hb' hq => ?_, fun p2 hp2 hf => ?_⟩⟩
      · by_cases h5 : M.nx = b'
        · subst h5
          rw [hm] at hq
          simp only [Conc.block, Option.some.injEq] at hq; subst hq
          exact (h4 k _ hkb h2).2 _ hxo hc
        · rw [hm' b' h5] at hq
          exact (e5 b' c hbb hc).1 (hno b' h5 hb').1 hq
      · by_cases h5 : M.nx = b'
        · subst h5
          rw [hfp] at hf
          exact (h4 k c hkb hf).2 _ hxo hc
        · rw [hfp' b' h5] at hf
          exact (e5 b' c hbb hc).2 p2 (hold b' h5 _ hp2).1 hf
end
def qP (E off cap : Nat) (l : List Nat) : ObjP where
  holds := fun _ w g fp => (∀ k, fp k ↔ k = g) ∧ ∃ arr, w.heap[g]? = some (.cells arr E (0, 0)) ∧ off + cap ≤ arr.size ∧ l.length ≤ cap ∧ ∀ (i x : Nat), l[i]? = some x → arr[off + i]? = some (natV x)
  stable := fun _ _ w w' g fp ⟨h1, arr, h2, h3⟩ _ hk => ⟨h1, arr, (hk g ((h1 g).2 rfl)).trans h2, h3⟩
def qV (off n cap : Nat) : Nat → Value := fun g => .slice (some ⟨g, off, none⟩) n cap
section
variable {P : Program} {ops : Array Oper} {Q : Exit → St → Prop} {X : List Oper → St → Prop} {rest : List Oper} {d : Nat} {ty : TypeId} {pos : String} {af : Array Edge} {n : Nat} {env : List (Nat × AV)} {heap : List (Nat × Option AB)} {nx : Nat} {gl : List (Nat × List CV)}
theorem sim_toq {base : Nat} {w0 : W0} {M : Wd} {a : Act} (hs : Sim base w0 ⟨n, env, heap, nx, gl⟩ M a) {i b E x : Nat} {xs : List CV} (hi : look i env = some (.vec b 1)) (hH : St.H ⟨n, env, heap, nx, gl⟩ b = some (.vec E 1 xs)) (hx : xs = [.v (natV x)]) :
    ∃ cap M', M'.w = M.w ∧ Sim base w0 ⟨n, (i, .ref nx (qV 0 1 cap)) :: env, (nx, some (.obj (qP E 0 cap [x]))) :: (b, none) :: heap, nx + 1, gl⟩ M' a ∧ Ext M M' := by
  subst hx
  have hM : M.H b = some (.vec E 1 [.v (natV x)]) := by rw [hs.H]; exact hH
  obtain ⟨v, m, cs, e1, e2, e3, e4, e5, e6⟩ := hs.heap.vec b E 1 _ hM
  have hm1 : m = 1 := by simpa using e2.symm
  subst hm1
  obtain ⟨u, g1, g2⟩ := hs.env i _ hi
  have huv : u = v := by
    cases g2 with
    | vec hb ho hh =>
      have := (hh E 1 _ hM).2 rfl
      rw [e1] at this; cases this; rfl
  subst huv
  rcases e4.2 with ⟨_, h0⟩ | ⟨g, cap, cur, rfl, f1, f2, f3, f4, f5, f6⟩
  · cases h0
  have hblk : (M.m b).block = some g := by rw [e1]; rfl
  have hcs : cs.length = 1 := e4.1
  obtain ⟨M', m1, m2, m3, m4, m5⟩ := hs.adopt b (g := g) (p := qP E 0 cap [x]) (fp := fun k => k = g) ⟨fun _ => Iff.rfl, cur, f2, by omega, f3, fun j y hy => by
      match j with
      | 0 =>
        simp at hy; subst hy
        have hc0 : cs[0]? = some cs[0] := List.getElem?_eq_getElem (by omega)
        have hrc := e5 0 (.v (natV x)) cs[0] rfl hc0
        have : cs[0] = natV x := by generalize cs[0] = q at hrc; cases hrc; rfl
        rw [this] at hc0
        rw [← f6] at hc0
        have hsz : 0 < cur.size := by omega
        simpa [hsz] using hc0
      | j + 1 => simp at hy⟩ rfl (fun k hk => by
      subst hk
      exact ⟨f1, (Array.getElem?_eq_some_iff.1 f2).1, e6 _ rfl⟩) (fun b' k hbb hk => by
      subst hk
      refine ⟨fun hb' hq => hs.heap.sep b' b _ hbb hb' (by rw [hM]; simp) hq hblk, fun p' hp' hf => ?_⟩
      obtain ⟨_, _, _, _, _, r5⟩ := hs.heap.obj b' p' hp'
      exact (r5 b _ (Ne.symm hbb) hf).1 (by rw [hM]; simp) hblk)
  have hnx : M.nx = nx := hs.nx
  have hs' : Sim base w0 ⟨n, (i, .ref nx (qV 0 1 cap)) :: env, (nx, some (.obj (qP E 0 cap [x]))) :: (b, none) :: heap, nx + 1, gl⟩ M' a := by
    refine ⟨m4.H, m4.nx, m4.n, fun j y hy => ?_, m4.gl, m4.heap, m4.below, m4.base, m4.defs, m4.old⟩
    rw [look_cons] at hy
    by_cases hj : i = j
    · subst hj
      rw [if_pos rfl] at hy
      simp only [Option.some.injEq] at hy; subst hy
      exact ⟨_, g1, .ref (f := qV 0 1 cap) (by rw [← hnx]; exact m3) rfl⟩
    · rw [if_neg hj] at hy
      exact m4.env j y hy
  exact ⟨cap, M', m1, hs', m5⟩
theorem aw_toq {c : Code} (i : Nat) {b E x : Nat} {xs : List CV} (hi : look i env = some (.vec b 1)) (hH : St.H ⟨n, env, heap, nx, gl⟩ b = some (.vec E 1 xs)) (hx : xs = [.v (natV x)])
    (h : ∀ cap, Awp P c Q ⟨n, (i, .ref nx (qV 0 1 cap)) :: env, (nx, some (.obj (qP E 0 cap [x]))) :: (b, none) :: heap, nx + 1, gl⟩) : Awp P c Q ⟨n, env, heap, nx, gl⟩ := by
  intro base w0 M a hs
  obtain ⟨cap, M', h1, h2, h3⟩ := sim_toq hs hi hH hx
  rw [← h1]
  exact wp_mono (h cap base w0 M' a h2) fun e a w => Lift.ext h3
theorem r_qlen [W : Walk P X] {x : Operand} {t E bytes b off k cap : Nat} [I : SlT P t E 1 bytes] (hx : St.ev ⟨n, env, heap, nx, gl⟩ x = some (.ref b (qV off k cap))) (hd : Nat.blt d n = true) (h : X rest ⟨n, (d, .c (.v (.int .i64 (k : Int)))) :: env, heap, nx, gl⟩) : X (⟨some d, .call ⟨.builtin .len, #[x], #[t]⟩, ty, pos, af, none⟩ :: rest) ⟨n, env, heap, nx, gl⟩ := by
  refine ao_val (st := ⟨n, env, heap, nx, gl⟩) rfl rfl hd (fun _ _ M a hs => ?_) h
  have hxv := hs.ev (by simp [Op.operands, Call.operands]) hx
  generalize he : a.eval x = u at hxv
  cases hxv with
  | ref h1 h2 =>
    refine ⟨.int .i64 (k : Int), ?_, .c (.v _)⟩
    obtain ⟨i, z, f1, _⟩ := I.out
    simp [execOp, resolve, invoke, builtin, Builtin.len_, he, qV, run_underlying f1, goInt, Result.andThen]
theorem r_qindex [W : Walk P X] {x y : Operand} {t E bytes b off k cap : Nat} {kk : IntKind} [I : SlT P t E 1 bytes] (hx : St.ev ⟨n, env, heap, nx, gl⟩ x = some (.ref b (qV off k cap))) (hy : St.ev ⟨n, env, heap, nx, gl⟩ y = some (.c (.v (.int kk 0)))) (hlt : 0 < k) (hd : Nat.blt d n = true) (h : X rest ⟨n, (d, .ptr b off) :: env, heap, nx, gl⟩) : X (⟨some d, .indexAddr t x y, ty, pos, af, none⟩ :: rest) ⟨n, env, heap, nx, gl⟩ := by
  refine ao_val (st := ⟨n, env, heap, nx, gl⟩) rfl rfl hd (fun _ _ M a hs => ?_) h
  have hxv := hs.ev (by simp [Op.operands, Call.operands]) hx
  have hyv := (hs.ev (by simp [Op.operands, Call.operands]) hy).bool
  generalize he : a.eval x = u at hxv
  cases hxv with
  | @ref _ g _ h1 h2 =>
    refine ⟨.pointer (some ⟨g, off, none⟩), ?_, .ptr h1⟩
    simp only [execOp, he, hyv, qV]
    have := run_indexAt I M.w g off k cap 0 kk hlt
    rw [show off + 0 * 1 = off by omega] at this
    rw [Sem.run_bind]
    rw [show ((0 : Nat) : Int) = 0 from rfl] at this
    rw [this]; rfl
theorem r_qload [W : Walk P X] {x : Operand} {t E b off cap y : Nat} {l : List Nat} [I : TyC P t false 1] (hx : St.ev ⟨n, env, heap, nx, gl⟩ x = some (.ptr b off)) (hH : St.H ⟨n, env, heap, nx, gl⟩ b = some (.obj (qP E off cap (y :: l)))) (hd : Nat.blt d n = true) (h : X rest ⟨n, (d, .c (.v (.int .i64 (y : Int)))) :: env, heap, nx, gl⟩) : X (⟨some d, .load t x, ty, pos, af, none⟩ :: rest) ⟨n, env, heap, nx, gl⟩ := by
  refine ao_val (st := ⟨n, env, heap, nx, gl⟩) rfl rfl hd (fun _ _ M a hs => ?_) h
  have hxv := hs.ev (by simp [Op.operands, Call.operands]) hx
  obtain ⟨g, o1, _, ⟨_, arr, o3, o4, o5, o6⟩, _⟩ := hs.sim.heap.obj b _ (hs.H _ _ hH)
  generalize he : a.eval x = u at hxv
  cases hxv with
  | ptr h1 =>
    rw [o1] at h1; cases h1
    refine ⟨natV y, ?_, .c (.v _)⟩
    have hc : M.w.cell? ⟨g, off, none⟩ = some (natV y) := by
      have := o6 0 y rfl
      rw [Nat.add_zero] at this
      simp [World.cell?, o3, this]
    exact ex_load_s I he hc
theorem r_qtail {x c : Operand} {t E bytes b off k cap y : Nat} {l : List Nat} {kk : IntKind} [I : SlT P t E 1 bytes] (hx : St.ev ⟨n, env, heap, nx, gl⟩ x = some (.ref b (qV off k cap))) (hc : St.ev ⟨n, env, heap, nx, gl⟩ c = some (.c (.v (.int kk 1)))) (hH : St.H ⟨n, env, heap, nx, gl⟩ b = some (.obj (qP E off cap (y :: l)))) (hk : k = l.length + 1) (hd : Nat.blt d n = true)
    (h : ∀ off' cap', AOps P ops Q rest ⟨n, (d, .ref b (qV off' l.length cap')) :: env, (b, some (.obj (qP E off' cap' l))) :: heap, nx, gl⟩) : AOps P ops Q (⟨some d, .slice t x (some c) none none, ty, pos, af, none⟩ :: rest) ⟨n, env, heap, nx, gl⟩ := by
  subst hk
  intro base w0 M a hs
  have hxv := hs.ev hx
  have hcv := (hs.ev hc).bool
  have hbM : M.H b = some (.obj (qP E off cap (y :: l))) := by rw [hs.H]; exact hH
  obtain ⟨g, o1, o2, ⟨o0, arr, o3, o4, o5, o6⟩, o7, _⟩ := hs.heap.obj b _ hbM
  have o5 : l.length + 1 ≤ cap := o5
  generalize he : a.eval x = u at hxv
  cases hxv with
  | @ref _ g' _ h1 h2 =>
    rw [o1] at h1; cases h1
    obtain ⟨off', hoff, ho1, ho2⟩ : ∃ off', (Instr.sliceAt t (qV off (l.length + 1) cap g) (some (.int kk 1)) none none).run P M.w = .ok (qV off' l.length (cap - 1) g) M.w ∧ (off' = off + 1 ∨ (cap = 1 ∧ off' = off)) ∧ True := by
      obtain ⟨i, z, f1, f2, f3, f4, f5, f6⟩ := I.out
      by_cases h1 : cap = 1
      · refine ⟨off, ?_, .inr ⟨h1, rfl⟩, trivial⟩
        subst h1
        have : l.length = 0 := by omega
        simp [Instr.sliceAt, Instr.slice, Instr.sliceBounds, Instr.sliceBound, asIntOf, qV, run_underlying f1, sizeOf, typeInfo, f2, f4, this, Result.andThen]
      · refine ⟨off + 1, ?_, .inl rfl, trivial⟩
        have h2 : ¬ (cap = 1) := h1
        have h3 : (1 : Int) ≤ (l.length : Int) + 1 := by omega
        simp [Instr.sliceAt, Instr.slice, Instr.sliceBounds, Instr.sliceBound, asIntOf, qV, run_underlying f1, sizeOf, typeInfo, f2, f4, h2, h3, Kit.addr_add, Result.andThen]
    obtain ⟨M', m1, m2, m3, m4⟩ := hs.changeO (w' := M.w) (p' := qP E off' (cap - 1) l) (fp' := M.fp b) hbM o1 ⟨rfl, rfl, rfl, Nat.le_refl _, fun _ _ _ => rfl, ⟨o0, arr, o3, by omega, by omega, fun i z hz => by
      have hi := (List.getElem?_eq_some_iff.1 hz).1
      have := o6 (i + 1) z (by simpa using hz)
      rcases ho1 with e | ⟨e1, e2⟩
      · rw [e, show off + 1 + i = off + (i + 1) by omega]; exact this
      · omega⟩, o2, fun k hk => ⟨(o7 k hk).2.1, .inl hk⟩⟩
    refine wl_value (w' := M.w) (u := qV off' l.length (cap - 1) g) rfl ?_ ?_
    · simp only [execOp, he, hcv, Option.map]
      rw [Sem.run_bind, hoff]; rfl
    · rw [← m1]
      exact wpList_monoQ (fun e a w => Lift.ext m4) _ _ _ (h off' (cap - 1) base w0 M' _ (m3.put hd (.ref (f := qV off' l.length (cap - 1)) (m4.m _ _ o1) rfl)))
theorem run_qroom {w : World} {t ty E bytes g off k cap : Nat} [I : SlT P t E 1 bytes] {cur : Array Value} (hg : w.heap[g]? = some (.cells cur E (0, 0))) {a : Addr} {c : Nat} {v : Value} (hv : w.cell? a = some v) (ho : v.oneCell' = true) (hroom : k + 1 ≤ cap) (hfit : off + k + 1 ≤ cur.size) :
    (Builtin.append_ #[t, t] ty #[.slice (some ⟨g, off, none⟩) k cap, .slice (some a) 1 c]).run P w = .ok (.slice (some ⟨g, off, none⟩) (k + 1) cap) (w.setRow g (cur.toList.take (off + k) ++ [v] ++ cur.toList.drop (off + k + 1)).toArray) := by
  obtain ⟨i, z, f1, f2, f3, f4, f5, f6⟩ := I.out
  have hf := run_firstCells_some (P := P) w i.size 1 a 1 c [v] (by simp [f4]) (fun j u hu => by
    match j with
    | 0 => simp at hu; subst hu; rw [show a.add 0 = a by cases a; rfl]; exact hv
    | j + 1 => simp at hu)
  have hst := run_storeCells_at P g (off + k) E [v] 0 cur w hg (by simpa using hfit) (fun u hu => by simp at hu; subst hu; exact ho)
  simp only [Nat.add_zero, List.length_singleton] at hst
  simp [Builtin.append_, run_underlying f1, sizeOf, typeInfo, f2, f4, Builtin.lenOf, hroom, Kit.addr_add, hst]
  rw [f4] at hf
  simp [hf, hst]
theorem r_qapp {s x : Operand} {t E bytes b off k cap y : Nat} {l : List Nat} [I : SlT P t E 1 bytes] (hx : St.ev ⟨n, env, heap, nx, gl⟩ s = some (.ref b (qV off k cap))) (hy : St.ev ⟨n, env, heap, nx, gl⟩ x = some (.c (.lst 1 [.v (natV y)]))) (hH : St.H ⟨n, env, heap, nx, gl⟩ b = some (.obj (qP E off cap l))) (hk : k = l.length) (hlen : (l.length + 1) * bytes ≤ 140737488355328) (hl2 : l.length + 1 ≤ 9223372036854775807) (hd : Nat.blt d n = true)
    (h : ∀ off' cap', AOps P ops Q rest ⟨n, (d, .ref nx (qV off' (l.length + 1) cap')) :: env, (nx, some (.obj (qP E off' cap' (l ++ [y])))) :: (b, none) :: heap, nx + 1, gl⟩) : AOps P ops Q (⟨some d, .call ⟨.builtin .append, #[s, x], #[t, t]⟩, ty, pos, af, none⟩ :: rest) ⟨n, env, heap, nx, gl⟩ := by
  subst hk
  intro base w0 M a hs
  have hxv := hs.ev hx
  have hyv := hs.ev hy
  have hbM : M.H b = some (.obj (qP E off cap l)) := by rw [hs.H]; exact hH
  obtain ⟨g, o1, o2, ⟨o0, arr, o3, o4, o5, o6⟩, o7, o8⟩ := hs.heap.obj b _ hbM
  have hnx : M.nx = nx := hs.nx
  have hbn : b < nx := by rw [← hnx]; exact hs.heap.lt b (by rw [hbM]; simp)
  generalize he : a.eval s = u at hxv
  generalize he2 : a.eval x = u2 at hyv
  cases hxv with
  | @ref _ g' _ h1 h2 =>
  rw [o1] at h1; cases h1
  cases hyv with
  | c hyc =>
  have hsh : ∃ ad c, u2 = .slice (some ad) 1 c ∧ M.w.cell? ad = some (natV y) := by
    cases hyc with
    | @lst size blk o nn capx xs cs hn hc hF hcell hr =>
      have hnn : nn = 1 := by simpa using hn.symm
      subst hnn
      have hc0 := hcell 0 _ rfl
      have hr0 := hr 0 _ rfl
      have : cs 0 = natV y := by generalize cs 0 = q at hr0; cases hr0; rfl
      exact ⟨_, _, rfl, by rw [this] at hc0; rw [Nat.add_zero] at hc0; exact hc0⟩
  obtain ⟨ad, c, rfl, hcell⟩ := hsh
  have hex : ∀ (v' : Value) (w' : World), (Builtin.append_ #[t, t] ty #[.slice (some ⟨g, off, none⟩) l.length cap, .slice (some ad) 1 c]).run P M.w = .ok v' w' → (execOp a.eval ⟨some d, .call ⟨.builtin .append, #[s, x], #[t, t]⟩, ty, pos, af, none⟩).run P M.w = .ok (.value v') w' := fun v' w' hr => by
    refine ex_append (v := .slice (some ⟨g, off, none⟩) l.length cap) he he2 hr
  by_cases hroom : l.length + 1 ≤ cap
  · have hlt := (Array.getElem?_eq_some_iff.1 o3).1
    have hrun := run_qroom (P := P) (t := t) (ty := ty) o3 (k := l.length) (off := off) (c := c) hcell rfl hroom (by omega)
    let arr' := (arr.toList.take (off + l.length) ++ [natV y] ++ arr.toList.drop (off + l.length + 1)).toArray
    have hsz : arr'.size = arr.size := by simp [arr']; omega
    have hget : ∀ (i z : Nat), (l ++ [y])[i]? = some z → arr'[off + i]? = some (natV z) := fun i z hz => by
      rcases Nat.lt_or_ge i l.length with hi | hi
      · rw [List.getElem?_append_left hi] at hz
        have h6 := o6 i z hz
        show (arr.toList.take (off + l.length) ++ [natV y] ++ arr.toList.drop (off + l.length + 1)).toArray[off + i]? = _
        rw [List.getElem?_toArray, List.append_assoc, List.getElem?_append_left (by simp; omega), List.getElem?_take, if_pos (by omega)]
        simpa using h6
      · have hi2 : i = l.length := by
          have := (List.getElem?_eq_some_iff.1 hz).1
          simp at this; omega
        subst hi2
        rw [List.getElem?_append_right (Nat.le_refl _), Nat.sub_self] at hz
        simp at hz; subst hz
        show (arr.toList.take (off + l.length) ++ [natV y] ++ arr.toList.drop (off + l.length + 1)).toArray[off + l.length]? = _
        rw [List.getElem?_toArray, List.append_assoc, List.getElem?_append_right (by simp; omega)]
        have : off + l.length - (arr.toList.take (off + l.length)).length = 0 := by simp; omega
        rw [this]; rfl
    obtain ⟨M1, m1, m2, m3, m4⟩ := hs.changeO (w' := M.w.setRow g arr') (p' := qP E off cap (l ++ [y])) (fp' := M.fp b) hbM o1 ⟨rfl, rfl, rfl, by simp, fun k hk hn => setRow_other _ _ _ _ (fun e => hn ((o0 k).2 e)), ⟨o0, arr', setRow_heap _ _ _ _ _ _ o3, by rw [hsz]; exact o4, by simpa using hroom, hget⟩, o2, fun k hk => ⟨by have := (o7 k hk).2.1; simpa using this, .inl hk⟩⟩
    have hb1 : M1.H b = some (.obj (qP E off cap (l ++ [y]))) := by rw [m3.H, H_set, if_pos rfl]
    obtain ⟨g1, q1, q2, q3, q4, q5⟩ := m3.heap.obj b _ hb1
    have hg1 : g = g1 := by have := m4.m b g o1; rw [q1] at this; cases this; rfl
    subst hg1
    obtain ⟨M', k1, k2, k3, k4, k5⟩ := m3.adopt b q3 q2 q4 q5
    have hnx1 : M1.nx = nx := m3.nx
    have hs' : Sim base w0 ⟨n, env, (nx, some (.obj (qP E off cap (l ++ [y])))) :: (b, none) :: heap, nx + 1, gl⟩ M' a := by
      refine k4.congr (funext fun k => ?_) rfl rfl rfl rfl
      show St.H ⟨n, env, (nx, some (.obj (qP E off cap (l ++ [y])))) :: (b, none) :: (b, some (.obj (qP E off cap (l ++ [y])))) :: heap, nx + 1, gl⟩ k = _
      unfold St.H
      simp only [look_cons]
      by_cases e1 : nx = k
      · rw [if_pos e1, if_pos e1]
      · rw [if_neg e1, if_neg e1]
        by_cases e2 : b = k
        · rw [if_pos e2, if_pos e2]
        · rw [if_neg e2, if_neg e2, if_neg e2]
    refine wl_value (w' := M.w.setRow g arr') (u := qV off (l.length + 1) cap g) rfl (hex _ _ hrun) ?_
    rw [← m1, ← k1]
    exact wpList_monoQ (fun e a w => Lift.ext (m4.trans k5)) _ _ _ (h off cap base w0 M' _ (hs'.put hd (.ref (f := qV off (l.length + 1) cap) (by rw [← hnx1]; exact k3) rfl)))
  · obtain ⟨i, z, f1, f2, f3, f4, f5, f6⟩ := I.out
    obtain ⟨M1, m1, m2, m3, m4⟩ := hs.forget b
    have hrun := run_append_grow (P := P) M.w t ty E i z f1 f2 f3 ⟨g, off, none⟩ l.length cap (l.map natV) (by simp [f4]) (fun j v hv => by
      obtain ⟨xx, hx1, rfl⟩ : ∃ xx, l[j]? = some xx ∧ natV xx = v := by simpa using hv
      have := o6 j xx hx1
      rw [Kit.addr_add]
      simp [World.cell?, o3, this]) ad 1 c [natV y] (by simp [f4]) (fun j v hv => by
      match j with
      | 0 => simp at hv; subst hv; rw [show ad.add 0 = ad by cases ad; rfl]; exact hcell
      | j + 1 => simp at hv) (by omega) (by omega) (growslice_fits (by omega) (by rw [f5]; exact hlen))
    generalize hcap : grownCap M.w (l.length + 1) cap E = cap' at hrun
    have hge : l.length + 1 ≤ cap' := by rw [← hcap]; exact grownCap_ge _ _ _ _
    generalize harr : (l.map natV).toArray ++ [natV y].toArray ++ Builtin.zeroCells z.cells (cap' - (l.length + 1)) = arr' at hrun
    have hsz : arr'.size = cap' := by
      rw [← harr, Array.size_append, Array.size_append, size_zeroCells, f6]; simp; omega
    have hget : ∀ (j zz : Nat), (l ++ [y])[j]? = some zz → arr'[0 + j]? = some (natV zz) := fun j zz hz => by
      have hj := (List.getElem?_eq_some_iff.1 hz).1
      have e1 : ((l.map natV).toArray ++ [natV y].toArray) = ((l ++ [y]).map natV).toArray := by simp
      rw [← harr, e1, Nat.zero_add, Array.getElem?_append_left (by simpa using hj)]
      rw [List.getElem?_toArray, List.getElem?_map, hz]; rfl
    obtain ⟨M', k1, k2, k3, k4, k5⟩ := m3.newO (g := M.w.heap.size) (p := qP E 0 cap' (l ++ [y])) (fp := fun k => k = M.w.heap.size) (w' := M.w.drew.alloc (.cells arr' E)) (by
      rw [m1]
      refine ⟨⟨rfl, rfl, rfl, by rw [alloc_size]; show M.w.heap.size ≤ M.w.heap.size + 1; omega, fun k hk => alloc_heap M.w.drew _ _ hk⟩, ⟨fun _ => Iff.rfl, arr', alloc_new M.w.drew _, by omega, by simpa using hge, hget⟩, rfl, fun k hk => ?_⟩
      subst hk
      exact ⟨Nat.le_refl _, by rw [alloc_size]; show M.w.heap.size < M.w.heap.size + 1; omega⟩)
    refine wl_value (w' := M.w.drew.alloc (.cells arr' E)) (u := qV 0 (l.length + 1) cap' M.w.heap.size) rfl (hex _ _ hrun) ?_
    have hnx1 : M1.nx = nx := m3.nx
    rw [← k1]
    exact wpList_monoQ (fun e a w => Lift.ext (m4.trans k5)) _ _ _ (h 0 cap' base w0 M' _ (k4.put hd (.ref (f := qV 0 (l.length + 1) cap') (by rw [← hnx1]; exact k3) rfl)))
end
end Go.Proofs.Ytdndfncpglfdeaa.Ev
/- More rules of a walk: pointers that are checked, calls that change an object and leave what is found, look-ups with what is known. Nothing here names a program. -/
namespace Go.Proofs.Ytdndfncpglfdeaa.Ev
set_option linter.unusedVariables false
set_option linter.unusedSimpArgs false
open Go.RowKit
section
variable {P : Program} {ops : Array Oper} {Q : Exit → St → Prop} {X : List Oper → St → Prop} {rest : List Oper} {d : Nat} {ty : TypeId} {pos : String} {af : Array Edge} {n : Nat} {env : List (Nat × AV)} {heap : List (Nat × Option AB)} {nx : Nat} {gl : List (Nat × List CV)}
theorem r_nilp [W : Walk P X] {x : Operand} {b off : Nat} (hx : St.ev ⟨n, env, heap, nx, gl⟩ x = some (.ptr b off)) (hd : Nat.blt d n = true) (h : X rest ⟨n, (d, .ptr b off) :: env, heap, nx, gl⟩) : X (⟨some d, .nilCheck x, ty, pos, af, none⟩ :: rest) ⟨n, env, heap, nx, gl⟩ := by
  refine ao_val (st := ⟨n, env, heap, nx, gl⟩) rfl rfl hd (fun _ _ M e hs => ?_) h
  have hv := hs.ev (by simp [Op.operands, Call.operands]) hx
  generalize he : e.eval x = u at hv
  cases hv with
  | ptr hm =>
    refine ⟨_, ?_, .ptr hm⟩
    simp only [execOp, he]
    rfl
theorem r_callOE {Γ : Type} {f : FuncId} {args : List Operand} {tys : Array TypeId} {ys : List AV} {zs : List OA} {r : Γ → CV} {p : ObjP} {p' : Γ → ObjP} (b : Nat) (hcon : OConE P gl f zs p r p') (hys : evs ⟨n, env, heap, nx, gl⟩ args = some ys) (hz : oas b ys = some zs) (hb : St.H ⟨n, env, heap, nx, gl⟩ b = some (.obj p)) (hd : Nat.blt d n = true)
    (h : ∀ γ, AOps P ops Q rest ⟨n, (d, ofC (r γ)) :: env, (b, some (.obj (p' γ))) :: heap, nx, gl⟩) : AOps P ops Q (⟨some d, .call ⟨.value (.func f), args.toArray, tys⟩, ty, pos, af, none⟩ :: rest) ⟨n, env, heap, nx, gl⟩ :=
  ao_callOE (st := ⟨n, env, heap, nx, gl⟩) b hcon hys hz hb hd h
theorem r_mapok0 [W : Walk P X] {t kt b : Nat} {m x : Operand} {f : Nat → Option Nat} {k : Nat} {idx : Int} [I : MapT P t kt] (hf : f k = none) (hm : St.ev ⟨n, env, heap, nx, gl⟩ m = some (.ref b mapV)) (hH : St.H ⟨n, env, heap, nx, gl⟩ b = some (.obj (mapP f))) (hx : St.ev ⟨n, env, heap, nx, gl⟩ x = some (.c (.v (.int .i64 idx)))) (hk : idx = (k : Int)) (hd : Nat.blt d n = true)
    (h : X rest ⟨n, (d, .tup [.c (.v (.int .i64 0)), .c (.v (.bool false))]) :: env, heap, nx, gl⟩) : X (⟨some d, .lookup t m x true, ty, pos, af, none⟩ :: rest) ⟨n, env, heap, nx, gl⟩ := by
  refine r_mapok hm hH hx hk hd ?_
  rw [hf]; exact h
theorem r_mapok1 [W : Walk P X] {t kt b : Nat} {m x : Operand} {f : Nat → Option Nat} {k v : Nat} {idx : Int} [I : MapT P t kt] (hf : f k = some v) (hm : St.ev ⟨n, env, heap, nx, gl⟩ m = some (.ref b mapV)) (hH : St.H ⟨n, env, heap, nx, gl⟩ b = some (.obj (mapP f))) (hx : St.ev ⟨n, env, heap, nx, gl⟩ x = some (.c (.v (.int .i64 idx)))) (hk : idx = (k : Int)) (hd : Nat.blt d n = true)
    (h : X rest ⟨n, (d, .tup [.c (.v (.int .i64 (v : Int))), .c (.v (.bool true))]) :: env, heap, nx, gl⟩) : X (⟨some d, .lookup t m x true, ty, pos, af, none⟩ :: rest) ⟨n, env, heap, nx, gl⟩ := by
  refine r_mapok hm hH hx hk hd ?_
  rw [hf]; exact h
theorem r_mapget1 [W : Walk P X] {t kt b : Nat} {m x : Operand} {f : Nat → Option Nat} {k v : Nat} {idx : Int} [I : MapT P t kt] (hf : f k = some v) (hm : St.ev ⟨n, env, heap, nx, gl⟩ m = some (.ref b mapV)) (hH : St.H ⟨n, env, heap, nx, gl⟩ b = some (.obj (mapP f))) (hx : St.ev ⟨n, env, heap, nx, gl⟩ x = some (.c (.v (.int .i64 idx)))) (hk : idx = (k : Int)) (hd : Nat.blt d n = true)
    (h : X rest ⟨n, (d, .c (.v (.int .i64 (v : Int)))) :: env, heap, nx, gl⟩) : X (⟨some d, .lookup t m x false, ty, pos, af, none⟩ :: rest) ⟨n, env, heap, nx, gl⟩ := by
  refine r_mapget hm hH hx hk hd ?_
  rw [hf]; exact h
end
end Go.Proofs.Ytdndfncpglfdeaa.Ev
/- Rules of a walk: calls without a result that are walked through. Nothing here names a program. -/
namespace Go.Proofs.Ytdndfncpglfdeaa.Ev
set_option linter.unusedVariables false
set_option linter.unusedSimpArgs false
open Go.RowKit
section
variable {P : Program} {ops : Array Oper} {Q : Exit → St → Prop} {rest : List Oper} {d : Nat} {ty : TypeId} {pos : String} {af : Array Edge} {n : Nat} {env : List (Nat × AV)} {heap : List (Nat × Option AB)} {nx : Nat} {gl : List (Nat × List CV)}
def Back0 (gl : List (Nat × List CV)) (K : List (Nat × Option AB) → Nat → Prop) : Exit → St → Prop
  | e, s => (e = .normal ∨ e = .ret) ∧ s.gl = gl ∧ K s.heap s.nx
theorem back0_ret {K : List (Nat × Option AB) → Nat → Prop} (hK : K heap nx) : Back0 gl K .ret ⟨n, env, heap, nx, gl⟩ := ⟨Or.inr rfl, rfl, hK⟩
theorem back0_normal {K : List (Nat × Option AB) → Nat → Prop} (hK : K heap nx) : Back0 gl K .normal ⟨n, env, heap, nx, gl⟩ := ⟨Or.inl rfl, rfl, hK⟩
theorem r_in0 {f : FuncId} {fn : Func} {c : Code} {nt : Nat} {args : List Operand} {tys : Array TypeId} {ys : List AV} {env' : List (Nat × AV)} (hf : P.funcs[f]? = some fn) (hb : fn.body = some c) (hr : fn.results = #[]) (hcall : callableB P f = true) (hnt : fn.ntmps = nt) (hys : evs ⟨n, env, heap, nx, gl⟩ args = some ys) (hn : Nat.ble ys.length nt = true) (he : argEnvA 0 ys = env') (hd : Nat.blt d n = true)
    (h : Awp P c (Back0 gl (fun heap nx => AOps P ops Q rest ⟨n, (d, .tup []) :: env, heap, nx, gl⟩)) ⟨nt, env', heap, nx, gl⟩) : AOps P ops Q (⟨some d, .call ⟨.value (.func f), args.toArray, tys⟩, ty, pos, af, none⟩ :: rest) ⟨n, env, heap, nx, gl⟩ := by
  subst hnt; subst he
  intro base w0 M a hs
  obtain ⟨e1, e2⟩ := evs_get hys
  have hn := Nat.le_of_ble_eq_true hn
  have hsim : Sim base w0 ⟨fn.ntmps, argEnvA 0 ys, heap, nx, gl⟩ M { tmps := (args.map a.eval).toArray ++ Array.replicate (fn.ntmps - (args.map a.eval).toArray.size) undef, defers := [] } := by
    refine ⟨hs.H, hs.nx, by simp; omega, fun i y hy => ?_, hs.gl, hs.heap, hs.below, hs.base, rfl, hs.old⟩
    obtain ⟨_, h1⟩ := argEnvA_get ys 0 i y hy
    rw [Nat.sub_zero] at h1
    have hi : i < args.length := by have := (List.getElem?_eq_some_iff.1 h1).1; omega
    exact ⟨a.eval args[i], by simp [Array.getElem?_append, hi], hs.ev (e2 i args[i] y (by simp [hi]) h1)⟩
  refine wl_enter rfl (run_call hcall a M.w) (R := fun v w'' => wpList P ops (Lift base w0 M Q) rest (a.put (some d) v) w'') (calls_of_wp hf hb ?_) (fun v w'' hR => hR)
  refine Code.wp_mono ?_ (h base w0 M _ hsim)
  intro e a' w' ⟨M', s', h1, h2, h3, h4, h5, h7⟩
  subst h1
  have hres : (results fn a'.tmps).run P M'.w = .ok (.tuple #[]) M'.w := by
    unfold results
    rw [hr]
    simp
  have g2 : RA M' (.tup []) (.tuple #[]) := .tup rfl (fun i x u h => by simp at h)
  have hd' := blt_true hd
  have hcaller : Sim base w0 ⟨n, (d, .tup []) :: env, s'.heap, s'.nx, gl⟩ M' (a.put (some d) (.tuple #[])) := by
    refine ⟨h2.H, h2.nx, by show (a.tmps.setIfInBounds d _).size = _; rw [Array.size_setIfInBounds]; exact hs.n, fun i z hz => ?_, fun g xs hg => h2.gl g xs (by rw [h5]; exact hg), h2.heap, h2.below, h2.base, by simpa [Act.put] using hs.defs, h2.old⟩
    rw [look_cons] at hz
    by_cases hi : d = i
    · subst hi
      rw [if_pos rfl] at hz
      simp only [Option.some.injEq] at hz; subst hz
      exact ⟨.tuple #[], by simp [Act.put, hs.n, hd'], g2⟩
    · rw [if_neg hi] at hz
      obtain ⟨u, q1, q2⟩ := hs.env i z hz
      exact ⟨u, by simp [Act.put, Array.getElem?_setIfInBounds_ne hi, q1], q2.mono h3⟩
  have hgoal : wpList P ops (Lift base w0 M Q) rest (a.put (some d) (.tuple #[])) M'.w := wpList_monoQ (fun e a w => Lift.ext h3) _ _ _ (h7 base w0 M' _ hcaller)
  have : bodyPost P fn (fun e w'' => ∃ v, e = .returned v ∧ wpList P ops (Lift base w0 M Q) rest (a.put (some d) v) w'') e a' M'.w := by
    rcases h4 with rfl | rfl
    · exact ⟨h2.defs, _, hres, _, rfl, hgoal⟩
    · exact ⟨h2.defs, _, hres, _, rfl, hgoal⟩
  exact this
end
end Go.Proofs.Ytdndfncpglfdeaa.Ev
/- Rules of a walk: calls with two results that are walked through. Nothing here names a program. -/
namespace Go.Proofs.Ytdndfncpglfdeaa.Ev
set_option linter.unusedVariables false
set_option linter.unusedSimpArgs false
open Go.RowKit
section
variable {P : Program} {ops : Array Oper} {Q : Exit → St → Prop} {X : List Oper → St → Prop} {rest : List Oper} {d : Nat} {ty : TypeId} {pos : String} {af : Array Edge} {n : Nat} {env : List (Nat × AV)} {heap : List (Nat × Option AB)} {nx : Nat} {gl : List (Nat × List CV)}
def Back2 (t1 t2 : Nat) (gl : List (Nat × List CV)) (K : List AV → List (Nat × Option AB) → Nat → Prop) : Exit → St → Prop
  | e, s => (e = .normal ∨ e = .ret) ∧ s.gl = gl ∧ ∃ y1 y2, look t1 s.env = some y1 ∧ look t2 s.env = some y2 ∧ K [y1, y2] s.heap s.nx
theorem back2_ret {t1 t2 : Nat} {y1 y2 : AV} {e : Exit} {K : List AV → List (Nat × Option AB) → Nat → Prop} (he : e = .normal ∨ e = .ret) (g1 : look t1 env = some y1) (g2 : look t2 env = some y2) (hK : K [y1, y2] heap nx) : Back2 t1 t2 gl K e ⟨n, env, heap, nx, gl⟩ :=
  ⟨he, rfl, y1, y2, g1, g2, hK⟩
theorem r_in2 {f : FuncId} {fn : Func} {c : Code} {t1 t2 nt : Nat} {args : List Operand} {tys : Array TypeId} {ys : List AV} {env' : List (Nat × AV)} (hf : P.funcs[f]? = some fn) (hb : fn.body = some c) (hr : fn.results = #[.tmp t1, .tmp t2]) (hcall : callableB P f = true) (hnt : fn.ntmps = nt) (hys : evs ⟨n, env, heap, nx, gl⟩ args = some ys) (hn : Nat.ble ys.length nt = true) (he : argEnvA 0 ys = env') (hd : Nat.blt d n = true)
    (h : Awp P c (Back2 t1 t2 gl (fun zs heap nx => AOps P ops Q rest ⟨n, (d, .tup zs) :: env, heap, nx, gl⟩)) ⟨nt, env', heap, nx, gl⟩) : AOps P ops Q (⟨some d, .call ⟨.value (.func f), args.toArray, tys⟩, ty, pos, af, none⟩ :: rest) ⟨n, env, heap, nx, gl⟩ := by
  subst hnt; subst he
  intro base w0 M a hs
  obtain ⟨e1, e2⟩ := evs_get hys
  have hn := Nat.le_of_ble_eq_true hn
  have hsim : Sim base w0 ⟨fn.ntmps, argEnvA 0 ys, heap, nx, gl⟩ M { tmps := (args.map a.eval).toArray ++ Array.replicate (fn.ntmps - (args.map a.eval).toArray.size) undef, defers := [] } := by
    refine ⟨hs.H, hs.nx, by simp; omega, fun i y hy => ?_, hs.gl, hs.heap, hs.below, hs.base, rfl, hs.old⟩
    obtain ⟨_, h1⟩ := argEnvA_get ys 0 i y hy
    rw [Nat.sub_zero] at h1
    have hi : i < args.length := by have := (List.getElem?_eq_some_iff.1 h1).1; omega
    exact ⟨a.eval args[i], by simp [Array.getElem?_append, hi], hs.ev (e2 i args[i] y (by simp [hi]) h1)⟩
  refine wl_enter rfl (run_call hcall a M.w) (R := fun v w'' => wpList P ops (Lift base w0 M Q) rest (a.put (some d) v) w'') (calls_of_wp hf hb ?_) (fun v w'' hR => hR)
  refine Code.wp_mono ?_ (h base w0 M _ hsim)
  intro e a' w' ⟨M', s', h1, h2, h3, h4, h5, y1, y2, q1, q2, h7⟩
  subst h1
  obtain ⟨v1, a1, b1⟩ := h2.env t1 y1 q1
  obtain ⟨v2, a2, b2⟩ := h2.env t2 y2 q2
  have hres : (results fn a'.tmps).run P M'.w = .ok (.tuple #[v1, v2]) M'.w := by
    unfold results
    rw [hr]
    simp [Array.getD_eq_getD_getElem?, a1, a2]
  have g2 : RA M' (.tup [y1, y2]) (.tuple #[v1, v2]) := .tup rfl (fun i x u hx hu => by
    match i with
    | 0 => simp at hx hu; subst hx; subst hu; exact b1
    | 1 => simp at hx hu; subst hx; subst hu; exact b2
    | i + 2 => simp at hx)
  have hd' := blt_true hd
  have hcaller : Sim base w0 ⟨n, (d, .tup [y1, y2]) :: env, s'.heap, s'.nx, gl⟩ M' (a.put (some d) (.tuple #[v1, v2])) := by
    refine ⟨h2.H, h2.nx, by show (a.tmps.setIfInBounds d _).size = _; rw [Array.size_setIfInBounds]; exact hs.n, fun i z hz => ?_, fun g xs hg => h2.gl g xs (by rw [h5]; exact hg), h2.heap, h2.below, h2.base, by simpa [Act.put] using hs.defs, h2.old⟩
    rw [look_cons] at hz
    by_cases hi : d = i
    · subst hi
      rw [if_pos rfl] at hz
      simp only [Option.some.injEq] at hz; subst hz
      exact ⟨.tuple #[v1, v2], by simp [Act.put, hs.n, hd'], g2⟩
    · rw [if_neg hi] at hz
      obtain ⟨u, q1, q2⟩ := hs.env i z hz
      exact ⟨u, by simp [Act.put, Array.getElem?_setIfInBounds_ne hi, q1], q2.mono h3⟩
  have hgoal : wpList P ops (Lift base w0 M Q) rest (a.put (some d) (.tuple #[v1, v2])) M'.w := wpList_monoQ (fun e a w => Lift.ext h3) _ _ _ (h7 base w0 M' _ hcaller)
  have : bodyPost P fn (fun e w'' => ∃ v, e = .returned v ∧ wpList P ops (Lift base w0 M Q) rest (a.put (some d) v) w'') e a' M'.w := by
    rcases h4 with rfl | rfl
    · exact ⟨h2.defs, _, hres, _, rfl, hgoal⟩
    · exact ⟨h2.defs, _, hres, _, rfl, hgoal⟩
  exact this
end
end Go.Proofs.Ytdndfncpglfdeaa.Ev
/- Contracts of functions that return something of which more is known. Nothing here names a program. -/
namespace Go.Proofs.Ytdndfncpglfdeaa.Ev
set_option linter.unusedVariables false
set_option linter.unusedSimpArgs false
open Go.RowKit
def ConE {Γ : Type} (P : Program) (gl : List (Nat × List CV)) (f : FuncId) (args : List CV) (r : Γ → CV) : Prop :=
  callableB P f = true ∧ ∀ (w : World) (F : Nat → Prop) (vals : Array Value), (∀ b, F b → b < w.heap.size) → GlOK gl F w → args.length = vals.size → (∀ (i : Nat) (x : CV) (u : Value), args[i]? = some x → vals[i]? = some u → RC F w x u) →
    Calls P f vals w fun e w' => ∃ γ v, e = .returned v ∧ Below w.heap.size w w' ∧ RC (fun b => F b ∨ (w.heap.size ≤ b ∧ b < w'.heap.size)) w' (r γ) v
def RetE {Γ : Type} (P : Program) (rs : List ResultVar) (r : Γ → CV) : Exit → St → Prop := fun e st => ∃ γ, Ret P rs (r γ) e st
theorem conE_of {Γ : Type} {P : Program} {gl : List (Nat × List CV)} {f : FuncId} {fn : Func} {c : Code} {args : List CV} {r : Γ → CV} (hf : P.funcs[f]? = some fn) (hb : fn.body = some c) (hcall : callableB P f = true) (hn : Nat.ble args.length fn.ntmps = true)
    (h : Awp P c (RetE P fn.results.toList r) { n := fn.ntmps, env := argEnv 0 args, heap := [], nx := 0, gl := gl }) : ConE P gl f args r := by
  refine ⟨hcall, fun w F vals hF hgl hl hv => ?_⟩
  have hle := Nat.le_of_ble_eq_true hn
  refine calls_of_wp hf hb ?_
  have hsim : Sim w.heap.size ⟨w, F⟩ { n := fn.ntmps, env := argEnv 0 args, heap := [], nx := 0, gl := gl } { m := fun _ => .row undef, H := fun _ => none, nx := 0, F := F, w := w, fp := fun _ _ => False } { tmps := vals ++ Array.replicate (fn.ntmps - vals.size) undef, defers := [] } := by
    refine ⟨rfl, rfl, by simp; omega, fun i y hy => ?_, hgl, ⟨?_, ?_, fun b b' g _ h => absurd rfl h, fun b h => absurd rfl h, ?_, hF, ?_⟩, Below.refl _ _, Nat.le_refl _, rfl, fun b h _ => h⟩
    rotate_left
    · intro b t l h; cases h
    · intro b E s l h; cases h
    · intro b _ g h; cases h
    · intro b p h; cases h
    obtain ⟨x, _, h1, rfl⟩ := argEnv_get args 0 i y hy
    rw [Nat.sub_zero] at h1
    have hi : i < vals.size := by have := (List.getElem?_eq_some_iff.1 h1).1; omega
    refine ⟨vals[i], by simp [Array.getElem?_append, hi], RA.ofC (M := { m := fun _ => .row undef, H := fun _ => none, nx := 0, F := F, w := w, fp := fun _ _ => False }) (hv i x _ h1 (by simp [hi]))⟩
  refine Code.wp_mono ?_ (h _ _ _ _ hsim)
  intro e a' w' ⟨M', st', h1, h2, h3, γ, h4⟩
  subst h1
  have hres := results_run (fn := fn) h2 (F' := fun b => F b ∨ (w.heap.size ≤ b ∧ b < M'.w.heap.size)) (fun b hb' => by
    rcases Nat.lt_or_ge b w.heap.size with hc | hc
    · exact Or.inl (h2.old b hb' hc)
    · exact Or.inr ⟨hc, h2.heap.frz b hb'⟩) (fun b h1 h2 => Or.inr ⟨h1, h2⟩) h4
  obtain ⟨v, hrun, hrc⟩ := hres
  have hpost : bodyPost P fn (fun e w' => ∃ γ v, e = .returned v ∧ Below w.heap.size w w' ∧ RC (fun b => F b ∨ (w.heap.size ≤ b ∧ b < w'.heap.size)) w' (r γ) v) e a' M'.w := by
    rcases h4.1 with rfl | rfl
    · exact ⟨h2.defs, v, hrun, γ, v, rfl, h2.below, hrc⟩
    · exact ⟨h2.defs, v, hrun, γ, v, rfl, h2.below, hrc⟩
  exact hpost
theorem r_callE {Γ : Type} {P : Program} {ops : Array Oper} {Q : Exit → St → Prop} {rest : List Oper} {d : Nat} {ty : TypeId} {pos : String} {af : Array Edge} {n : Nat} {env : List (Nat × AV)} {heap : List (Nat × Option AB)} {nx : Nat} {gl : List (Nat × List CV)} {f : FuncId} {args : List Operand} {tys : Array TypeId} {ys : List AV} {zs : List CV} {r : Γ → CV} (hcon : ConE P gl f zs r) (hys : evs ⟨n, env, heap, nx, gl⟩ args = some ys) (hz0 : clF.clFL ys = some zs) (hd : Nat.blt d n = true)
    (h : ∀ γ, AOps P ops Q rest ⟨n, (d, ofC (r γ)) :: env, heap, nx, gl⟩) : AOps P ops Q (⟨some d, .call ⟨.value (.func f), args.toArray, tys⟩, ty, pos, af, none⟩ :: rest) ⟨n, env, heap, nx, gl⟩ := by
  have hz : cl.clL (fun _ => none) ys zs := clF_clL hz0
  intro base w0 M a hs
  obtain ⟨e1, e2⟩ := evs_get hys
  obtain ⟨e3, e4⟩ := clL_get hz
  refine wl_enter rfl (run_call hcon.1 a M.w) (R := fun v w'' => ∃ γ, Below M.w.heap.size M.w w'' ∧ RC (M.after w'').F w'' (r γ) v) (Calls.mono (hcon.2 M.w M.F _ hs.heap.frz (fun g xs hg => ?_) (by simp; omega) (fun i x u hx hu => ?_)) (fun e w'' ⟨γ, v, he, hb, hrc⟩ => ⟨v, he, γ, hb, hrc⟩)) (fun v w'' hR => ?_)
  · have := hs.gl g xs hg
    generalize hq : Value.pointer (some ⟨g, 0, none⟩) = q at this ⊢
    cases this with
    | eptr cs hF hcell hr => exact .eptr cs hF hcell hr
  · have hi : i < args.length := by have := (List.getElem?_eq_some_iff.1 hx).1; omega
    obtain ⟨y, hy⟩ : ∃ y, ys[i]? = some y := ⟨_, List.getElem?_eq_getElem (by omega)⟩
    have hev := hs.ev (e2 i args[i] y (by simp [hi]) hy)
    have hu' : a.eval args[i] = u := by simpa [hi] using hu
    rw [hu'] at hev
    exact cl_rc hs.heap (F' := M.F) (fun _ h => h) (fun b E s l h => by cases h) hev (e4 i y x hy hx)
  · obtain ⟨γ, hb, hrc⟩ := hR
    have := h γ base w0 (M.after w'') _ ((hs.after hb).put hd (RA.ofC (M := M.after w'') hrc))
    exact wpList_monoQ (fun e a w => Lift.ext (Ext.after hb hs.heap.frz)) _ _ _ this
end Go.Proofs.Ytdndfncpglfdeaa.Ev
/- Rules of a walk: a row of truth values of the call's own at a known block, while a list of the call's own holds its slice. Nothing here names a program. -/
namespace Go.Proofs.Ytdndfncpglfdeaa.Ev
set_option linter.unusedVariables false
set_option linter.unusedSimpArgs false
open Go.RowKit
def bitC (b : Bool) : List CV := [.v (.bool b)]
instance : EncL bitC 1 := ⟨fun _ => rfl, by decide, fun _ => rfl⟩
theorem bit_map (l : List Bool) : l.flatMap bitC = l.map (fun b => .v (.bool b)) := by
  induction l with
  | nil => rfl
  | cons x l ih => rw [List.flatMap_cons, ih]; rfl
abbrev slK (g n cap : Nat) : CV := .v (.slice (some ⟨g, 0, none⟩) n cap)
inductive Rw where
  | nil
  | row (r : List Bool)
  | sl (g n cap : Nat)
def rwV : Rw → CV
  | .nil => .v (.slice none 0 0)
  | .row r => .lst 1 (r.flatMap bitC)
  | .sl g n cap => slK g n cap
def rwC (x : Rw) : List CV := [rwV x]
instance : EncL rwC 1 := ⟨fun _ => rfl, by decide, fun x => by cases x <;> rfl⟩
theorem rw_map (l : List Rw) : l.flatMap rwC = l.map rwV := by
  induction l with
  | nil => rfl
  | cons x l ih => rw [List.flatMap_cons, ih]; rfl
def bsP (E cap g0 : Nat) (l : List Bool) : ObjP where
  holds := fun _ w g fp => g = g0 ∧ (∀ k, fp k ↔ k = g) ∧ ∃ arr, w.heap[g]? = some (.cells arr E (0, 0)) ∧ l.length ≤ cap ∧ l.length ≤ arr.size ∧ ∀ (i : Nat) (x : Bool), l[i]? = some x → arr[i]? = some (.bool x)
  stable := fun _ _ w w' g fp ⟨h0, h1, arr, h2, h3⟩ _ hk => ⟨h0, h1, arr, (hk g ((h1 g).2 rfl)).trans h2, h3⟩
section
variable {P : Program} {ops : Array Oper} {Q : Exit → St → Prop} {X : List Oper → St → Prop} {rest : List Oper} {d : Nat} {ty : TypeId} {pos : String} {af : Array Edge} {n : Nat} {env : List (Nat × AV)} {heap : List (Nat × Option AB)} {nx : Nat} {gl : List (Nat × List CV)}
theorem ao_torow {l0 : List Oper} (i : Nat) {b E m : Nat} {l : List Bool} (hi : look i env = some (.vec b m)) (hH : St.H ⟨n, env, heap, nx, gl⟩ b = some (.vec E 1 (l.flatMap bitC))) (hl : l.length = m) (hm0 : 0 < m)
    (h : ∀ g cap, AOps P ops Q l0 ⟨n, (i, .c (slK g m cap)) :: env, (nx, some (.obj (bsP E cap g l))) :: (b, none) :: heap, nx + 1, gl⟩) : AOps P ops Q l0 ⟨n, env, heap, nx, gl⟩ := by
  intro base w0 M a hs
  have hM : M.H b = some (.vec E 1 (l.flatMap bitC)) := by rw [hs.H]; exact hH
  have hfl : (l.flatMap bitC).length = m * 1 := by rw [flat_len EncL.len, hl]
  obtain ⟨v, m', cs, e1, e2, e3, e4, e5, e6⟩ := hs.heap.vec b E 1 _ hM
  have hmm : m' = m := by omega
  subst hmm
  obtain ⟨u, g1, g2⟩ := hs.env i _ hi
  have huv : u = v := by
    cases g2 with
    | vec hb ho hh =>
      have := (hh E 1 _ hM).2 hfl
      rw [e1] at this; cases this; rfl
  subst huv
  rcases e4.2 with ⟨_, h0⟩ | ⟨g, cap, cur, rfl, f1, f2, f3, f4, f5, f6⟩
  · omega
  have hblk : (M.m b).block = some g := by rw [e1]; rfl
  have hcs : cs.length = m' * 1 := e4.1
  obtain ⟨M', m1, m2, m3, m4, m5⟩ := hs.adopt b (g := g) (p := bsP E cap g l) (fp := fun k => k = g) ⟨rfl, fun _ => Iff.rfl, cur, f2, by omega, by omega, fun j y hy => by
      have hj : j < l.length := (List.getElem?_eq_some_iff.1 hy).1
      have hcj : cs[j]? = some cs[j] := List.getElem?_eq_getElem (by omega)
      have hfj : (l.flatMap bitC)[j]? = some (.v (.bool y)) := by
        rw [bit_map, List.getElem?_map, hy]; rfl
      have hrc := e5 j _ cs[j] hfj hcj
      have hv : cs[j] = .bool y := by generalize cs[j] = q at hrc; cases hrc; rfl
      rw [hv] at hcj
      rw [← f6, List.getElem?_take] at hcj
      split at hcj
      · simpa using hcj
      · cases hcj⟩ rfl (fun k hk => by
      subst hk
      exact ⟨f1, (Array.getElem?_eq_some_iff.1 f2).1, e6 _ rfl⟩) (fun b' k hbb hk => by
      subst hk
      refine ⟨fun hb' hq => hs.heap.sep b' b _ hbb hb' (by rw [hM]; simp) hq hblk, fun p' hp' hf => ?_⟩
      obtain ⟨_, _, _, _, _, r5⟩ := hs.heap.obj b' p' hp'
      exact (r5 b _ (Ne.symm hbb) hf).1 (by rw [hM]; simp) hblk)
  have hs' : Sim base w0 ⟨n, (i, .c (slK g m' cap)) :: env, (nx, some (.obj (bsP E cap g l))) :: (b, none) :: heap, nx + 1, gl⟩ M' a := by
    refine ⟨m4.H, m4.nx, m4.n, fun j y hy => ?_, m4.gl, m4.heap, m4.below, m4.base, m4.defs, m4.old⟩
    rw [look_cons] at hy
    by_cases hj : i = j
    · subst hj
      rw [if_pos rfl] at hy
      simp only [Option.some.injEq] at hy; subst hy
      exact ⟨_, g1, .c (.v _)⟩
    · rw [if_neg hj] at hy
      exact m4.env j y hy
  rw [← m1]
  exact wpList_monoQ (fun e a w => Lift.ext m5) _ _ _ (h g cap base w0 M' a hs')
theorem r_index_k [W : Walk P X] {x y : Operand} {t E bytes g m cap : Nat} {kk : IntKind} {idx : Int} [I : SlT P t E 1 bytes] (k : Nat) (hx : St.ev ⟨n, env, heap, nx, gl⟩ x = some (.c (slK g m cap))) (hy : St.ev ⟨n, env, heap, nx, gl⟩ y = some (.c (.v (.int kk idx)))) (hk : idx = (k : Int)) (hlt : k < m) (hd : Nat.blt d n = true)
    (h : X rest ⟨n, (d, .c (.v (.pointer (some ⟨g, k, none⟩)))) :: env, heap, nx, gl⟩) : X (⟨some d, .indexAddr t x y, ty, pos, af, none⟩ :: rest) ⟨n, env, heap, nx, gl⟩ := by
  refine ao_val (st := ⟨n, env, heap, nx, gl⟩) rfl rfl hd (fun _ _ M a hs => ⟨.pointer (some ⟨g, k, none⟩), ?_, .c (.v _)⟩) h
  subst hk
  simp only [execOp, (hs.ev (by simp [Op.operands, Call.operands]) hx).bool, (hs.ev (by simp [Op.operands, Call.operands]) hy).bool]
  have := run_indexAt I M.w g 0 m cap k kk hlt
  rw [Nat.zero_add, Nat.mul_one] at this
  rw [Sem.run_bind, this]; rfl
theorem r_store_k {x z : Operand} {t E cap g k : Nat} {l : List Bool} {v : Bool} [I : TyC P t false 1] (hx : St.ev ⟨n, env, heap, nx, gl⟩ x = some (.c (.v (.pointer (some ⟨g, k, none⟩))))) (hz : St.ev ⟨n, env, heap, nx, gl⟩ z = some (.c (.v (.bool v)))) (b : Nat) (hH : St.H ⟨n, env, heap, nx, gl⟩ b = some (.obj (bsP E cap g l))) (hk : k < l.length)
    (h : AOps P ops Q rest ⟨n, env, (b, some (.obj (bsP E cap g (l.set k v)))) :: heap, nx, gl⟩) : AOps P ops Q (⟨none, .store t x z, ty, pos, af, none⟩ :: rest) ⟨n, env, heap, nx, gl⟩ := by
  refine ao_store_gen (st := ⟨n, env, heap, nx, gl⟩) (s2 := ⟨n, env, (b, some (.obj (bsP E cap g (l.set k v)))) :: heap, nx, gl⟩) (fun base w0 M a hs => ?_) h
  have hv := (hs.ev hx).bool
  have hu := (hs.ev hz).bool
  rw [hu, hv]
  have hbM : M.H b = some (.obj (bsP E cap g l)) := by rw [hs.H]; exact hH
  obtain ⟨g', o1, o2, ⟨rfl, o0, arr, o3, o4, o5, o6⟩, o7, _⟩ := hs.heap.obj b _ hbM
  have hrun := run_store_row I M.w g' k E arr (.bool v) o3 rfl (by omega) (by intro u hu; simp [Value.cells] at hu; subst hu; rfl)
  have harr : (arr.toList.take k ++ (Value.bool v).cells.toList ++ arr.toList.drop (k + 1)).toArray = arr.setIfInBounds k (.bool v) := by
    rw [← Array.toList_inj]
    simp only [Array.toList_setIfInBounds]
    rw [List.set_eq_take_append_cons_drop, if_pos (by simpa using (show k < arr.size by omega))]
    simp [Value.cells]
  rw [harr] at hrun
  obtain ⟨M', m1, _, m3, m4⟩ := hs.changeO (p' := bsP E cap g' (l.set k v)) (fp' := M.fp b) (w' := M.w.setRow g' (arr.setIfInBounds k (.bool v))) hbM o1
    ⟨rfl, rfl, rfl, by rw [setRow_size]; exact Nat.le_refl _, fun j _ hj => setRow_heap_ne _ _ _ _ (fun e => hj (by rw [e]; exact o2)), ⟨rfl, o0, _, setRow_heap _ _ _ _ _ _ o3, by rw [List.length_set]; exact o4, by rw [List.length_set]; simpa using o5, fun i y hy => by
      rw [List.getElem?_set] at hy
      rw [Array.getElem?_setIfInBounds]
      by_cases e : k = i
      · subst e
        rw [if_pos rfl, if_pos hk] at hy
        cases hy
        rw [if_pos rfl, if_pos (by omega)]
      · rw [if_neg e] at hy ⊢
        exact o6 i y hy⟩, o2, fun j hj => ⟨by rw [setRow_size]; exact (o7 j hj).2.1, .inl hj⟩⟩
  exact ⟨_, M', hrun, m1, m3, m4⟩
theorem aw_freezeRow {c : Code} (b bo k : Nat) {E cap g m Eo : Nat} {l : List Bool} {fl : List Rw} (hb : St.H ⟨n, env, heap, nx, gl⟩ b = some (.obj (bsP E cap g l))) (hl : l.length = m) (hO : St.H ⟨n, env, heap, nx, gl⟩ bo = some (.vec Eo 1 (fl.flatMap rwC))) (hne : Nat.beq b bo = false) (hk : fl[k]? = some (.sl g m cap))
    (h : Awp P c Q ⟨n, env, (bo, some (.vec Eo 1 ((fl.set k (.row l)).flatMap rwC))) :: (b, none) :: heap, nx, gl⟩) : Awp P c Q ⟨n, env, heap, nx, gl⟩ := by
  intro base w0 M a hs
  have hbM : M.H b = some (.obj (bsP E cap g l)) := by rw [hs.H]; exact hb
  obtain ⟨g', o1, o2, ⟨rfl, o0, arr, o3, o4, o5, o6⟩, o7, o8⟩ := hs.heap.obj b _ hbM
  -- the block is frozen
  obtain ⟨M1, h1, h2, h3⟩ : ∃ M1 : Wd, (M1.w = M.w ∧ M1.F = fun k => M.F k ∨ k = g') ∧ Sim base w0 ⟨n, env, (b, none) :: heap, nx, gl⟩ M1 a ∧ Ext M M1 := by
    let M' : Wd := { M with H := St.H ⟨n, env, (b, none) :: heap, nx, gl⟩, F := fun k => M.F k ∨ k = g' }
    have hH : ∀ k, M'.H k = if b = k then none else M.H k := fun k => by
      show St.H _ k = _
      unfold St.H
      simp only [look_cons]
      by_cases h : b = k
      · rw [if_pos h, if_pos h]
      · rw [if_neg h, if_neg h, hs.H]; rfl
    have hold : ∀ k x, M'.H k = some x → M.H k = some x ∧ k ≠ b := fun k x hx => by
      rw [hH] at hx
      by_cases h : b = k
      · rw [if_pos h] at hx; cases hx
      · rw [if_neg h] at hx; exact ⟨hx, Ne.symm h⟩
    have hne : ∀ k, M'.H k ≠ none → M.H k ≠ none ∧ k ≠ b := fun k hk => by
      obtain ⟨x, hx⟩ := Option.ne_none_iff_exists'.1 hk
      obtain ⟨e1, e2⟩ := hold k x hx
      exact ⟨by rw [e1]; simp, e2⟩
    have hext : Ext M M' := ⟨fun _ _ h => h, fun k E size' l' _ hl => ⟨l', (hold k _ hl).1, Nat.le_refl _, fun _ => rfl⟩, Nat.le_refl _, fun k hk => ⟨.inl hk, rfl⟩⟩
    have hg := o7 g' o2
    refine ⟨M', ⟨rfl, rfl⟩, ⟨rfl, hs.nx, hs.n, fun i y hy => ?_, fun g xs hg => (hs.gl g xs hg).mono hext, ⟨?_, ?_, ?_, ?_, hs.heap.fresh, ?_, ?_⟩, hs.below, hs.base, hs.defs, ?_⟩, hext⟩
    · obtain ⟨u, h1, h2⟩ := hs.env i y hy
      exact ⟨u, h1, h2.mono hext⟩
    · intro k t l hl
      obtain ⟨h1, hkb⟩ := hold k _ hl
      obtain ⟨g, arr, g1, g2, g3, g4, g5, g6⟩ := hs.heap.cells k t l h1
      refine ⟨g, arr, g1, g2, fun hf => ?_, g4, g5, fun i x u hx hu => (g6 i x u hx hu).mono hext⟩
      rcases hf with hf | rfl
      · exact g3 hf
      · exact (o8 k _ hkb o2).1 (by rw [h1]; simp) (by rw [g1]; rfl)
    · intro k E size l hl
      obtain ⟨h1, hkb⟩ := hold k _ hl
      obtain ⟨v, m, cs, g1, g2, g3, g4, g5, g6⟩ := hs.heap.vec k E size l h1
      refine ⟨v, m, cs, g1, g2, g3, g4, fun i x u hx hu => (g5 i x u hx hu).mono hext.F, fun q hq hf => ?_⟩
      rcases hf with hf | rfl
      · exact g6 q hq hf
      · exact (o8 k _ hkb o2).1 (by rw [h1]; simp) (by rw [g1]; exact hq)
    · intro k k' g hkk hk hk'
      exact hs.heap.sep k k' g hkk (hne k hk).1 (hne k' hk').1
    · exact fun k hk => hs.heap.lt k (hne k hk).1
    · intro k hk
      rcases hk with hk | rfl
      · exact hs.heap.frz k hk
      · exact hg.2.1
    · intro k p hp
      obtain ⟨h1, hkb⟩ := hold k _ hp
      obtain ⟨g, e1, e2, e3, e4, e5⟩ := hs.heap.obj k p h1
      refine ⟨g, e1, e2, p.stable _ _ _ _ _ _ e3 hext.F (fun _ _ => rfl), fun c hc => ⟨(e4 c hc).1, (e4 c hc).2.1, fun hf => ?_⟩, fun b' c hbb hc => ⟨fun hb' => (e5 b' c hbb hc).1 (hne b' hb').1, fun p' hp' => (e5 b' c hbb hc).2 p' (hold b' _ hp').1⟩⟩
      rcases hf with hf | rfl
      · exact (e4 c hc).2.2 hf
      · exact (o8 k _ hkb o2).2 p h1 hc
    · intro k hk hlt
      rcases hk with hk | rfl
      · exact hs.old k hk hlt
      · have := hg.1; omega
  have hO' : St.H ⟨n, env, (b, none) :: heap, nx, gl⟩ bo = some (.vec Eo 1 (fl.flatMap rwC)) := by
    unfold St.H at hO ⊢
    dsimp only at hO ⊢
    rw [look_cons, if_neg (beq_false hne)]; exact hO
  rw [rw_map] at hO' h
  have hrl : RC M1.F M1.w (.lst 1 (l.flatMap bitC)) (.slice (some ⟨g', 0, none⟩) m cap) := by
    by_cases hm0 : l = []
    · subst hm0
      have : m = 0 := hl.symm
      subst this
      exact .nil
    refine .lst (fun i => (arr[i]?).getD undef) (by rw [flat_len EncL.len, hl]) (by omega) (by rw [h1.2]; exact .inr rfl) (fun i x hx => ?_) (fun i x hx => ?_)
    · have hi : i < l.length := by have := (List.getElem?_eq_some_iff.1 hx).1; rw [flat_len EncL.len] at this; omega
      have h6 := o6 i l[i] (List.getElem?_eq_getElem hi)
      rw [h1.1, Nat.zero_add]
      simp [World.cell?, o3, h6]
    · have hi : i < l.length := by have := (List.getElem?_eq_some_iff.1 hx).1; rw [flat_len EncL.len] at this; omega
      have h6 := o6 i l[i] (List.getElem?_eq_getElem hi)
      have hfj : x = .v (.bool l[i]) := by
        rw [bit_map, List.getElem?_map, List.getElem?_eq_getElem hi] at hx
        exact (Option.some.inj hx).symm
      rw [h6, hfj]
      exact .v _
  obtain ⟨M2, k1, k2, k3⟩ := h2.relist (l' := (fl.set k (.row l)).map rwV) hO' (by rw [List.length_map, List.length_map, List.length_set]) (fun i x' x u hx' hx hu => by
    rw [List.getElem?_map, List.getElem?_set] at hx'
    rw [List.getElem?_map] at hx
    by_cases e : k = i
    · subst e
      rw [hk] at hx
      have hx : rwV (.sl g' m cap) = x := Option.some.inj hx
      rw [if_pos rfl, if_pos (List.getElem?_eq_some_iff.1 hk).1] at hx'
      have hx' : rwV (.row l) = x' := Option.some.inj hx'
      subst hx'
      subst hx
      have hu : RC M1.F M1.w (slK g' m cap) u := hu
      cases hu
      exact hrl
    · rw [if_neg e] at hx'
      rw [hx] at hx'
      cases hx'; exact hu)
  rw [← h1.1, ← k1]
  exact wp_mono (h base w0 M2 a k2) fun e a w => Lift.ext (h3.trans k3)
end
end Go.Proofs.Ytdndfncpglfdeaa.Ev
