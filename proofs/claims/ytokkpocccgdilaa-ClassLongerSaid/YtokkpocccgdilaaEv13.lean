/- Rules of a walk over abstract states: calls that are walked through, the nil slice as a list of the call's own. Nothing here names a program. -/
import Derived.Test.YtokkpocccgdilaaEv12
namespace Go.Proofs.Ytokkpocccgdilaa.Ev
set_option linter.unusedVariables false
set_option linter.unusedSimpArgs false
open Go.RowKit

def argEnvA : Nat → List AV → List (Nat × AV)
  | _, [] => []
  | k, x :: l => (k, x) :: argEnvA (k + 1) l
theorem argEnvA_get : ∀ (l : List AV) (k i : Nat) (y : AV), look i (argEnvA k l) = some y → k ≤ i ∧ l[i - k]? = some y
  | [], k, i, y, h => by simp [argEnvA, look] at h
  | x :: l, k, i, y, h => by
    rw [argEnvA, look_cons] at h
    split at h
    · rename_i hk; subst hk; simp only [Option.some.injEq] at h; exact ⟨Nat.le_refl _, by simp [h]⟩
    · obtain ⟨h1, h2⟩ := argEnvA_get l (k + 1) i y h
      refine ⟨by omega, ?_⟩
      rw [show i - k = (i - (k + 1)) + 1 by omega]
      simpa using h2

section
variable {P : Program} {ops : Array Oper} {Q : Exit → St → Prop} {rest : List Oper} {st : St} {d : Nat} {ty : TypeId} {pos : String} {af : Array Edge}

/-- What a callee that is walked through leaves to its caller. -/
def Back (t : Nat) (gl : List (Nat × List CV)) (K : AV → List (Nat × Option AB) → Nat → Prop) : Exit → St → Prop
  | e, s => (e = .normal ∨ e = .ret) ∧ s.gl = gl ∧ ∃ y, look t s.env = some y ∧ K y s.heap s.nx
theorem back_ret {t : Nat} {n : Nat} {env : List (Nat × AV)} {heap : List (Nat × Option AB)} {nx : Nat} {gl : List (Nat × List CV)} {y : AV} {K : AV → List (Nat × Option AB) → Nat → Prop} (h : look t env = some y) (hK : K y heap nx) : Back t gl K .ret ⟨n, env, heap, nx, gl⟩ := ⟨Or.inr rfl, rfl, y, h, hK⟩

/-- A call that is walked through; one result, in a slot. -/
theorem ao_in {f : FuncId} {fn : Func} {c : Code} {t : Nat} {args : List Operand} {tys : Array TypeId} {ys : List AV} (hf : P.funcs[f]? = some fn) (hb : fn.body = some c) (hr : fn.results = #[.tmp t]) (hcall : callableB P f = true) (hys : evs st args = some ys) (hn : Nat.ble ys.length fn.ntmps = true) (hd : Nat.blt d st.n = true)
    (h : Awp P c (Back t st.gl (fun y heap nx => AOps P ops Q rest ⟨st.n, (d, y) :: st.env, heap, nx, st.gl⟩)) ⟨fn.ntmps, argEnvA 0 ys, st.heap, st.nx, st.gl⟩) : AOps P ops Q (⟨some d, .call ⟨.value (.func f), args.toArray, tys⟩, ty, pos, af, none⟩ :: rest) st := by
  intro base w0 M a hs
  obtain ⟨e1, e2⟩ := evs_get hys
  have hn := Nat.le_of_ble_eq_true hn
  have hsim : Sim base w0 ⟨fn.ntmps, argEnvA 0 ys, st.heap, st.nx, st.gl⟩ M { tmps := (args.map a.eval).toArray ++ Array.replicate (fn.ntmps - (args.map a.eval).toArray.size) undef, defers := [] } := by
    refine ⟨hs.H, hs.nx, by simp; omega, fun i y hy => ?_, hs.gl, hs.heap, hs.below, hs.base, rfl, hs.old⟩
    obtain ⟨_, h1⟩ := argEnvA_get ys 0 i y hy
    rw [Nat.sub_zero] at h1
    have hi : i < args.length := by have := (List.getElem?_eq_some_iff.1 h1).1; omega
    exact ⟨a.eval args[i], by simp [Array.getElem?_append, hi], hs.ev (e2 i args[i] y (by simp [hi]) h1)⟩
  refine wl_enter rfl (run_call hcall a M.w) (R := fun v w'' => wpList P ops (Lift base w0 M Q) rest (a.put (some d) v) w'') (calls_of_wp hf hb ?_) (fun v w'' hR => hR)
  refine Code.wp_mono ?_ (h base w0 M _ hsim)
  intro e a' w' ⟨M', s', h1, h2, h3, h4, h5, y, h6, h7⟩
  subst h1
  obtain ⟨v, g1, g2⟩ := h2.env t y h6
  have hres : (results fn a'.tmps).run P M'.w = .ok v M'.w := by
    unfold results
    rw [hr]
    simp [Array.getD_eq_getD_getElem?, g1]
  have hd' := blt_true hd
  have hcaller : Sim base w0 ⟨st.n, (d, y) :: st.env, s'.heap, s'.nx, st.gl⟩ M' (a.put (some d) v) := by
    refine ⟨h2.H, h2.nx, by show (a.tmps.setIfInBounds d v).size = _; rw [Array.size_setIfInBounds]; exact hs.n, fun i z hz => ?_, fun g xs hg => h2.gl g xs (by rw [h5]; exact hg), h2.heap, h2.below, h2.base, by simpa [Act.put] using hs.defs, h2.old⟩
    rw [look_cons] at hz
    by_cases hi : d = i
    · subst hi
      rw [if_pos rfl] at hz
      simp only [Option.some.injEq] at hz; subst hz
      exact ⟨v, by simp [Act.put, hs.n, hd'], g2⟩
    · rw [if_neg hi] at hz
      obtain ⟨u, q1, q2⟩ := hs.env i z hz
      exact ⟨u, by simp [Act.put, Array.getElem?_setIfInBounds_ne hi, q1], q2.mono h3⟩
  have hgoal : wpList P ops (Lift base w0 M Q) rest (a.put (some d) v) M'.w := wpList_monoQ (fun e a w => Lift.ext h3) _ _ _ (h7 base w0 M' _ hcaller)
  have : bodyPost P fn (fun e w'' => ∃ v, e = .returned v ∧ wpList P ops (Lift base w0 M Q) rest (a.put (some d) v) w'') e a' M'.w := by
    rcases h4 with rfl | rfl
    · exact ⟨h2.defs, v, hres, v, rfl, hgoal⟩
    · exact ⟨h2.defs, v, hres, v, rfl, hgoal⟩
  exact this

theorem ra_lt {M : Wd} (hf : ∀ b, M.nx ≤ b → ∀ g, M.m b ≠ .blk g) {x : AV} {u : Value} (h : RA M x u) : AV.lt M.nx x = true := by
  have hall : ∀ (xs : List AV) (vs : Array Value), xs.length = vs.size → (∀ (i : Nat) (x : AV) (u : Value), xs[i]? = some x → vs[i]? = some u → AV.lt M.nx x = true) → AV.lt.ltL M.nx xs = true := by
    intro xs vs hl hh
    have key : ∀ (ys : List AV), (∀ y ∈ ys, AV.lt M.nx y = true) → AV.lt.ltL M.nx ys = true := by
      intro ys
      induction ys with
      | nil => intro _; rfl
      | cons y ys ih => intro h; simp only [AV.lt.ltL, Bool.and_eq_true]; exact ⟨h y (by simp), ih (fun z hz => h z (by simp [hz]))⟩
    refine key xs (fun y hy => ?_)
    obtain ⟨i, hi, rfl⟩ := List.mem_iff_getElem.1 hy
    exact hh i xs[i] (vs[i]'(by omega)) (by simp [hi]) (by simp)
  induction h with
  | c _ => rfl
  | agg hl _ ih => exact hall _ _ hl ih
  | tup hl _ ih => exact hall _ _ hl ih
  | fn hl _ ih => exact hall _ _ hl ih
  | ptr hb =>
    rename_i b off g
    have : b < M.nx := Nat.lt_of_not_le fun hc => hf b hc g hb
    exact Nat.ble_eq_true_of_le this
  | vec hb _ _ => exact Nat.ble_eq_true_of_le hb
  | vptr hb _ _ => exact Nat.ble_eq_true_of_le hb
  | eptr _ _ _ _ => rfl

/-- The heap h' is h2 without the blocks from nx on; h is the heap ahead, of which no variable has changed. -/
structure Fewer (h : List (Nat × Option AB)) (nx : Nat) (h2 h' : List (Nat × Option AB)) : Prop where
  same : ∀ i, i < nx → look i h' = look i h2
  none : ∀ i, nx ≤ i → look i h' = look i h
  cells : ∀ i t l, look i h' = some (some (.cells t l)) → look i h = some (some (.cells t l))

/-- A call that is walked through; what it made and does not hand back is forgotten. -/
theorem ao_inW {f : FuncId} {fn : Func} {c : Code} {t : Nat} {args : List Operand} {tys : Array TypeId} {ys : List AV} (hf : P.funcs[f]? = some fn) (hb : fn.body = some c) (hr : fn.results = #[.tmp t]) (hcall : callableB P f = true) (hys : evs st args = some ys) (hn : Nat.ble ys.length fn.ntmps = true) (hd : Nat.blt d st.n = true)
    (h : Awp P c (Back t st.gl (fun y heap nx => ∃ heap', st.nx ≤ nx ∧ Fewer st.heap st.nx heap heap' ∧ AV.lt st.nx y = true ∧ AOps P ops Q rest ⟨st.n, (d, y) :: st.env, heap', st.nx, st.gl⟩)) ⟨fn.ntmps, argEnvA 0 ys, st.heap, st.nx, st.gl⟩) : AOps P ops Q (⟨some d, .call ⟨.value (.func f), args.toArray, tys⟩, ty, pos, af, none⟩ :: rest) st := by
  intro base w0 M a hs
  obtain ⟨e1, e2⟩ := evs_get hys
  have hn := Nat.le_of_ble_eq_true hn
  have hsim : Sim base w0 ⟨fn.ntmps, argEnvA 0 ys, st.heap, st.nx, st.gl⟩ M { tmps := (args.map a.eval).toArray ++ Array.replicate (fn.ntmps - (args.map a.eval).toArray.size) undef, defers := [] } := by
    refine ⟨hs.H, hs.nx, by simp; omega, fun i y hy => ?_, hs.gl, hs.heap, hs.below, hs.base, rfl, hs.old⟩
    obtain ⟨_, h1⟩ := argEnvA_get ys 0 i y hy
    rw [Nat.sub_zero] at h1
    have hi : i < args.length := by have := (List.getElem?_eq_some_iff.1 h1).1; omega
    exact ⟨a.eval args[i], by simp [Array.getElem?_append, hi], hs.ev (e2 i args[i] y (by simp [hi]) h1)⟩
  refine wl_enter rfl (run_call hcall a M.w) (R := fun v w'' => wpList P ops (Lift base w0 M Q) rest (a.put (some d) v) w'') (calls_of_wp hf hb ?_) (fun v w'' hR => hR)
  refine Code.wp_mono ?_ (h base w0 M _ hsim)
  intro e a' w' ⟨M', s', h1, h2, h3, h4, h5, y, h6, heap', h7, h8, h9, h10⟩
  subst h1
  obtain ⟨v, g1, g2⟩ := h2.env t y h6
  have hres : (results fn a'.tmps).run P M'.w = .ok v M'.w := by
    unfold results
    rw [hr]
    simp [Array.getD_eq_getD_getElem?, g1]
  have hd' := blt_true hd
  have hw : Weak ⟨st.n, [], s'.heap, s'.nx, st.gl⟩ ⟨st.n, [], heap', st.nx, st.gl⟩ := by
    refine ⟨rfl, rfl, h7, fun i x hx => by simp [look] at hx, fun b x hx => ?_⟩
    have hx := St.H_some hx
    have hlt : b < st.nx := by
      rcases Nat.lt_or_ge b st.nx with hc | hc
      · exact hc
      · have h0 : st.H b ≠ none := by
          unfold St.H
          rw [show look b st.heap = some (some x) from (h8.none b hc) ▸ hx]; simp
        have := hs.heap.lt b (by rw [hs.H]; exact h0)
        rw [hs.nx] at this; exact this
    refine ⟨?_, hlt, ?_⟩
    · unfold St.H
      rw [show look b s'.heap = some (some x) from (h8.same b hlt) ▸ hx]
    · cases x with
      | vec _ _ _ => rfl
      | cells t l =>
        have h0 : st.H b = some (.cells t l) := by unfold St.H; rw [h8.cells b t l hx]
        obtain ⟨g, arr, _, _, _, _, e5, e6⟩ := hs.heap.cells b t l (by rw [hs.H]; exact h0)
        show AV.lt.ltL st.nx l = true
        have key : ∀ (ys : List AV), (∀ y ∈ ys, AV.lt st.nx y = true) → AV.lt.ltL st.nx ys = true := by
          intro ys
          induction ys with
          | nil => intro _; rfl
          | cons y ys ih => intro h; simp only [AV.lt.ltL, Bool.and_eq_true]; exact ⟨h y (by simp), ih (fun z hz => h z (by simp [hz]))⟩
        refine key l (fun y hy => ?_)
        obtain ⟨i, hi, rfl⟩ := List.mem_iff_getElem.1 hy
        rw [← hs.nx]
        exact ra_lt hs.heap.fresh (e6 i l[i] (arr[i]'(by omega)) (by simp [hi]) (by simp))
  have hs0 : Sim base w0 ⟨st.n, [], s'.heap, s'.nx, st.gl⟩ M' (a.put (some d) v) :=
    ⟨h2.H, h2.nx, by show (a.tmps.setIfInBounds d v).size = _; rw [Array.size_setIfInBounds]; exact hs.n, fun i x hx => by simp [look] at hx, fun g xs hg => h2.gl g xs (by rw [h5]; exact hg), h2.heap, h2.below, h2.base, by simpa [Act.put] using hs.defs, h2.old⟩
  have hs1 := hs0.weak hw
  have hnx : M.nx = st.nx := hs.nx
  have hext : Ext M (M'.cut ⟨st.n, [], heap', st.nx, st.gl⟩) := h3.cut hs.heap.fresh (s := ⟨st.n, [], s'.heap, s'.nx, st.gl⟩) h2.H hw (by rw [hnx]; exact Nat.le_refl _)
  have hcaller : Sim base w0 ⟨st.n, (d, y) :: st.env, heap', st.nx, st.gl⟩ (M'.cut ⟨st.n, [], heap', st.nx, st.gl⟩) (a.put (some d) v) := by
    refine ⟨hs1.H, hs1.nx, hs1.n, fun i z hz => ?_, hs1.gl, hs1.heap, hs1.below, hs1.base, hs1.defs, hs1.old⟩
    rw [look_cons] at hz
    by_cases hi : d = i
    · subst hi
      rw [if_pos rfl] at hz
      simp only [Option.some.injEq] at hz; subst hz
      exact ⟨v, by simp [Act.put, hs.n, hd'], g2.cut (s := ⟨st.n, [], s'.heap, s'.nx, st.gl⟩) h2.H hw h9⟩
    · rw [if_neg hi] at hz
      obtain ⟨u, q1, q2⟩ := hs.env i z hz
      exact ⟨u, by simp [Act.put, Array.getElem?_setIfInBounds_ne hi, q1], q2.mono hext⟩
  have hgoal : wpList P ops (Lift base w0 M Q) rest (a.put (some d) v) M'.w := wpList_monoQ (fun e a w => Lift.ext hext) _ _ _ (h10 base w0 _ _ hcaller)
  have : bodyPost P fn (fun e w'' => ∃ v, e = .returned v ∧ wpList P ops (Lift base w0 M Q) rest (a.put (some d) v) w'') e a' M'.w := by
    rcases h4 with rfl | rfl
    · exact ⟨h2.defs, v, hres, v, rfl, hgoal⟩
    · exact ⟨h2.defs, v, hres, v, rfl, hgoal⟩
  exact this

/-- The nil slice in a slot as an empty list of the call's own. -/
theorem aw_nilvec {c : Code} {n : Nat} {env : List (Nat × AV)} {heap : List (Nat × Option AB)} {nx : Nat} {gl : List (Nat × List CV)} (i E size : Nat) (hi : look i env = some (.c (.v (.slice none 0 0)))) (hpos : Nat.blt 0 size = true) (h : Awp P c Q ⟨n, (i, .vec nx 0) :: env, (nx, some (.vec E size [])) :: heap, nx + 1, gl⟩) : Awp P c Q ⟨n, env, heap, nx, gl⟩ := by
  intro base w0 M a hs
  obtain ⟨M', m1, m2, m3, m4⟩ := hs.newNil E size (blt_true hpos)
  obtain ⟨v, g1, g2⟩ := hs.env i _ hi
  have hv := g2.bool
  subst hv
  have hs' : Sim base w0 ⟨n, (i, .vec nx 0) :: env, (nx, some (.vec E size [])) :: heap, nx + 1, gl⟩ M' a := by
    refine ⟨m3.H, m3.nx, m3.n, fun j y hy => ?_, m3.gl, m3.heap, m3.below, m3.base, m3.defs, m3.old⟩
    rw [look_cons] at hy
    split at hy
    · rename_i hj; subst hj; simp only [Option.some.injEq] at hy; subst hy
      refine ⟨_, g1, .vec (by rw [m3.nx]; exact Nat.lt_succ_self _) rfl (fun E' s' l' hl => ?_)⟩
      have hl' : some (AB.vec E size []) = some (.vec E' s' l') := by
        have : (St.new ⟨n, env, heap, nx, gl⟩ (.vec E size [])).H nx = some (.vec E' s' l') := by rw [← m3.H]; exact hl
        rwa [H_new, if_pos rfl] at this
      simp only [Option.some.injEq, AB.vec.injEq] at hl'
      obtain ⟨rfl, rfl, rfl⟩ := hl'
      exact ⟨by simp, fun _ => by rw [← show M.nx = nx from hs.nx]; exact m2⟩
    · exact m3.env j y hy
  rw [← m1]
  exact wp_mono (h base w0 M' a hs') fun e a w => Lift.ext m4
end
end Go.Proofs.Ytokkpocccgdilaa.Ev
