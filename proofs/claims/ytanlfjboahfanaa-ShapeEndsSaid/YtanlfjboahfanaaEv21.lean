/- Rules of a walk: calls without a result that are walked through. Nothing here names a program. -/
import Derived.Test.YtanlfjboahfanaaEv18
namespace Go.Proofs.Ytanlfjboahfanaa.Ev
set_option linter.unusedVariables false
set_option linter.unusedSimpArgs false
open Go.RowKit
section
variable {P : Program} {ops : Array Oper} {Q : Exit → St → Prop} {rest : List Oper} {d : Nat} {ty : TypeId} {pos : String} {af : Array Edge} {n : Nat} {env : List (Nat × AV)} {heap : List (Nat × Option AB)} {nx : Nat} {gl : List (Nat × List CV)}

def Back0 (gl : List (Nat × List CV)) (K : List (Nat × Option AB) → Nat → Prop) : Exit → St → Prop
  | e, s => (e = .normal ∨ e = .ret) ∧ s.gl = gl ∧ K s.heap s.nx
theorem back0_ret {K : List (Nat × Option AB) → Nat → Prop} (hK : K heap nx) : Back0 gl K .ret ⟨n, env, heap, nx, gl⟩ := ⟨Or.inr rfl, rfl, hK⟩
theorem back0_normal {K : List (Nat × Option AB) → Nat → Prop} (hK : K heap nx) : Back0 gl K .normal ⟨n, env, heap, nx, gl⟩ := ⟨Or.inl rfl, rfl, hK⟩
theorem r_in0 {f : FuncId} {fn : Func} {c : Code} {nt : Nat} {args : List Operand} {tys : Array TypeId} {ys : List AV} {env' : List (Nat × AV)} (hf : P.funcs[f]? = some fn) (hb : fn.body = some c) (hr : fn.results = #[]) (hcall : callableB P f = true) (hnt : fn.ntmps = nt) (hys : evs ⟨n, env, heap, nx, gl⟩ args = some ys) (hn : Nat.ble ys.length nt = true) (he : argEnvA 0 ys = env') (hd : Nat.blt d n = true)
    (h : Awp P c (Back0 gl (fun heap nx => AOps P ops Q rest ⟨n, (d, .tup []) :: env, heap, nx, gl⟩)) ⟨nt, env', heap, nx, gl⟩) : AOps P ops Q (⟨some d, .call ⟨.value (.func f), args.toArray, tys⟩, ty, pos, af, none⟩ :: rest) ⟨n, env, heap, nx, gl⟩ := by
  subst hnt; subst he
  intro base w0 M a hs
  obtain ⟨e1, e2⟩ := evs_get hys
  have hn := Nat.le_of_ble_eq_true hn
  have hsim : Sim base w0 ⟨fn.ntmps, argEnvA 0 ys, heap, nx, gl⟩ M { tmps := (args.map a.eval).toArray ++ Array.replicate (fn.ntmps - (args.map a.eval).toArray.size) undef, defers := [] } := by
    refine ⟨hs.H, hs.nx, by simp; omega, fun i y hy => ?_, hs.gl, hs.heap, hs.below, hs.base, rfl, hs.old⟩
    obtain ⟨_, h1⟩ := argEnvA_get ys 0 i y hy
    rw [Nat.sub_zero] at h1
    have hi : i < args.length := by have := (List.getElem?_eq_some_iff.1 h1).1; omega
    exact ⟨a.eval args[i], by simp [Array.getElem?_append, hi], hs.ev (e2 i args[i] y (by simp [hi]) h1)⟩
  refine wl_enter rfl (run_call hcall a M.w) (R := fun v w'' => wpList P ops (Lift base w0 M Q) rest (a.put (some d) v) w'') (calls_of_wp hf hb ?_) (fun v w'' hR => hR)
  refine Code.wp_mono ?_ (h base w0 M _ hsim)
  intro e a' w' ⟨M', s', h1, h2, h3, h4, h5, h7⟩
  subst h1
  have hres : (results fn a'.tmps).run P M'.w = .ok (.tuple #[]) M'.w := by
    unfold results
    rw [hr]
    simp
  have g2 : RA M' (.tup []) (.tuple #[]) := .tup rfl (fun i x u h => by simp at h)
  have hd' := blt_true hd
  have hcaller : Sim base w0 ⟨n, (d, .tup []) :: env, s'.heap, s'.nx, gl⟩ M' (a.put (some d) (.tuple #[])) := by
    refine ⟨h2.H, h2.nx, by show (a.tmps.setIfInBounds d _).size = _; rw [Array.size_setIfInBounds]; exact hs.n, fun i z hz => ?_, fun g xs hg => h2.gl g xs (by rw [h5]; exact hg), h2.heap, h2.below, h2.base, by simpa [Act.put] using hs.defs, h2.old⟩
    rw [look_cons] at hz
    by_cases hi : d = i
    · subst hi
      rw [if_pos rfl] at hz
      simp only [Option.some.injEq] at hz; subst hz
      exact ⟨.tuple #[], by simp [Act.put, hs.n, hd'], g2⟩
    · rw [if_neg hi] at hz
      obtain ⟨u, q1, q2⟩ := hs.env i z hz
      exact ⟨u, by simp [Act.put, Array.getElem?_setIfInBounds_ne hi, q1], q2.mono h3⟩
  have hgoal : wpList P ops (Lift base w0 M Q) rest (a.put (some d) (.tuple #[])) M'.w := wpList_monoQ (fun e a w => Lift.ext h3) _ _ _ (h7 base w0 M' _ hcaller)
  have : bodyPost P fn (fun e w'' => ∃ v, e = .returned v ∧ wpList P ops (Lift base w0 M Q) rest (a.put (some d) v) w'') e a' M'.w := by
    rcases h4 with rfl | rfl
    · exact ⟨h2.defs, _, hres, _, rfl, hgoal⟩
    · exact ⟨h2.defs, _, hres, _, rfl, hgoal⟩
  exact this
end
end Go.Proofs.Ytanlfjboahfanaa.Ev
