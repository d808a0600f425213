/- Rules of a walk: strings, arrays as values, closures with a result in a slot. Nothing here names a program. -/
import Derived.Test.YtokkpocccgdilaaEv26
namespace Go.Proofs.Ytokkpocccgdilaa.Ev
set_option linter.unusedVariables false
set_option linter.unusedSimpArgs false
open Go.RowKit
section
variable {P : Program} {ops : Array Oper} {Q : Exit → St → Prop} {X : List Oper → St → Prop} {rest : List Oper} {d : Nat} {ty : TypeId} {pos : String} {af : Array Edge} {n : Nat} {env : List (Nat × AV)} {heap : List (Nat × Option AB)} {nx : Nat} {gl : List (Nat × List CV)}

class StrTy (P : Program) (t : Nat) : Prop where
  h : P.underlying t = some .string
/-- A byte of a string. -/
def bt (s : ByteArray) (k : Nat) : Int := ((s.data.toList.getD k 0).toNat : Int)
theorem bt_bd (s : ByteArray) (k : Nat) : 0 ≤ bt s k ∧ bt s k ≤ 255 := by
  unfold bt
  have := (s.data.toList.getD k 0).toNat_lt
  omega
theorem str_get (s : ByteArray) (k : Nat) (h : k < s.size) : ∃ b, s[k]? = some b ∧ (b.toNat : Int) = bt s k := by
  refine ⟨s[k], getElem?_pos s k h, ?_⟩
  unfold bt
  have h2 : k < s.data.toList.length := by simpa using h
  rw [List.getD_eq_getElem?_getD, List.getElem?_eq_getElem h2]
  rfl
theorem r_len_s [W : Walk P X] {x : Operand} {t : TypeId} {s : ByteArray} [I : StrTy P t] (hx : St.ev ⟨n, env, heap, nx, gl⟩ x = some (.c (.v (.string s)))) (hd : Nat.blt d n = true) (h : X rest ⟨n, (d, .c (.v (.int .i64 (s.size : Int)))) :: env, heap, nx, gl⟩) : X (⟨some d, .call ⟨.builtin .len, #[x], #[t]⟩, ty, pos, af, none⟩ :: rest) ⟨n, env, heap, nx, gl⟩ := by
  refine ao_val (st := ⟨n, env, heap, nx, gl⟩) rfl rfl hd (fun _ _ M e hs => ⟨.int .i64 (s.size : Int), ?_, .c (.v _)⟩) h
  have hv := (hs.ev (by simp [Op.operands, Call.operands]) hx).bool
  simp only [execOp, resolve, List.map_toArray, List.map_cons, List.map_nil, hv]
  simp [invoke, builtin, Builtin.len_, run_underlying I.h, goInt]
theorem r_index_s [W : Walk P X] {x y : Operand} {t : TypeId} {s : ByteArray} {kk : IntKind} {idx : Int} [I : StrTy P t] (k : Nat) (hx : St.ev ⟨n, env, heap, nx, gl⟩ x = some (.c (.v (.string s)))) (hy : St.ev ⟨n, env, heap, nx, gl⟩ y = some (.c (.v (.int kk idx)))) (hk : idx = (k : Int)) (hlt : k < s.size) (hd : Nat.blt d n = true) (h : X rest ⟨n, (d, .c (.v (.int .u8 (bt s k)))) :: env, heap, nx, gl⟩) : X (⟨some d, .index t x y, ty, pos, af, none⟩ :: rest) ⟨n, env, heap, nx, gl⟩ := by
  obtain ⟨b, h1, h2⟩ := str_get s k hlt
  refine ao_val (st := ⟨n, env, heap, nx, gl⟩) rfl rfl hd (fun _ _ M e hs => ⟨.int .u8 (bt s k), ?_, .c (.v _)⟩) h
  simp only [execOp, (hs.ev (by simp [Op.operands, Call.operands]) hx).bool, (hs.ev (by simp [Op.operands, Call.operands]) hy).bool]
  subst hk
  simp [Instr.index, asIntOf, run_underlying I.h, h1, h2]
theorem r_eqstr [W : Walk P X] {x y : Operand} {t t2 : TypeId} {a b : ByteArray} (hx : St.ev ⟨n, env, heap, nx, gl⟩ x = some (.c (.v (.string a)))) (hy : St.ev ⟨n, env, heap, nx, gl⟩ y = some (.c (.v (.string b)))) (hd : Nat.blt d n = true) (h : X rest ⟨n, (d, .c (.v (.bool (a.toList == b.toList)))) :: env, heap, nx, gl⟩) : X (⟨some d, .binOp .eql t x y t2, ty, pos, af, none⟩ :: rest) ⟨n, env, heap, nx, gl⟩ := by
  refine ao_val (st := ⟨n, env, heap, nx, gl⟩) rfl rfl hd (fun _ _ M e hs => ⟨.bool (a.toList == b.toList), ?_, .c (.v _)⟩) h
  simp only [execOp, (hs.ev (by simp [Op.operands, Call.operands]) hx).bool, (hs.ev (by simp [Op.operands, Call.operands]) hy).bool]
  rfl
/-- A call of a function value that is walked through; one result, in a slot. -/
theorem r_inF {f : FuncId} {fn : Func} {c : Code} {t nt : Nat} {cf : Operand} {args : List Operand} {tys : Array TypeId} {caps ys : List AV} {env' : List (Nat × AV)} (hf : P.funcs[f]? = some fn) (hb : fn.body = some c) (hr : fn.results = #[.tmp t]) (hcall : callableB P f = true) (hnt : fn.ntmps = nt) (hcf : St.ev ⟨n, env, heap, nx, gl⟩ cf = some (.fn f caps)) (hys : evs ⟨n, env, heap, nx, gl⟩ args = some ys) (hn : Nat.ble (ys ++ caps).length nt = true) (he : argEnvA 0 (ys ++ caps) = env') (hd : Nat.blt d n = true)
    (h : Awp P c (Back t gl (fun y heap nx => AOps P ops Q rest ⟨n, (d, y) :: env, heap, nx, gl⟩)) ⟨nt, env', heap, nx, gl⟩) : AOps P ops Q (⟨some d, .call ⟨.value cf, args.toArray, tys⟩, ty, pos, af, none⟩ :: rest) ⟨n, env, heap, nx, gl⟩ := by
  subst hnt; subst he
  intro base w0 M a hs
  obtain ⟨e1, e2⟩ := evs_get hys
  have hn := Nat.le_of_ble_eq_true hn
  have hfv := hs.ev hcf
  generalize hev : a.eval cf = fv at hfv
  cases hfv with
  | fn hl hh =>
  rename_i vs
  have hsim : Sim base w0 ⟨fn.ntmps, argEnvA 0 (ys ++ caps), heap, nx, gl⟩ M { tmps := ((args.map a.eval).toArray ++ vs) ++ Array.replicate (fn.ntmps - ((args.map a.eval).toArray ++ vs).size) undef, defers := [] } := by
    refine ⟨hs.H, hs.nx, by simp at hn ⊢; omega, fun i y hy => ?_, hs.gl, hs.heap, hs.below, hs.base, rfl, hs.old⟩
    obtain ⟨_, h1⟩ := argEnvA_get (ys ++ caps) 0 i y hy
    rw [Nat.sub_zero] at h1
    rcases Nat.lt_or_ge i ys.length with hi | hi
    · rw [List.getElem?_append_left hi] at h1
      have hi2 : i < args.length := by omega
      exact ⟨a.eval args[i], by simp [Array.getElem?_append, hi2], hs.ev (e2 i args[i] y (by simp [hi2]) h1)⟩
    · rw [List.getElem?_append_right hi] at h1
      have hi2 : i - ys.length < vs.size := by have := (List.getElem?_eq_some_iff.1 h1).1; omega
      refine ⟨vs[i - ys.length], ?_, hh _ y _ h1 (by simp [hi2])⟩
      have e : args.length = ys.length := by omega
      rw [Array.getElem?_append, if_pos (by simp; omega), Array.getElem?_append, if_neg (by simp; omega)]
      simp only [List.size_toArray, List.length_map, e]
      exact Array.getElem?_eq_getElem hi2
  refine wl_enter rfl (run_callf hcall a M.w hev) (R := fun v w'' => wpList P ops (Lift base w0 M Q) rest (a.put (some d) v) w'') (calls_of_wp hf hb ?_) (fun v w'' hR => hR)
  refine Code.wp_mono ?_ (h base w0 M _ hsim)
  intro e a' w' ⟨M', s', h1, h2, h3, h4, h5, y, h6, h7⟩
  subst h1
  obtain ⟨v, g1, g2⟩ := h2.env t y h6
  have hres : (results fn a'.tmps).run P M'.w = .ok v M'.w := by
    unfold results
    rw [hr]
    simp [Array.getD_eq_getD_getElem?, g1]
  have hd' := blt_true hd
  have hcaller : Sim base w0 ⟨n, (d, y) :: env, s'.heap, s'.nx, gl⟩ M' (a.put (some d) v) := by
    refine ⟨h2.H, h2.nx, by show (a.tmps.setIfInBounds d v).size = _; rw [Array.size_setIfInBounds]; exact hs.n, fun i z hz => ?_, fun g xs hg => h2.gl g xs (by rw [h5]; exact hg), h2.heap, h2.below, h2.base, by simpa [Act.put] using hs.defs, h2.old⟩
    rw [look_cons] at hz
    by_cases hi : d = i
    · subst hi
      rw [if_pos rfl] at hz
      simp only [Option.some.injEq] at hz; subst hz
      exact ⟨v, by simp [Act.put, hs.n, hd'], g2⟩
    · rw [if_neg hi] at hz
      obtain ⟨u, q1, q2⟩ := hs.env i z hz
      exact ⟨u, by simp [Act.put, Array.getElem?_setIfInBounds_ne hi, q1], q2.mono h3⟩
  have hgoal : wpList P ops (Lift base w0 M Q) rest (a.put (some d) v) M'.w := wpList_monoQ (fun e a w => Lift.ext h3) _ _ _ (h7 base w0 M' _ hcaller)
  have : bodyPost P fn (fun e w'' => ∃ v, e = .returned v ∧ wpList P ops (Lift base w0 M Q) rest (a.put (some d) v) w'') e a' M'.w := by
    rcases h4 with rfl | rfl
    · exact ⟨h2.defs, v, hres, v, rfl, hgoal⟩
    · exact ⟨h2.defs, v, hres, v, rfl, hgoal⟩
  exact this
end
end Go.Proofs.Ytokkpocccgdilaa.Ev
