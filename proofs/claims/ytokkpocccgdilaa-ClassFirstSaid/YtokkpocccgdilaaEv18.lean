/- More rules of a walk: conversions of integers, functions as values. Nothing here names a program. -/
import Derived.Test.YtokkpocccgdilaaEv17
namespace Go.Proofs.Ytokkpocccgdilaa.Ev
set_option linter.unusedVariables false
set_option linter.unusedSimpArgs false
open Go.RowKit

class IntT (P : Program) (t : Nat) (k : outParam IntKind) : Prop where
  h : P.underlying t = some (.int k)
section
variable {P : Program} {ops : Array Oper} {Q : Exit → St → Prop} {X : List Oper → St → Prop} {rest : List Oper} {d : Nat} {ty : TypeId} {pos : String} {af : Array Edge} {n : Nat} {env : List (Nat × AV)} {heap : List (Nat × Option AB)} {nx : Nat} {gl : List (Nat × List CV)}

theorem r_conv [W : Walk P X] {x : Operand} {t t2 : Nat} {k1 k2 k : IntKind} {a b : Int} [I1 : IntT P t k1] [I2 : IntT P t2 k2] (hx : St.ev ⟨n, env, heap, nx, gl⟩ x = some (.c (.v (.int k a)))) (he : k2.wrap a = b) (hd : Nat.blt d n = true)
    (h : X rest ⟨n, (d, .c (.v (.int k2 b))) :: env, heap, nx, gl⟩) : X (⟨some d, .convert t t2 x, ty, pos, af, none⟩ :: rest) ⟨n, env, heap, nx, gl⟩ := by
  refine ao_val (st := ⟨n, env, heap, nx, gl⟩) rfl rfl hd (fun _ _ M e hs => ⟨.int k2 b, ?_, .c (.v _)⟩) h
  have hv := (hs.ev (by simp [Op.operands]) hx).bool
  simp only [execOp, hv]
  have hk : P.intKind t2 = k2 := by unfold Program.intKind; rw [I2.h]
  have := run_convert_int (P := P) M.w t t2 k a (by rw [I1.h]; rfl) (by rw [hk]; exact I2.h)
  rw [hk, he] at this
  rw [Sem.run_bind, this]; rfl
/-- A function with what it holds. -/
theorem r_makefn [W : Walk P X] {f : FuncId} {caps : List Operand} {ys : List AV} (hys : evs ⟨n, env, heap, nx, gl⟩ caps = some ys) (hd : Nat.blt d n = true)
    (h : X rest ⟨n, (d, .fn f ys) :: env, heap, nx, gl⟩) : X (⟨some d, .makeFunc (.func f) #[] caps.toArray, ty, pos, af, none⟩ :: rest) ⟨n, env, heap, nx, gl⟩ := by
  refine ao_val (st := ⟨n, env, heap, nx, gl⟩) rfl rfl hd (fun _ _ M e hs => ⟨.func (.func f) #[] (caps.map e.eval).toArray, ?_, ?_⟩) h
  · simp [execOp, Instr.makeFunc]
  · obtain ⟨e1, e2⟩ := evs_get hys
    refine .fn (by simp; omega) (fun i x u hx hu => ?_)
    have hi : i < caps.length := by have := (List.getElem?_eq_some_iff.1 hx).1; omega
    have : u = e.eval caps[i] := by simpa [hi] using hu.symm
    subst this
    exact hs.ev (by simp [Op.operands]) (e2 i caps[i] x (by simp [hi]) hx)

theorem run_callf {f : FuncId} {c : Operand} {args : List Operand} {tys : Array TypeId} {dst : Option Tmp} {vs : Array Value} (hc : callableB P f = true) (a : Act) (w : World) (hv : a.eval c = .func (.func f) #[] vs) :
    (execOp a.eval ⟨dst, .call ⟨.value c, args.toArray, tys⟩, ty, pos, af, none⟩).run P w = .ok (.enter f ((args.map a.eval).toArray ++ vs)) w := by
  unfold callableB at hc
  split at hc
  · rename_i fn hf
    simp only [Bool.and_eq_true, Bool.not_eq_true'] at hc
    obtain ⟨h1, h2⟩ := hc
    cases hb : fn.body with
    | none => rw [hb] at h2; cases h2
    | some c =>
      simp only [execOp, resolve, hv, Deferred.ofValue]
      have h1' : ¬ fn.name = "runtime.NumGoroutine" := by simpa using h1
      simp [invoke, callFunc, hf, h1', hb]
  · cases hc
/-- A call of a function value that is walked through; one result, a struct in a box. -/
theorem r_inFA {f : FuncId} {fn : Func} {c : Code} {ad t nt : Nat} {cf : Operand} {args : List Operand} {tys : Array TypeId} {caps ys : List AV} {env' : List (Nat × AV)} (hf : P.funcs[f]? = some fn) (hb : fn.body = some c) (hr : fn.results = #[.cell ad t]) (hcall : callableB P f = true) (hnt : fn.ntmps = nt) (hcf : St.ev ⟨n, env, heap, nx, gl⟩ cf = some (.fn f caps)) (hys : evs ⟨n, env, heap, nx, gl⟩ args = some ys) (hn : Nat.ble (ys ++ caps).length nt = true) (he : argEnvA 0 (ys ++ caps) = env') (hd : Nat.blt d n = true)
    (h : Awp P c (BackA P ad t gl (fun y heap nx => AOps P ops Q rest ⟨n, (d, y) :: env, heap, nx, gl⟩)) ⟨nt, env', heap, nx, gl⟩) : AOps P ops Q (⟨some d, .call ⟨.value cf, args.toArray, tys⟩, ty, pos, af, none⟩ :: rest) ⟨n, env, heap, nx, gl⟩ := by
  subst hnt; subst he
  intro base w0 M a hs
  obtain ⟨e1, e2⟩ := evs_get hys
  have hn := Nat.le_of_ble_eq_true hn
  have hfv := hs.ev hcf
  generalize hev : a.eval cf = fv at hfv
  cases hfv with
  | fn hl hh =>
  rename_i vs
  have hsim : Sim base w0 ⟨fn.ntmps, argEnvA 0 (ys ++ caps), heap, nx, gl⟩ M { tmps := ((args.map a.eval).toArray ++ vs) ++ Array.replicate (fn.ntmps - ((args.map a.eval).toArray ++ vs).size) undef, defers := [] } := by
    refine ⟨hs.H, hs.nx, by simp at hn ⊢; omega, fun i y hy => ?_, hs.gl, hs.heap, hs.below, hs.base, rfl, hs.old⟩
    obtain ⟨_, h1⟩ := argEnvA_get (ys ++ caps) 0 i y hy
    rw [Nat.sub_zero] at h1
    rcases Nat.lt_or_ge i ys.length with hi | hi
    · rw [List.getElem?_append_left hi] at h1
      have hi2 : i < args.length := by omega
      exact ⟨a.eval args[i], by simp [Array.getElem?_append, hi2], hs.ev (e2 i args[i] y (by simp [hi2]) h1)⟩
    · rw [List.getElem?_append_right hi] at h1
      have hi2 : i - ys.length < vs.size := by have := (List.getElem?_eq_some_iff.1 h1).1; omega
      refine ⟨vs[i - ys.length], ?_, hh _ y _ h1 (by simp [hi2])⟩
      have e : args.length = ys.length := by omega
      rw [Array.getElem?_append, if_pos (by simp; omega), Array.getElem?_append, if_neg (by simp; omega)]
      simp only [List.size_toArray, List.length_map, e]
      exact Array.getElem?_eq_getElem hi2
  refine wl_enter rfl (run_callf hcall a M.w hev) (R := fun v w'' => wpList P ops (Lift base w0 M Q) rest (a.put (some d) v) w'') (calls_of_wp hf hb ?_) (fun v w'' hR => hR)
  refine Code.wp_mono ?_ (h base w0 M _ hsim)
  intro e a' w' ⟨M', s', h1, h2, h3, h4, h5, b, off, k, t', l, zs, I, h6, h7, h8, h9, h10⟩
  subst h1
  obtain ⟨u, g1, g2⟩ := h2.env ad _ h6
  cases g2 with
  | ptr hm =>
  rename_i g
  obtain ⟨g', arr, q1, q2, q3, q4, q5, q6⟩ := h2.heap.cells b t' l (by rw [h2.H]; exact h7)
  rw [hm] at q1; cases q1
  have hln : ((arr.toList.drop off).take k).length = k := by
    have : ((l.drop off).take k).length = k := by rw [h8]; exact h9
    simp only [List.length_take, List.length_drop, Array.length_toList] at this ⊢
    rw [← q5]; exact this
  have hRA : RA M' (.agg zs) (.agg ((arr.toList.drop off).take k).toArray) := by
    refine .agg (by rw [h9]; simpa using hln.symm) (fun i y u hy' hu => ?_)
    subst h8
    have hi : i < k := by have := (List.getElem?_eq_some_iff.1 hy').1; omega
    rw [List.getElem?_take_of_lt hi, List.getElem?_drop] at hy'
    rw [List.getElem?_toArray, List.getElem?_take_of_lt hi, List.getElem?_drop, Array.getElem?_toList] at hu
    exact q6 _ y u hy' hu
  have hres : (results fn a'.tmps).run P M'.w = .ok (.agg ((arr.toList.drop off).take k).toArray) M'.w := by
    have hld := run_load_a I M'.w g off ((arr.toList.drop off).take k) hln (fun j v hv => by
      have hj : j < k := by have := (List.getElem?_eq_some_iff.1 hv).1; omega
      rw [List.getElem?_take_of_lt hj, List.getElem?_drop, Array.getElem?_toList] at hv
      simp [World.cell?, q4, hv])
    simp only [Instr.loadAt, Instr.sureAddr, Sem.run_bind, Sem.run_pure, Result.andThen_ok] at hld
    unfold results
    rw [hr]
    simp [Array.getD_eq_getD_getElem?, g1, asAddr, hld]
  generalize Value.agg ((arr.toList.drop off).take k).toArray = v at *
  have hd' := blt_true hd
  have hcaller : Sim base w0 ⟨n, (d, .agg zs) :: env, s'.heap, s'.nx, gl⟩ M' (a.put (some d) v) := by
    refine ⟨h2.H, h2.nx, by show (a.tmps.setIfInBounds d v).size = _; rw [Array.size_setIfInBounds]; exact hs.n, fun i z hz => ?_, fun g xs hg => h2.gl g xs (by rw [h5]; exact hg), h2.heap, h2.below, h2.base, by simpa [Act.put] using hs.defs, h2.old⟩
    rw [look_cons] at hz
    by_cases hi : d = i
    · subst hi
      rw [if_pos rfl] at hz
      simp only [Option.some.injEq] at hz; subst hz
      exact ⟨v, by simp [Act.put, hs.n, hd'], hRA⟩
    · rw [if_neg hi] at hz
      obtain ⟨u, q1, q2⟩ := hs.env i z hz
      exact ⟨u, by simp [Act.put, Array.getElem?_setIfInBounds_ne hi, q1], q2.mono h3⟩
  have hgoal : wpList P ops (Lift base w0 M Q) rest (a.put (some d) v) M'.w := wpList_monoQ (fun e a w => Lift.ext h3) _ _ _ (h10 base w0 M' _ hcaller)
  have : bodyPost P fn (fun e w'' => ∃ v, e = .returned v ∧ wpList P ops (Lift base w0 M Q) rest (a.put (some d) v) w'') e a' M'.w := by
    rcases h4 with rfl | rfl
    · exact ⟨h2.defs, v, hres, v, rfl, hgoal⟩
    · exact ⟨h2.defs, v, hres, v, rfl, hgoal⟩
  exact this
/-- A field of a field of an element. -/
theorem r_field_e2 [W : Walk P X] {x : Operand} {s i k o j : Nat} {xs : List CV} [I : FieldAt P s i k] (hx : St.ev ⟨n, env, heap, nx, gl⟩ x = some (.eptr xs (o + j))) (hd : Nat.blt d n = true) (h : X rest ⟨n, (d, (.eptr xs (o + (j + k)))) :: env, heap, nx, gl⟩) : X (⟨some d, .fieldAddr s x i, ty, pos, af, none⟩ :: rest) ⟨n, env, heap, nx, gl⟩ :=
  r_field_e hx hd (by rw [Nat.add_assoc]; exact h)
theorem r_field_vf2 [W : Walk P X] {α : Type} {enc : α → List CV} {x : Operand} {s i k b m o j : Nat} [I : FieldAt P s i k] {E size : Nat} {l : List α} (hx : St.ev ⟨n, env, heap, nx, gl⟩ x = some (.vptr b m (o + j))) (hH : St.H ⟨n, env, heap, nx, gl⟩ b = some (.vec E size (l.flatMap enc))) (J : EncL enc size) (hn : l.length = m) (hd : Nat.blt d n = true) (h : X rest ⟨n, (d, (.vptr b m (o + (j + k)))) :: env, heap, nx, gl⟩) : X (⟨some d, .fieldAddr s x i, ty, pos, af, none⟩ :: rest) ⟨n, env, heap, nx, gl⟩ :=
  r_field_vf hx hH J hn hd (by rw [Nat.add_assoc]; exact h)
/-- A part of a closed list, however its ends are given. -/
theorem slice_core [W : Walk P X] {α : Type} {enc : α → List CV} {x : Operand} {op : Op} {size : Nat} {l : List α} (lo hi : Nat) (hop : x ∈ op.operands) (hx : St.ev ⟨n, env, heap, nx, gl⟩ x = some (.c (.lst size (l.flatMap enc)))) (J : EncL enc size) (hlo : lo ≤ hi) (hhi : hi ≤ l.length) (hd : Nat.blt d n = true)
    (hrun : ∀ base w0 M a, SimO base w0 ⟨n, env, heap, nx, gl⟩ ⟨some d, op, ty, pos, af, none⟩ M a → ∀ (ad : Option Addr) (n cap : Nat), n ≤ cap → n = l.length → a.eval x = .slice ad n cap → (execOp a.eval ⟨some d, op, ty, pos, af, none⟩).run P M.w = .ok (.value (.slice (if cap = lo then ad else ad.map (·.add (lo * size))) (hi - lo) (cap - lo))) M.w)
    (h : X rest ⟨n, (d, (.c (.lst size (((l.take hi).drop lo).flatMap enc)))) :: env, heap, nx, gl⟩) : X (⟨some d, op, ty, pos, af, none⟩ :: rest) ⟨n, env, heap, nx, gl⟩ := by
  refine ao_val (st := ⟨n, env, heap, nx, gl⟩) rfl rfl hd (fun base w0 M a hs => ?_) h
  have hv := hs.ev hop hx
  generalize hxs : l.flatMap enc = xs at hv
  have hlen := flat_len J.len l
  rw [hxs] at hlen
  have hrun := hrun base w0 M a hs
  generalize he : a.eval x = u at hv hrun
  have hsub : ∀ (j : Nat) (y : CV), (((l.take hi).drop lo).flatMap enc)[j]? = some y → xs[lo * size + j]? = some y := by
    intro j y hy
    rw [← flat_drop J.len, ← flat_take J.len, hxs, List.getElem?_drop] at hy
    have : lo * size + j < hi * size := by
      have := (List.getElem?_eq_some_iff.1 hy).1
      simp only [List.length_take] at this; omega
    rwa [List.getElem?_take_of_lt this] at hy
  have hslen : (((l.take hi).drop lo).flatMap enc).length = (hi - lo) * size := by
    rw [flat_len J.len]; simp only [List.length_drop, List.length_take]; rw [Nat.min_eq_left hhi]
  cases hv with
  | c hv =>
    cases hv with
    | nil =>
      rename_i cap ad
      have h0 : l.length = 0 := by
        simp only [List.length_nil] at hlen
        rcases Nat.mul_eq_zero.1 hlen.symm with h | h
        · exact h
        · exact absurd h (by have := J.pos; omega)
      refine ⟨_, hrun ad 0 cap (Nat.zero_le _) h0.symm rfl, ?_⟩
      have hl0 : l = [] := List.eq_nil_of_length_eq_zero h0
      subst hl0
      have : hi - lo = 0 := by simp at hhi; omega
      rw [this]
      simp only [List.take_nil, List.drop_nil, List.flatMap_nil]
      exact .c .nil
    | lst cs hn hc hF hcell hr =>
      rename_i blk off n cap
      have hnl : n = l.length := Nat.eq_of_mul_eq_mul_right J.pos (by rw [← hn, hlen])
      refine ⟨_, hrun _ n cap hc hnl rfl, ?_⟩
      have hadd : (Addr.add ⟨blk, off, none⟩ (lo * size)) = ⟨blk, off + lo * size, none⟩ := Kit.addr_add _ _ _
      by_cases hcl : cap = lo
      · have : hi - lo = 0 := by omega
        have hnil : ((l.take hi).drop lo).flatMap enc = [] := List.eq_nil_of_length_eq_zero (by rw [hslen, this]; simp)
        rw [hnil, this]
        exact .c .nil
      · rw [if_neg hcl]
        simp only [Option.map_some, hadd]
        refine .c (.lst (fun j => cs (lo * size + j)) hslen (by omega) hF (fun j y hy => ?_) (fun j y hy => hr _ y (hsub j y hy)))
        have := hcell _ y (hsub j y hy)
        rw [Nat.add_assoc]; exact this
theorem r_slice_hi [W : Walk P X] {α : Type} {enc : α → List CV} {x q : Operand} {t E size bytes : Nat} [I : SlT P t E size bytes] {l : List α} {k2 : IntKind} {i2 : Int} (hi : Nat) (hx : St.ev ⟨n, env, heap, nx, gl⟩ x = some (.c (.lst size (l.flatMap enc)))) (J : EncL enc size) (hq : St.ev ⟨n, env, heap, nx, gl⟩ q = some (.c (.v (.int k2 i2)))) (h2 : i2 = (hi : Int)) (hhi : hi ≤ l.length) (hd : Nat.blt d n = true) (h : X rest ⟨n, (d, (.c (.lst size ((l.take hi).flatMap enc)))) :: env, heap, nx, gl⟩) : X (⟨some d, .slice t x none (some q) none, ty, pos, af, none⟩ :: rest) ⟨n, env, heap, nx, gl⟩ := by
  obtain ⟨i, z, f1, f2, f3, f4, f5, f6⟩ := I.out
  subst h2
  refine slice_core (op := .slice t x none (some q) none) 0 hi (by simp [Op.operands]) hx J (Nat.zero_le _) hhi hd (fun base w0 M a hs ad n' cap hc hn hu => ?_) (by rw [List.drop_zero]; exact h)
  have e2 := (hs.ev (by simp [Op.operands]) hq).bool
  simp only [execOp, hu, Option.map_some, e2]
  simp [Instr.sliceAt, run_underlying f1, Instr.slice, Instr.sliceBounds, Instr.sliceBound, asIntOf, sizeOf, typeInfo, f2, f4, show hi ≤ cap by omega]
theorem r_slice_lo [W : Walk P X] {α : Type} {enc : α → List CV} {x p : Operand} {t E size bytes : Nat} [I : SlT P t E size bytes] {l : List α} {k1 : IntKind} {i1 : Int} (lo : Nat) (hx : St.ev ⟨n, env, heap, nx, gl⟩ x = some (.c (.lst size (l.flatMap enc)))) (J : EncL enc size) (hp : St.ev ⟨n, env, heap, nx, gl⟩ p = some (.c (.v (.int k1 i1)))) (h1 : i1 = (lo : Int)) (hlo : lo ≤ l.length) (hd : Nat.blt d n = true) (h : X rest ⟨n, (d, (.c (.lst size ((l.drop lo).flatMap enc)))) :: env, heap, nx, gl⟩) : X (⟨some d, .slice t x (some p) none none, ty, pos, af, none⟩ :: rest) ⟨n, env, heap, nx, gl⟩ := by
  obtain ⟨i, z, f1, f2, f3, f4, f5, f6⟩ := I.out
  subst h1
  refine slice_core (op := .slice t x (some p) none none) lo l.length (by simp [Op.operands]) hx J hlo (Nat.le_refl _) hd (fun base w0 M a hs ad n' cap hc hn hu => ?_) (by rw [List.take_length]; exact h)
  have e2 := (hs.ev (by simp [Op.operands]) hp).bool
  subst hn
  simp only [execOp, hu, Option.map_some, e2]
  simp [Instr.sliceAt, run_underlying f1, Instr.slice, Instr.sliceBounds, Instr.sliceBound, asIntOf, sizeOf, typeInfo, f2, f4, hlo, hc]
end
end Go.Proofs.Ytokkpocccgdilaa.Ev
