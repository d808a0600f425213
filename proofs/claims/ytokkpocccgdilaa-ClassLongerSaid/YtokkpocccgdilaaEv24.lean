/- Rules of a walk: bits, truth values held against each other, function values in calls. Nothing here names a program. -/
import Derived.Test.YtokkpocccgdilaaEv23
import Derived.Test.YtokkpocccgdilaaEv18
namespace Go.Proofs.Ytokkpocccgdilaa.Ev
set_option linter.unusedVariables false
set_option linter.unusedSimpArgs false
open Go.RowKit
section
variable {P : Program} {ops : Array Oper} {Q : Exit → St → Prop} {X : List Oper → St → Prop} {rest : List Oper} {d : Nat} {ty : TypeId} {pos : String} {af : Array Edge} {n : Nat} {env : List (Nat × AV)} {heap : List (Nat × Option AB)} {nx : Nat} {gl : List (Nat × List CV)}

theorem run_eqb {t : TypeId} (hu : P.underlying t = some .bool) (a b : Bool) (w : World) : (Op.equal t (.bool a) (.bool b)).run P w = .ok (a == b) w := by
  unfold Op.equal
  rw [show Op.maxDepth = 9999 + 1 from rfl]
  unfold Op.equalIn
  rw [Sem.run_bind, run_underlying hu]; rfl
theorem r_eqb [W : Walk P X] {x y : Operand} {t t2 : TypeId} {a b : Bool} (hx : St.ev ⟨n, env, heap, nx, gl⟩ x = some (.c (.v (.bool a)))) (hy : St.ev ⟨n, env, heap, nx, gl⟩ y = some (.c (.v (.bool b)))) (hu : P.underlying t = some .bool) (hd : Nat.blt d n = true) (h : X rest ⟨n, (d, .c (.v (.bool (a == b)))) :: env, heap, nx, gl⟩) : X (⟨some d, .binOp .eql t x y t2, ty, pos, af, none⟩ :: rest) ⟨n, env, heap, nx, gl⟩ := by
  refine ao_val (st := ⟨n, env, heap, nx, gl⟩) rfl rfl hd (fun _ _ M e hs => ⟨.bool (a == b), ?_, .c (.v _)⟩) h
  simp only [execOp, (hs.ev (by simp [Op.operands, Call.operands]) hx).bool, (hs.ev (by simp [Op.operands, Call.operands]) hy).bool]
  rw [Sem.run_bind, Sem.run_bind, show (eqGuard .eql t x y (.bool a) (.bool b)).run P M.w = .ok () M.w from rfl]
  simp only [Result.andThen]
  rw [show (binOp .eql t (.bool a) (.bool b)).run P M.w = .ok (.bool (a == b)) M.w from by
    show ((do pure (.bool (← Op.equal t (.bool a) (.bool b)))) : Sem Value).run P M.w = _
    rw [Sem.run_bind, run_eqb hu]; rfl]
  rfl
theorem r_neqb [W : Walk P X] {x y : Operand} {t t2 : TypeId} {a b : Bool} (hx : St.ev ⟨n, env, heap, nx, gl⟩ x = some (.c (.v (.bool a)))) (hy : St.ev ⟨n, env, heap, nx, gl⟩ y = some (.c (.v (.bool b)))) (hu : P.underlying t = some .bool) (hd : Nat.blt d n = true) (h : X rest ⟨n, (d, .c (.v (.bool (a != b)))) :: env, heap, nx, gl⟩) : X (⟨some d, .binOp .neq t x y t2, ty, pos, af, none⟩ :: rest) ⟨n, env, heap, nx, gl⟩ := by
  refine ao_val (st := ⟨n, env, heap, nx, gl⟩) rfl rfl hd (fun _ _ M e hs => ⟨.bool (a != b), ?_, .c (.v _)⟩) h
  simp only [execOp, (hs.ev (by simp [Op.operands, Call.operands]) hx).bool, (hs.ev (by simp [Op.operands, Call.operands]) hy).bool]
  rw [Sem.run_bind, Sem.run_bind, show (eqGuard .neq t x y (.bool a) (.bool b)).run P M.w = .ok () M.w from rfl]
  simp only [Result.andThen]
  rw [show (binOp .neq t (.bool a) (.bool b)).run P M.w = .ok (.bool (a != b)) M.w from by
    show ((do pure (.bool (!(← Op.equal t (.bool a) (.bool b))))) : Sem Value).run P M.w = _
    rw [Sem.run_bind, run_eqb hu]; rfl]
  rfl
theorem r_or [W : Walk P X] {x y : Operand} {t t2 : TypeId} {k : IntKind} {a b : Int} (hx : St.ev ⟨n, env, heap, nx, gl⟩ x = some (.c (.v (.int k a)))) (hy : St.ev ⟨n, env, heap, nx, gl⟩ y = some (.c (.v (.int k b)))) (hd : Nat.blt d n = true) (h : X rest ⟨n, (d, .c (.v (.int k (bits .or k a b)))) :: env, heap, nx, gl⟩) : X (⟨some d, .binOp .or t x y t2, ty, pos, af, none⟩ :: rest) ⟨n, env, heap, nx, gl⟩ := by
  refine ao_val (st := ⟨n, env, heap, nx, gl⟩) rfl rfl hd (fun _ _ M e hs => ⟨.int k (bits .or k a b), ?_, .c (.v _)⟩) h
  simp only [execOp, (hs.ev (by simp [Op.operands, Call.operands]) hx).bool, (hs.ev (by simp [Op.operands, Call.operands]) hy).bool]
  simp [go_sem]
theorem r_shr [W : Walk P X] {x y : Operand} {t t2 : TypeId} {k k2 : IntKind} {a b : Int} (hx : St.ev ⟨n, env, heap, nx, gl⟩ x = some (.c (.v (.int k a)))) (hy : St.ev ⟨n, env, heap, nx, gl⟩ y = some (.c (.v (.int k2 b)))) (h0 : 0 ≤ b) (h1 : b < k.bits) (hd : Nat.blt d n = true) (h : X rest ⟨n, (d, .c (.v (.int k (a / 2 ^ b.toNat)))) :: env, heap, nx, gl⟩) : X (⟨some d, .binOp .shr t x y t2, ty, pos, af, none⟩ :: rest) ⟨n, env, heap, nx, gl⟩ := by
  refine ao_val (st := ⟨n, env, heap, nx, gl⟩) rfl rfl hd (fun _ _ M e hs => ⟨.int k (a / 2 ^ b.toNat), ?_, .c (.v _)⟩) h
  simp only [execOp, (hs.ev (by simp [Op.operands, Call.operands]) hx).bool, (hs.ev (by simp [Op.operands, Call.operands]) hy).bool]
  have e1 : min b.toNat k.bits = b.toNat := by omega
  have e2 : a.fdiv (2 ^ b.toNat) = a / 2 ^ b.toNat := Int.fdiv_eq_ediv_of_nonneg _ (Int.le_of_lt (Int.pow_pos (by decide)))
  have e3 : (binOp .shr t (.int k a) (.int k2 b)).run P M.w = .ok (.int k (a / 2 ^ b.toNat)) M.w := by
    show (Op.shift .shr k a k2 b).run P M.w = _
    unfold Op.shift
    rw [if_neg (by omega)]
    dsimp only
    rw [e1, e2]; rfl
  simp only [Sem.run_bind]
  rw [show (eqGuard .shr t x y (.int k a) (.int k2 b)).run P M.w = .ok () M.w from rfl]
  show (Sem.run P (binOp .shr t (.int k a) (.int k2 b)) M.w).andThen _ = _
  rw [e3]; rfl
theorem r_neg_w [W : Walk P X] {x : Operand} {t : TypeId} {k : IntKind} {a : Int} (hx : St.ev ⟨n, env, heap, nx, gl⟩ x = some (.c (.v (.int k a)))) (hd : Nat.blt d n = true) (h : X rest ⟨n, (d, .c (.v (.int k (k.wrap (-a))))) :: env, heap, nx, gl⟩) : X (⟨some d, .unOp .neg t x, ty, pos, af, none⟩ :: rest) ⟨n, env, heap, nx, gl⟩ := by
  refine ao_val (st := ⟨n, env, heap, nx, gl⟩) rfl rfl hd (fun _ _ M e hs => ⟨.int k (k.wrap (-a)), ?_, .c (.v _)⟩) h
  simp only [execOp, (hs.ev (by simp [Op.operands, Call.operands]) hx).bool]
  simp [go_sem, Op.unary]

/-- A function without captures, as a value. -/
abbrev fnV (f : FuncId) : CV := .v (.func (.func f) #[] #[])
/-- A call of a function value by contract; its arguments are closed. -/
theorem r_callfv [W : Walk P X] {f : FuncId} {cf : Operand} {args : List Operand} {tys : Array TypeId} {ys : List AV} {zs : List CV} {r : CV} {y : AV} (hcf : St.ev ⟨n, env, heap, nx, gl⟩ cf = some (.c (fnV f))) (hys : evs ⟨n, env, heap, nx, gl⟩ args = some ys) (hz0 : clF.clFL ys = some zs) (hcon : Con P gl f zs r) (hy : ofC r = y) (hd : Nat.blt d n = true)
    (h : X rest ⟨n, (d, y) :: env, heap, nx, gl⟩) : X (⟨some d, .call ⟨.value cf, args.toArray, tys⟩, ty, pos, af, none⟩ :: rest) ⟨n, env, heap, nx, gl⟩ := by
  subst hy
  have hz : cl.clL (fun _ => none) ys zs := clF_clL hz0
  refine W.step rfl rfl hd (fun base w0 M a hs K Q hK => ?_) h
  obtain ⟨e1, e2⟩ := evs_get hys
  obtain ⟨e3, e4⟩ := clL_get hz
  have hfv := (hs.ev (by simp [Op.operands, Call.operands]) hcf).bool
  unfold Oper.wp
  rw [run_callf (vs := #[]) hcon.1 a M.w hfv]
  refine Calls.mono (hcon.2 M.w M.F _ hs.sim.heap.frz (fun g xs hg => ?_) (by simp; omega) (fun i x u hx hu => ?_)) (fun e w'' hR => ?_)
  · have := hs.sim.gl g xs hg
    generalize hq : Value.pointer (some ⟨g, 0, none⟩) = q at this ⊢
    cases this with
    | eptr cs hF hcell hr => exact .eptr cs hF hcell hr
  · have hi : i < args.length := by have := (List.getElem?_eq_some_iff.1 hx).1; omega
    obtain ⟨y, hy⟩ : ∃ y, ys[i]? = some y := ⟨_, List.getElem?_eq_getElem (by omega)⟩
    have hev := hs.ev (by simp [Op.operands, Call.operands]; exact Or.inr (List.getElem_mem hi)) (e2 i args[i] y (by simp [hi]) hy)
    have hu' : a.eval args[i] = u := by simpa [hi] using hu
    rw [hu'] at hev
    exact cl_rc hs.sim.heap (F' := M.F) (fun _ h => h) (fun b E s l h => by cases h) hev (e4 i y x hy hx)
  · obtain ⟨v, rfl, hb, hrc⟩ := hR
    exact hK v (M.after w'') (Ext.after hb hs.sim.heap.frz) (fun s hs' => hs'.after hb) (RA.ofC (M := M.after w'') hrc)
/-- Functions without captures as closed values. -/
def fnc : AV → AV
  | .fn f [] => .c (fnV f)
  | x => x
theorem RA.fnc {M : Wd} {x : AV} {u : Value} (h : RA M x u) : RA M (fnc x) u := by
  cases h with
  | @fn f xs vs hl hh =>
    cases xs with
    | nil =>
      have : vs = #[] := Array.eq_empty_of_size_eq_zero (by simpa using hl.symm)
      subst this; exact .c (.v _)
    | cons x xs => exact .fn hl hh
  | c h => exact .c h
  | agg hl hh => exact .agg hl hh
  | tup hl hh => exact .tup hl hh
  | ptr h => exact .ptr h
  | vec hb ho hh => exact .vec hb ho hh
  | vptr hb ho hh => exact .vptr hb ho hh
  | eptr cs hF hc hr => exact .eptr cs hF hc hr
theorem r_fnc {l : List Oper} (i : Nat) {xs ys : List AV} (hi : look i env = some (.agg xs)) (hy : xs.map fnc = ys) (h : AOps P ops Q l ⟨n, (i, .agg ys) :: env, heap, nx, gl⟩) : AOps P ops Q l ⟨n, env, heap, nx, gl⟩ := by
  subst hy
  intro base w0 M a hs
  refine h base w0 M a ⟨hs.H, hs.nx, hs.n, fun k y hy => ?_, hs.gl, hs.heap, hs.below, hs.base, hs.defs, hs.old⟩
  rw [look_cons] at hy
  by_cases hk : i = k
  · subst hk
    rw [if_pos rfl] at hy
    simp only [Option.some.injEq] at hy; subst hy
    obtain ⟨v, e1, e2⟩ := hs.env i _ hi
    refine ⟨v, e1, ?_⟩
    cases e2 with
    | @agg _ vs hl hh =>
      refine .agg (by simpa using hl) (fun j x u hx hu => ?_)
      simp only [List.getElem?_map, Option.map_eq_some_iff] at hx
      obtain ⟨z, hz, rfl⟩ := hx
      exact (hh j z u hz hu).fnc
  · rw [if_neg hk] at hy; exact hs.env k y hy
end
end Go.Proofs.Ytokkpocccgdilaa.Ev
