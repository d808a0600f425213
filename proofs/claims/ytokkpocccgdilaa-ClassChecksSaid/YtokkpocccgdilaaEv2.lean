/- Rules of a walk over abstract states: operations on plain values. Nothing here names a program. -/
import Derived.Test.YtokkpocccgdilaaEv1
import Derived.IntWalk
namespace Go.Proofs.Ytokkpocccgdilaa.Ev
set_option linter.unusedVariables false
set_option linter.unusedSimpArgs false
open Go.RowKit

/-- What fits an int. -/
def fits (n : Int) : Prop := -9223372036854775808 ≤ n ∧ n ≤ 9223372036854775807
theorem wrap_fits {n : Int} (h : fits n) : IntKind.i64.wrap n = n := IntWalk.i64_in _ h

section
variable {P : Program} {ops : Array Oper} {Q : Exit → St → Prop} {X : List Oper → St → Prop} {rest : List Oper} {st : St} {d : Nat} {ty : TypeId} {pos : String} {af : Array Edge}

theorem ao_move [W : Walk P X] {x : Operand} {y : AV} (hx : st.ev x = some y) (hd : Nat.blt d st.n = true) (h : X rest (st.put d y)) : X (⟨some d, .move x, ty, pos, af, none⟩ :: rest) st :=
  ao_val rfl rfl hd (fun _ _ _ _ hs => ⟨_, rfl, hs.ev (by simp [Op.operands, Call.operands]) hx⟩) h
theorem ao_assign [W : Walk P X] {x : Operand} {y : AV} (hx : st.ev x = some y) (hd : Nat.blt d st.n = true) (h : X rest (st.put d y)) : X (⟨some d, .assign x, ty, pos, af, none⟩ :: rest) st :=
  ao_val rfl rfl hd (fun _ _ _ _ hs => ⟨_, rfl, hs.ev (by simp [Op.operands, Call.operands]) hx⟩) h
theorem ao_pick_t [W : Walk P X] {c x y : Operand} {z : AV} (hc : st.ev c = some (.c (.v (.bool true)))) (hx : st.ev x = some z) (hd : Nat.blt d st.n = true) (h : X rest (st.put d z)) : X (⟨some d, .pick c x y, ty, pos, af, none⟩ :: rest) st :=
  ao_val rfl rfl hd (fun _ _ _ a hs => ⟨a.eval x, by simp only [execOp, (hs.ev (by simp [Op.operands, Call.operands]) hc).bool]; rfl, hs.ev (by simp [Op.operands, Call.operands]) hx⟩) h
theorem ao_pick_f [W : Walk P X] {c x y : Operand} {z : AV} (hc : st.ev c = some (.c (.v (.bool false)))) (hy : st.ev y = some z) (hd : Nat.blt d st.n = true) (h : X rest (st.put d z)) : X (⟨some d, .pick c x y, ty, pos, af, none⟩ :: rest) st :=
  ao_val rfl rfl hd (fun _ _ _ a hs => ⟨a.eval y, by simp only [execOp, (hs.ev (by simp [Op.operands, Call.operands]) hc).bool]; rfl, hs.ev (by simp [Op.operands, Call.operands]) hy⟩) h
theorem ao_pick [W : Walk P X] {c x y : Operand} {b b1 b2 : Bool} (hc : st.ev c = some (.c (.v (.bool b)))) (hx : st.ev x = some (.c (.v (.bool b1)))) (hy : st.ev y = some (.c (.v (.bool b2)))) (hd : Nat.blt d st.n = true) (h : X rest (st.put d (.c (.v (.bool (if b then b1 else b2)))))) : X (⟨some d, .pick c x y, ty, pos, af, none⟩ :: rest) st :=
  ao_val rfl rfl hd (fun _ _ _ a hs => ⟨.bool (if b then b1 else b2), by simp only [execOp, (hs.ev (by simp [Op.operands, Call.operands]) hc).bool, (hs.ev (by simp [Op.operands, Call.operands]) hx).bool, (hs.ev (by simp [Op.operands, Call.operands]) hy).bool]; cases b <;> rfl, .c (.v _)⟩) h
theorem ao_not [W : Walk P X] {x : Operand} {t : TypeId} {b : Bool} (hx : st.ev x = some (.c (.v (.bool b)))) (hd : Nat.blt d st.n = true) (h : X rest (st.put d (.c (.v (.bool !b))))) : X (⟨some d, .unOp .not t x, ty, pos, af, none⟩ :: rest) st :=
  ao_val rfl rfl hd (fun _ _ _ a hs => ⟨.bool !b, by simp only [execOp, (hs.ev (by simp [Op.operands, Call.operands]) hx).bool]; rfl, .c (.v _)⟩) h
theorem ao_neg [W : Walk P X] {x : Operand} {t : TypeId} {n : Int} (hx : st.ev x = some (.c (.v (.int .i64 n)))) (hf : fits (-n)) (hd : Nat.blt d st.n = true) (h : X rest (st.put d (.c (.v (.int .i64 (-n)))))) : X (⟨some d, .unOp .neg t x, ty, pos, af, none⟩ :: rest) st :=
  ao_val rfl rfl hd (fun _ _ _ a hs => ⟨.int .i64 (-n), by simp only [execOp, (hs.ev (by simp [Op.operands, Call.operands]) hx).bool]; simp [go_sem, Op.unary, wrap_fits hf], .c (.v _)⟩) h
theorem ao_extract [W : Walk P X] {x : Operand} {i : Nat} {xs : List AV} {y : AV} (hx : st.ev x = some (.tup xs)) (hi : xs[i]? = some y) (hd : Nat.blt d st.n = true) (h : X rest (st.put d y)) : X (⟨some d, .extract x i, ty, pos, af, none⟩ :: rest) st := by
  refine ao_val rfl rfl hd (fun _ _ M a hs => ?_) h
  have hv := hs.ev (by simp [Op.operands, Call.operands]) hx
  generalize he : a.eval x = u at hv
  cases hv with
  | tup hl hh =>
    rename_i vs
    have hlt : i < vs.size := by rw [← hl]; exact (List.getElem?_eq_some_iff.1 hi).1
    refine ⟨vs[i], ?_, hh i y _ hi (by simp [hlt])⟩
    simp only [execOp, he, Instr.extract]
    simp [hlt]

theorem ao_lss [W : Walk P X] {x y : Operand} {t t2 : TypeId} {k : IntKind} {a b : Int} (hx : st.ev x = some (.c (.v (.int k a)))) (hy : st.ev y = some (.c (.v (.int k b)))) (hd : Nat.blt d st.n = true) (h : X rest (st.put d (.c (.v (.bool (decide (a < b))))))) : X (⟨some d, .binOp .lss t x y t2, ty, pos, af, none⟩ :: rest) st := by
  refine ao_val rfl rfl hd (fun _ _ M e hs => ⟨.bool (decide (a < b)), ?_, .c (.v _)⟩) h
  simp only [execOp, (hs.ev (by simp [Op.operands, Call.operands]) hx).bool, (hs.ev (by simp [Op.operands, Call.operands]) hy).bool]
  simp [go_sem]

theorem ao_leq [W : Walk P X] {x y : Operand} {t t2 : TypeId} {k : IntKind} {a b : Int} (hx : st.ev x = some (.c (.v (.int k a)))) (hy : st.ev y = some (.c (.v (.int k b)))) (hd : Nat.blt d st.n = true) (h : X rest (st.put d (.c (.v (.bool (decide (a ≤ b))))))) : X (⟨some d, .binOp .leq t x y t2, ty, pos, af, none⟩ :: rest) st := by
  refine ao_val rfl rfl hd (fun _ _ M e hs => ⟨.bool (decide (a ≤ b)), ?_, .c (.v _)⟩) h
  simp only [execOp, (hs.ev (by simp [Op.operands, Call.operands]) hx).bool, (hs.ev (by simp [Op.operands, Call.operands]) hy).bool]
  simp [go_sem]

theorem ao_gtr [W : Walk P X] {x y : Operand} {t t2 : TypeId} {k : IntKind} {a b : Int} (hx : st.ev x = some (.c (.v (.int k a)))) (hy : st.ev y = some (.c (.v (.int k b)))) (hd : Nat.blt d st.n = true) (h : X rest (st.put d (.c (.v (.bool (decide (a > b))))))) : X (⟨some d, .binOp .gtr t x y t2, ty, pos, af, none⟩ :: rest) st := by
  refine ao_val rfl rfl hd (fun _ _ M e hs => ⟨.bool (decide (a > b)), ?_, .c (.v _)⟩) h
  simp only [execOp, (hs.ev (by simp [Op.operands, Call.operands]) hx).bool, (hs.ev (by simp [Op.operands, Call.operands]) hy).bool]
  simp [go_sem]

theorem ao_geq [W : Walk P X] {x y : Operand} {t t2 : TypeId} {k : IntKind} {a b : Int} (hx : st.ev x = some (.c (.v (.int k a)))) (hy : st.ev y = some (.c (.v (.int k b)))) (hd : Nat.blt d st.n = true) (h : X rest (st.put d (.c (.v (.bool (decide (a ≥ b))))))) : X (⟨some d, .binOp .geq t x y t2, ty, pos, af, none⟩ :: rest) st := by
  refine ao_val rfl rfl hd (fun _ _ M e hs => ⟨.bool (decide (a ≥ b)), ?_, .c (.v _)⟩) h
  simp only [execOp, (hs.ev (by simp [Op.operands, Call.operands]) hx).bool, (hs.ev (by simp [Op.operands, Call.operands]) hy).bool]
  simp [go_sem]

theorem ao_eql [W : Walk P X] {x y : Operand} {t t2 : TypeId} {k : IntKind} {a b : Int} (hx : st.ev x = some (.c (.v (.int k a)))) (hy : st.ev y = some (.c (.v (.int k b)))) (hd : Nat.blt d st.n = true) (h : X rest (st.put d (.c (.v (.bool (decide (a = b))))))) : X (⟨some d, .binOp .eql t x y t2, ty, pos, af, none⟩ :: rest) st := by
  refine ao_val rfl rfl hd (fun _ _ M e hs => ⟨.bool (decide (a = b)), ?_, .c (.v _)⟩) h
  simp only [execOp, (hs.ev (by simp [Op.operands, Call.operands]) hx).bool, (hs.ev (by simp [Op.operands, Call.operands]) hy).bool]
  simp [go_sem]; rfl

theorem ao_neq [W : Walk P X] {x y : Operand} {t t2 : TypeId} {k : IntKind} {a b : Int} (hx : st.ev x = some (.c (.v (.int k a)))) (hy : st.ev y = some (.c (.v (.int k b)))) (hd : Nat.blt d st.n = true) (h : X rest (st.put d (.c (.v (.bool (!decide (a = b))))))) : X (⟨some d, .binOp .neq t x y t2, ty, pos, af, none⟩ :: rest) st := by
  refine ao_val rfl rfl hd (fun _ _ M e hs => ⟨.bool (!decide (a = b)), ?_, .c (.v _)⟩) h
  simp only [execOp, (hs.ev (by simp [Op.operands, Call.operands]) hx).bool, (hs.ev (by simp [Op.operands, Call.operands]) hy).bool]
  simp [go_sem]; rfl

theorem ao_add [W : Walk P X] {x y : Operand} {t t2 : TypeId} {a b : Int} (hx : st.ev x = some (.c (.v (.int .i64 a)))) (hy : st.ev y = some (.c (.v (.int .i64 b)))) (hf : fits (a + b)) (hd : Nat.blt d st.n = true) (h : X rest (st.put d (.c (.v (.int .i64 (a + b)))))) : X (⟨some d, .binOp .add t x y t2, ty, pos, af, none⟩ :: rest) st := by
  refine ao_val rfl rfl hd (fun _ _ M e hs => ⟨.int .i64 (a + b), ?_, .c (.v _)⟩) h
  simp only [execOp, (hs.ev (by simp [Op.operands, Call.operands]) hx).bool, (hs.ev (by simp [Op.operands, Call.operands]) hy).bool]
  show Result.ok (Next.value (Value.int .i64 (IntKind.i64.wrap (a + b)))) _ = _
  rw [wrap_fits hf]
theorem ao_add_w [W : Walk P X] {x y : Operand} {t t2 : TypeId} {k : IntKind} {a b : Int} (hx : st.ev x = some (.c (.v (.int k a)))) (hy : st.ev y = some (.c (.v (.int k b)))) (hd : Nat.blt d st.n = true) (h : X rest (st.put d (.c (.v (.int k (k.wrap (a + b))))))) : X (⟨some d, .binOp .add t x y t2, ty, pos, af, none⟩ :: rest) st := by
  refine ao_val rfl rfl hd (fun _ _ M e hs => ⟨.int k (k.wrap (a + b)), ?_, .c (.v _)⟩) h
  simp only [execOp, (hs.ev (by simp [Op.operands, Call.operands]) hx).bool, (hs.ev (by simp [Op.operands, Call.operands]) hy).bool]
  simp [go_sem]

theorem ao_sub [W : Walk P X] {x y : Operand} {t t2 : TypeId} {a b : Int} (hx : st.ev x = some (.c (.v (.int .i64 a)))) (hy : st.ev y = some (.c (.v (.int .i64 b)))) (hf : fits (a - b)) (hd : Nat.blt d st.n = true) (h : X rest (st.put d (.c (.v (.int .i64 (a - b)))))) : X (⟨some d, .binOp .sub t x y t2, ty, pos, af, none⟩ :: rest) st := by
  refine ao_val rfl rfl hd (fun _ _ M e hs => ⟨.int .i64 (a - b), ?_, .c (.v _)⟩) h
  simp only [execOp, (hs.ev (by simp [Op.operands, Call.operands]) hx).bool, (hs.ev (by simp [Op.operands, Call.operands]) hy).bool]
  show Result.ok (Next.value (Value.int .i64 (IntKind.i64.wrap (a - b)))) _ = _
  rw [wrap_fits hf]
theorem ao_sub_w [W : Walk P X] {x y : Operand} {t t2 : TypeId} {k : IntKind} {a b : Int} (hx : st.ev x = some (.c (.v (.int k a)))) (hy : st.ev y = some (.c (.v (.int k b)))) (hd : Nat.blt d st.n = true) (h : X rest (st.put d (.c (.v (.int k (k.wrap (a - b))))))) : X (⟨some d, .binOp .sub t x y t2, ty, pos, af, none⟩ :: rest) st := by
  refine ao_val rfl rfl hd (fun _ _ M e hs => ⟨.int k (k.wrap (a - b)), ?_, .c (.v _)⟩) h
  simp only [execOp, (hs.ev (by simp [Op.operands, Call.operands]) hx).bool, (hs.ev (by simp [Op.operands, Call.operands]) hy).bool]
  simp [go_sem]

theorem ao_mul [W : Walk P X] {x y : Operand} {t t2 : TypeId} {a b : Int} (hx : st.ev x = some (.c (.v (.int .i64 a)))) (hy : st.ev y = some (.c (.v (.int .i64 b)))) (hf : fits (a * b)) (hd : Nat.blt d st.n = true) (h : X rest (st.put d (.c (.v (.int .i64 (a * b)))))) : X (⟨some d, .binOp .mul t x y t2, ty, pos, af, none⟩ :: rest) st := by
  refine ao_val rfl rfl hd (fun _ _ M e hs => ⟨.int .i64 (a * b), ?_, .c (.v _)⟩) h
  simp only [execOp, (hs.ev (by simp [Op.operands, Call.operands]) hx).bool, (hs.ev (by simp [Op.operands, Call.operands]) hy).bool]
  show Result.ok (Next.value (Value.int .i64 (IntKind.i64.wrap (a * b)))) _ = _
  rw [wrap_fits hf]
theorem ao_mul_w [W : Walk P X] {x y : Operand} {t t2 : TypeId} {k : IntKind} {a b : Int} (hx : st.ev x = some (.c (.v (.int k a)))) (hy : st.ev y = some (.c (.v (.int k b)))) (hd : Nat.blt d st.n = true) (h : X rest (st.put d (.c (.v (.int k (k.wrap (a * b))))))) : X (⟨some d, .binOp .mul t x y t2, ty, pos, af, none⟩ :: rest) st := by
  refine ao_val rfl rfl hd (fun _ _ M e hs => ⟨.int k (k.wrap (a * b)), ?_, .c (.v _)⟩) h
  simp only [execOp, (hs.ev (by simp [Op.operands, Call.operands]) hx).bool, (hs.ev (by simp [Op.operands, Call.operands]) hy).bool]
  simp [go_sem]

theorem ao_quo [W : Walk P X] {x y : Operand} {t t2 : TypeId} {a b : Int} (hx : st.ev x = some (.c (.v (.int .i64 a)))) (hy : st.ev y = some (.c (.v (.int .i64 b)))) (h0 : b ≠ 0) (hf : fits (a.tdiv b)) (hd : Nat.blt d st.n = true) (h : X rest (st.put d (.c (.v (.int .i64 (a.tdiv b)))))) : X (⟨some d, .binOp .quo t x y t2, ty, pos, af, none⟩ :: rest) st := by
  refine ao_val rfl rfl hd (fun _ _ M e hs => ⟨.int .i64 (a.tdiv b), ?_, .c (.v _)⟩) h
  simp only [execOp, (hs.ev (by simp [Op.operands, Call.operands]) hx).bool, (hs.ev (by simp [Op.operands, Call.operands]) hy).bool]
  simp only [go_sem]
  simp [binOp, Op.intDiv, h0, wrap_fits hf]
theorem ao_rem [W : Walk P X] {x y : Operand} {t t2 : TypeId} {a b : Int} (hx : st.ev x = some (.c (.v (.int .i64 a)))) (hy : st.ev y = some (.c (.v (.int .i64 b)))) (h0 : b ≠ 0) (hd : Nat.blt d st.n = true) (h : X rest (st.put d (.c (.v (.int .i64 (a.tmod b)))))) : X (⟨some d, .binOp .rem t x y t2, ty, pos, af, none⟩ :: rest) st := by
  refine ao_val rfl rfl hd (fun _ _ M e hs => ⟨.int .i64 (a.tmod b), ?_, .c (.v _)⟩) h
  simp only [execOp, (hs.ev (by simp [Op.operands, Call.operands]) hx).bool, (hs.ev (by simp [Op.operands, Call.operands]) hy).bool]
  simp only [go_sem]
  simp [binOp, Op.intDiv, h0]
theorem ao_max [W : Walk P X] {x y : Operand} {ts : Array TypeId} {k : IntKind} {a b : Int} (hx : st.ev x = some (.c (.v (.int k a)))) (hy : st.ev y = some (.c (.v (.int k b)))) (hd : Nat.blt d st.n = true) (h : X rest (st.put d (.c (.v (.int k (max a b)))))) : X (⟨some d, .call ⟨.builtin .max, #[x, y], ts⟩, ty, pos, af, none⟩ :: rest) st := by
  refine ao_val rfl rfl hd (fun _ _ M e hs => ⟨.int k (max a b), ?_, .c (.v _)⟩) h
  simp only [execOp, resolve, List.map_toArray, List.map_cons, List.map_nil, (hs.ev (by simp [Op.operands, Call.operands]) hx).bool, (hs.ev (by simp [Op.operands, Call.operands]) hy).bool]
  have : (if b > a then b else a) = max a b := by split <;> omega
  simp [invoke, builtin, go_sem, this]
theorem ao_min [W : Walk P X] {x y : Operand} {ts : Array TypeId} {k : IntKind} {a b : Int} (hx : st.ev x = some (.c (.v (.int k a)))) (hy : st.ev y = some (.c (.v (.int k b)))) (hd : Nat.blt d st.n = true) (h : X rest (st.put d (.c (.v (.int k (min a b)))))) : X (⟨some d, .call ⟨.builtin .min, #[x, y], ts⟩, ty, pos, af, none⟩ :: rest) st := by
  refine ao_val rfl rfl hd (fun _ _ M e hs => ⟨.int k (min a b), ?_, .c (.v _)⟩) h
  simp only [execOp, resolve, List.map_toArray, List.map_cons, List.map_nil, (hs.ev (by simp [Op.operands, Call.operands]) hx).bool, (hs.ev (by simp [Op.operands, Call.operands]) hy).bool]
  have : (if b < a then b else a) = min a b := by split <;> omega
  simp [invoke, builtin, go_sem, this]
theorem ao_max3 [W : Walk P X] {x y z : Operand} {ts : Array TypeId} {k : IntKind} {a b c : Int} (hx : st.ev x = some (.c (.v (.int k a)))) (hy : st.ev y = some (.c (.v (.int k b)))) (hz : st.ev z = some (.c (.v (.int k c)))) (hd : Nat.blt d st.n = true) (h : X rest (st.put d (.c (.v (.int k (max (max a b) c)))))) : X (⟨some d, .call ⟨.builtin .max, #[x, y, z], ts⟩, ty, pos, af, none⟩ :: rest) st := by
  refine ao_val rfl rfl hd (fun _ _ M e hs => ⟨.int k (max (max a b) c), ?_, .c (.v _)⟩) h
  simp only [execOp, resolve, List.map_toArray, List.map_cons, List.map_nil, (hs.ev (by simp [Op.operands, Call.operands]) hx).bool, (hs.ev (by simp [Op.operands, Call.operands]) hy).bool, (hs.ev (by simp [Op.operands, Call.operands]) hz).bool]
  have e1 : (if b > a then b else a) = max a b := by split <;> omega
  have e2 : (if c > max a b then c else max a b) = max (max a b) c := by split <;> omega
  simp [invoke, builtin, go_sem]
  rw [show (if a < b then b else a) = max a b from e1]
  rw [show (if max a b < c then c else max a b) = max (max a b) c from e2]; omega

/-- A guarded operation, by its guard's bit. -/
theorem ao_guard {dst : Option Tmp} {op : Op} {j t : Nat} {want b : Bool} (hj : (ops[j]?).bind (·.dst) = some t) (hb : look t st.env = some (.c (.v (.bool b)))) (hdst : dst = some d) (hd : Nat.blt d st.n = true)
    (h : b = want → AOps P ops Q (⟨dst, op, ty, pos, af, none⟩ :: rest) (st.put t (.c (.v (.bool want))))) (h' : b = !want → AOps P ops Q rest ((st.put t (.c (.v (.bool !want)))).put d (.c (.v undef)))) : AOps P ops Q (⟨dst, op, ty, pos, af, some (j, want)⟩ :: rest) st := by
  intro base w0 M a hs
  obtain ⟨v, h2, h3⟩ := hs.env t _ hb
  have h4 := h3.bool
  subst h4
  have key : ∀ b', b = b' → Sim base w0 (st.put t (.c (.v (.bool b')))) M a := fun b' hbb => by
    subst hbb
    refine ⟨hs.H, hs.nx, hs.n, fun i y hy => ?_, hs.gl, hs.heap, hs.below, hs.base, hs.defs, hs.old⟩
    simp only [St.put, look_cons] at hy
    split at hy
    · rename_i hi; subst hi; simp only [Option.some.injEq] at hy; subst hy; exact ⟨_, h2, .c (.v _)⟩
    · exact hs.env i y hy
  have hy : yielded ops a.tmps j = some b := by unfold yielded; rw [hj]; simp [h2]
  by_cases hw : b = want
  · have h1 := h hw base w0 M a (key _ hw)
    subst hw
    unfold wpList at h1 ⊢
    rw [if_pos (by simp [Region.wanted])] at h1
    rw [if_pos (by simp [Region.wanted, hy])]
    exact h1
  · have hw' : b = !want := by cases b <;> cases want <;> simp_all
    have h1 := h' hw' base w0 M _ ((key _ hw').put hd (.c (.v undef)))
    unfold wpList
    rw [if_neg (by simp [Region.wanted, hy]; exact hw)]
    show wpList _ _ _ _ (a.put dst undef) _
    rw [hdst]
    exact h1
theorem ao_guard_none {dst : Option Tmp} {op : Op} {j t : Nat} {want : Bool} (hj : (ops[j]?).bind (·.dst) = some t) (hb : look t st.env = some (.c (.v undef))) (hdst : dst = some d) (hd : Nat.blt d st.n = true) (h : AOps P ops Q rest (st.put d (.c (.v undef)))) : AOps P ops Q (⟨dst, op, ty, pos, af, some (j, want)⟩ :: rest) st := by
  intro base w0 M a hs
  have h1 := h base w0 M _ (hs.put hd (.c (.v undef)))
  obtain ⟨v, h2, h3⟩ := hs.env t _ hb
  have h4 := h3.bool
  subst h4
  have hy : yielded ops a.tmps j = none := by unfold yielded; rw [hj]; simp [h2, undef]
  unfold wpList
  rw [if_neg (by simp [Region.wanted, hy])]
  show wpList _ _ _ _ (a.put dst undef) _
  rw [hdst]
  exact h1
/-- The bit of a guard is settled by cases. -/
theorem ao_split {rest : List Oper} (t : Nat) {b : Bool} (hb : look t st.env = some (.c (.v (.bool b)))) (ht : b = true → AOps P ops Q rest (st.put t (.c (.v (.bool true))))) (hf : b = false → AOps P ops Q rest (st.put t (.c (.v (.bool false))))) : AOps P ops Q rest st := by
  intro base w0 M a hs
  obtain ⟨v, h2, h3⟩ := hs.env t _ hb
  have h4 := h3.bool
  subst h4
  have key : ∀ b', b = b' → Sim base w0 (st.put t (.c (.v (.bool b')))) M a := fun b' hbb => by
    subst hbb
    refine ⟨hs.H, hs.nx, hs.n, fun i y hy => ?_, hs.gl, hs.heap, hs.below, hs.base, hs.defs, hs.old⟩
    simp only [St.put, look_cons] at hy
    split at hy
    · rename_i hi; subst hi; simp only [Option.some.injEq] at hy; subst hy; exact ⟨_, h2, .c (.v _)⟩
    · exact hs.env i y hy
  cases b with
  | true => exact ht rfl base w0 M a (key _ rfl)
  | false => exact hf rfl base w0 M a (key _ rfl)
end
end Go.Proofs.Ytokkpocccgdilaa.Ev
