/- EvR Ev16 Ev17 Ev18 Ev19 Ev22 Ev20: texts laid together. -/
import Derived.Test.YtkhljpbkebnnmaaGreatDoorMrgE3
import Derived.WalkSpells
/- The rules of a walk, over states that are written out. Nothing here names a program. -/
namespace Go.Proofs.YtkhljpbkebnnmaaGreatDoor.Ev
set_option linter.unusedVariables false
set_option linter.unusedSimpArgs false
open Go.RowKit
section
variable {P : Program} {ops : Array Oper} {Q : Exit → St → Prop} {X : List Oper → St → Prop} {rest : List Oper} {d : Nat} {ty : TypeId} {pos : String} {af : Array Edge} {n : Nat} {env : List (Nat × AV)} {heap : List (Nat × Option AB)} {nx : Nat} {gl : List (Nat × List CV)}
theorem r_move [W : Walk P X] {x : Operand} {y : AV} (hx : St.ev ⟨n, env, heap, nx, gl⟩ x = some y) (hd : Nat.blt d n = true) (h : X rest ⟨n, (d, y) :: env, heap, nx, gl⟩) : X (⟨some d, .move x, ty, pos, af, none⟩ :: rest) ⟨n, env, heap, nx, gl⟩ :=
  ao_move (st := ⟨n, env, heap, nx, gl⟩) hx hd h
theorem r_assign [W : Walk P X] {x : Operand} {y : AV} (hx : St.ev ⟨n, env, heap, nx, gl⟩ x = some y) (hd : Nat.blt d n = true) (h : X rest ⟨n, (d, y) :: env, heap, nx, gl⟩) : X (⟨some d, .assign x, ty, pos, af, none⟩ :: rest) ⟨n, env, heap, nx, gl⟩ :=
  ao_assign (st := ⟨n, env, heap, nx, gl⟩) hx hd h
theorem r_pick_t [W : Walk P X] {c x y : Operand} {z : AV} (hc : St.ev ⟨n, env, heap, nx, gl⟩ c = some (.c (.v (.bool true)))) (hx : St.ev ⟨n, env, heap, nx, gl⟩ x = some z) (hd : Nat.blt d n = true) (h : X rest ⟨n, (d, z) :: env, heap, nx, gl⟩) : X (⟨some d, .pick c x y, ty, pos, af, none⟩ :: rest) ⟨n, env, heap, nx, gl⟩ :=
  ao_pick_t (st := ⟨n, env, heap, nx, gl⟩) hc hx hd h
theorem r_pick_f [W : Walk P X] {c x y : Operand} {z : AV} (hc : St.ev ⟨n, env, heap, nx, gl⟩ c = some (.c (.v (.bool false)))) (hy : St.ev ⟨n, env, heap, nx, gl⟩ y = some z) (hd : Nat.blt d n = true) (h : X rest ⟨n, (d, z) :: env, heap, nx, gl⟩) : X (⟨some d, .pick c x y, ty, pos, af, none⟩ :: rest) ⟨n, env, heap, nx, gl⟩ :=
  ao_pick_f (st := ⟨n, env, heap, nx, gl⟩) hc hy hd h
theorem r_not [W : Walk P X] {x : Operand} {t : TypeId} {b : Bool} (hx : St.ev ⟨n, env, heap, nx, gl⟩ x = some (.c (.v (.bool b)))) (hd : Nat.blt d n = true) (h : X rest ⟨n, (d, (.c (.v (.bool !b)))) :: env, heap, nx, gl⟩) : X (⟨some d, .unOp .not t x, ty, pos, af, none⟩ :: rest) ⟨n, env, heap, nx, gl⟩ :=
  ao_not (st := ⟨n, env, heap, nx, gl⟩) hx hd h
theorem r_neg [W : Walk P X] {x : Operand} {t : TypeId} {n' : Int} (hx : St.ev ⟨n, env, heap, nx, gl⟩ x = some (.c (.v (.int .i64 n')))) (hf : fits (-n')) (hd : Nat.blt d n = true) (h : X rest ⟨n, (d, (.c (.v (.int .i64 (-n'))))) :: env, heap, nx, gl⟩) : X (⟨some d, .unOp .neg t x, ty, pos, af, none⟩ :: rest) ⟨n, env, heap, nx, gl⟩ :=
  ao_neg (st := ⟨n, env, heap, nx, gl⟩) hx hf hd h
theorem r_extract [W : Walk P X] {x : Operand} {i : Nat} {xs : List AV} {y : AV} (hx : St.ev ⟨n, env, heap, nx, gl⟩ x = some (.tup xs)) (hi : xs[i]? = some y) (hd : Nat.blt d n = true) (h : X rest ⟨n, (d, y) :: env, heap, nx, gl⟩) : X (⟨some d, .extract x i, ty, pos, af, none⟩ :: rest) ⟨n, env, heap, nx, gl⟩ :=
  ao_extract (st := ⟨n, env, heap, nx, gl⟩) hx hi hd h
theorem r_lss [W : Walk P X] {x y : Operand} {t t2 : TypeId} {k : IntKind} {a b : Int} (hx : St.ev ⟨n, env, heap, nx, gl⟩ x = some (.c (.v (.int k a)))) (hy : St.ev ⟨n, env, heap, nx, gl⟩ y = some (.c (.v (.int k b)))) (hd : Nat.blt d n = true) (h : X rest ⟨n, (d, (.c (.v (.bool (decide (a < b)))))) :: env, heap, nx, gl⟩) : X (⟨some d, .binOp .lss t x y t2, ty, pos, af, none⟩ :: rest) ⟨n, env, heap, nx, gl⟩ :=
  ao_lss (st := ⟨n, env, heap, nx, gl⟩) hx hy hd h
theorem r_leq [W : Walk P X] {x y : Operand} {t t2 : TypeId} {k : IntKind} {a b : Int} (hx : St.ev ⟨n, env, heap, nx, gl⟩ x = some (.c (.v (.int k a)))) (hy : St.ev ⟨n, env, heap, nx, gl⟩ y = some (.c (.v (.int k b)))) (hd : Nat.blt d n = true) (h : X rest ⟨n, (d, (.c (.v (.bool (decide (a ≤ b)))))) :: env, heap, nx, gl⟩) : X (⟨some d, .binOp .leq t x y t2, ty, pos, af, none⟩ :: rest) ⟨n, env, heap, nx, gl⟩ :=
  ao_leq (st := ⟨n, env, heap, nx, gl⟩) hx hy hd h
theorem r_gtr [W : Walk P X] {x y : Operand} {t t2 : TypeId} {k : IntKind} {a b : Int} (hx : St.ev ⟨n, env, heap, nx, gl⟩ x = some (.c (.v (.int k a)))) (hy : St.ev ⟨n, env, heap, nx, gl⟩ y = some (.c (.v (.int k b)))) (hd : Nat.blt d n = true) (h : X rest ⟨n, (d, (.c (.v (.bool (decide (a > b)))))) :: env, heap, nx, gl⟩) : X (⟨some d, .binOp .gtr t x y t2, ty, pos, af, none⟩ :: rest) ⟨n, env, heap, nx, gl⟩ :=
  ao_gtr (st := ⟨n, env, heap, nx, gl⟩) hx hy hd h
theorem r_geq [W : Walk P X] {x y : Operand} {t t2 : TypeId} {k : IntKind} {a b : Int} (hx : St.ev ⟨n, env, heap, nx, gl⟩ x = some (.c (.v (.int k a)))) (hy : St.ev ⟨n, env, heap, nx, gl⟩ y = some (.c (.v (.int k b)))) (hd : Nat.blt d n = true) (h : X rest ⟨n, (d, (.c (.v (.bool (decide (a ≥ b)))))) :: env, heap, nx, gl⟩) : X (⟨some d, .binOp .geq t x y t2, ty, pos, af, none⟩ :: rest) ⟨n, env, heap, nx, gl⟩ :=
  ao_geq (st := ⟨n, env, heap, nx, gl⟩) hx hy hd h
theorem r_eql [W : Walk P X] {x y : Operand} {t t2 : TypeId} {k : IntKind} {a b : Int} (hx : St.ev ⟨n, env, heap, nx, gl⟩ x = some (.c (.v (.int k a)))) (hy : St.ev ⟨n, env, heap, nx, gl⟩ y = some (.c (.v (.int k b)))) (hd : Nat.blt d n = true) (h : X rest ⟨n, (d, (.c (.v (.bool (decide (a = b)))))) :: env, heap, nx, gl⟩) : X (⟨some d, .binOp .eql t x y t2, ty, pos, af, none⟩ :: rest) ⟨n, env, heap, nx, gl⟩ :=
  ao_eql (st := ⟨n, env, heap, nx, gl⟩) hx hy hd h
theorem r_neq [W : Walk P X] {x y : Operand} {t t2 : TypeId} {k : IntKind} {a b : Int} (hx : St.ev ⟨n, env, heap, nx, gl⟩ x = some (.c (.v (.int k a)))) (hy : St.ev ⟨n, env, heap, nx, gl⟩ y = some (.c (.v (.int k b)))) (hd : Nat.blt d n = true) (h : X rest ⟨n, (d, (.c (.v (.bool (!decide (a = b)))))) :: env, heap, nx, gl⟩) : X (⟨some d, .binOp .neq t x y t2, ty, pos, af, none⟩ :: rest) ⟨n, env, heap, nx, gl⟩ :=
  ao_neq (st := ⟨n, env, heap, nx, gl⟩) hx hy hd h
theorem r_add [W : Walk P X] {x y : Operand} {t t2 : TypeId} {a b : Int} (hx : St.ev ⟨n, env, heap, nx, gl⟩ x = some (.c (.v (.int .i64 a)))) (hy : St.ev ⟨n, env, heap, nx, gl⟩ y = some (.c (.v (.int .i64 b)))) (hf : fits (a + b)) (hd : Nat.blt d n = true) (h : X rest ⟨n, (d, (.c (.v (.int .i64 (a + b))))) :: env, heap, nx, gl⟩) : X (⟨some d, .binOp .add t x y t2, ty, pos, af, none⟩ :: rest) ⟨n, env, heap, nx, gl⟩ :=
  ao_add (st := ⟨n, env, heap, nx, gl⟩) hx hy hf hd h
theorem r_sub [W : Walk P X] {x y : Operand} {t t2 : TypeId} {a b : Int} (hx : St.ev ⟨n, env, heap, nx, gl⟩ x = some (.c (.v (.int .i64 a)))) (hy : St.ev ⟨n, env, heap, nx, gl⟩ y = some (.c (.v (.int .i64 b)))) (hf : fits (a - b)) (hd : Nat.blt d n = true) (h : X rest ⟨n, (d, (.c (.v (.int .i64 (a - b))))) :: env, heap, nx, gl⟩) : X (⟨some d, .binOp .sub t x y t2, ty, pos, af, none⟩ :: rest) ⟨n, env, heap, nx, gl⟩ :=
  ao_sub (st := ⟨n, env, heap, nx, gl⟩) hx hy hf hd h
theorem r_sub_w [W : Walk P X] {x y : Operand} {t t2 : TypeId} {k : IntKind} {a b : Int} (hx : St.ev ⟨n, env, heap, nx, gl⟩ x = some (.c (.v (.int k a)))) (hy : St.ev ⟨n, env, heap, nx, gl⟩ y = some (.c (.v (.int k b)))) (hd : Nat.blt d n = true) (h : X rest ⟨n, (d, (.c (.v (.int k (k.wrap (a - b)))))) :: env, heap, nx, gl⟩) : X (⟨some d, .binOp .sub t x y t2, ty, pos, af, none⟩ :: rest) ⟨n, env, heap, nx, gl⟩ :=
  ao_sub_w (st := ⟨n, env, heap, nx, gl⟩) hx hy hd h
theorem r_mul [W : Walk P X] {x y : Operand} {t t2 : TypeId} {a b : Int} (hx : St.ev ⟨n, env, heap, nx, gl⟩ x = some (.c (.v (.int .i64 a)))) (hy : St.ev ⟨n, env, heap, nx, gl⟩ y = some (.c (.v (.int .i64 b)))) (hf : fits (a * b)) (hd : Nat.blt d n = true) (h : X rest ⟨n, (d, (.c (.v (.int .i64 (a * b))))) :: env, heap, nx, gl⟩) : X (⟨some d, .binOp .mul t x y t2, ty, pos, af, none⟩ :: rest) ⟨n, env, heap, nx, gl⟩ :=
  ao_mul (st := ⟨n, env, heap, nx, gl⟩) hx hy hf hd h
theorem r_mul_w [W : Walk P X] {x y : Operand} {t t2 : TypeId} {k : IntKind} {a b : Int} (hx : St.ev ⟨n, env, heap, nx, gl⟩ x = some (.c (.v (.int k a)))) (hy : St.ev ⟨n, env, heap, nx, gl⟩ y = some (.c (.v (.int k b)))) (hd : Nat.blt d n = true) (h : X rest ⟨n, (d, (.c (.v (.int k (k.wrap (a * b)))))) :: env, heap, nx, gl⟩) : X (⟨some d, .binOp .mul t x y t2, ty, pos, af, none⟩ :: rest) ⟨n, env, heap, nx, gl⟩ :=
  ao_mul_w (st := ⟨n, env, heap, nx, gl⟩) hx hy hd h
theorem r_quo [W : Walk P X] {x y : Operand} {t t2 : TypeId} {a b : Int} (hx : St.ev ⟨n, env, heap, nx, gl⟩ x = some (.c (.v (.int .i64 a)))) (hy : St.ev ⟨n, env, heap, nx, gl⟩ y = some (.c (.v (.int .i64 b)))) (h0 : b ≠ 0) (hf : fits (a.tdiv b)) (hd : Nat.blt d n = true) (h : X rest ⟨n, (d, (.c (.v (.int .i64 (a.tdiv b))))) :: env, heap, nx, gl⟩) : X (⟨some d, .binOp .quo t x y t2, ty, pos, af, none⟩ :: rest) ⟨n, env, heap, nx, gl⟩ :=
  ao_quo (st := ⟨n, env, heap, nx, gl⟩) hx hy h0 hf hd h
theorem r_rem [W : Walk P X] {x y : Operand} {t t2 : TypeId} {a b : Int} (hx : St.ev ⟨n, env, heap, nx, gl⟩ x = some (.c (.v (.int .i64 a)))) (hy : St.ev ⟨n, env, heap, nx, gl⟩ y = some (.c (.v (.int .i64 b)))) (h0 : b ≠ 0) (hd : Nat.blt d n = true) (h : X rest ⟨n, (d, (.c (.v (.int .i64 (a.tmod b))))) :: env, heap, nx, gl⟩) : X (⟨some d, .binOp .rem t x y t2, ty, pos, af, none⟩ :: rest) ⟨n, env, heap, nx, gl⟩ :=
  ao_rem (st := ⟨n, env, heap, nx, gl⟩) hx hy h0 hd h
theorem r_max [W : Walk P X] {x y : Operand} {ts : Array TypeId} {k : IntKind} {a b : Int} (hx : St.ev ⟨n, env, heap, nx, gl⟩ x = some (.c (.v (.int k a)))) (hy : St.ev ⟨n, env, heap, nx, gl⟩ y = some (.c (.v (.int k b)))) (hd : Nat.blt d n = true) (h : X rest ⟨n, (d, (.c (.v (.int k (max a b))))) :: env, heap, nx, gl⟩) : X (⟨some d, .call ⟨.builtin .max, #[x, y], ts⟩, ty, pos, af, none⟩ :: rest) ⟨n, env, heap, nx, gl⟩ :=
  ao_max (st := ⟨n, env, heap, nx, gl⟩) hx hy hd h
theorem r_min [W : Walk P X] {x y : Operand} {ts : Array TypeId} {k : IntKind} {a b : Int} (hx : St.ev ⟨n, env, heap, nx, gl⟩ x = some (.c (.v (.int k a)))) (hy : St.ev ⟨n, env, heap, nx, gl⟩ y = some (.c (.v (.int k b)))) (hd : Nat.blt d n = true) (h : X rest ⟨n, (d, (.c (.v (.int k (min a b))))) :: env, heap, nx, gl⟩) : X (⟨some d, .call ⟨.builtin .min, #[x, y], ts⟩, ty, pos, af, none⟩ :: rest) ⟨n, env, heap, nx, gl⟩ :=
  ao_min (st := ⟨n, env, heap, nx, gl⟩) hx hy hd h
theorem r_max3 [W : Walk P X] {x y z : Operand} {ts : Array TypeId} {k : IntKind} {a b c : Int} (hx : St.ev ⟨n, env, heap, nx, gl⟩ x = some (.c (.v (.int k a)))) (hy : St.ev ⟨n, env, heap, nx, gl⟩ y = some (.c (.v (.int k b)))) (hz : St.ev ⟨n, env, heap, nx, gl⟩ z = some (.c (.v (.int k c)))) (hd : Nat.blt d n = true) (h : X rest ⟨n, (d, (.c (.v (.int k (max (max a b) c))))) :: env, heap, nx, gl⟩) : X (⟨some d, .call ⟨.builtin .max, #[x, y, z], ts⟩, ty, pos, af, none⟩ :: rest) ⟨n, env, heap, nx, gl⟩ :=
  ao_max3 (st := ⟨n, env, heap, nx, gl⟩) hx hy hz hd h
theorem r_guard {dst : Option Tmp} {op : Op} {j t : Nat} {want b : Bool} (hj : (ops[j]?).bind (·.dst) = some t) (hb : look t env = some (.c (.v (.bool b)))) (hdst : dst = some d) (hd : Nat.blt d n = true) (h : b = want → AOps P ops Q (⟨dst, op, ty, pos, af, none⟩ :: rest) ⟨n, (t, (.c (.v (.bool want)))) :: env, heap, nx, gl⟩) (h' : b = !want → AOps P ops Q rest ⟨n, (d, (.c (.v undef))) :: (t, (.c (.v (.bool !want)))) :: env, heap, nx, gl⟩) : AOps P ops Q (⟨dst, op, ty, pos, af, some (j, want)⟩ :: rest) ⟨n, env, heap, nx, gl⟩ :=
  ao_guard (st := ⟨n, env, heap, nx, gl⟩) hj hb hdst hd h h'
theorem r_guard_none {dst : Option Tmp} {op : Op} {j t : Nat} {want : Bool} (hj : (ops[j]?).bind (·.dst) = some t) (hb : look t env = some (.c (.v undef))) (hdst : dst = some d) (hd : Nat.blt d n = true) (h : AOps P ops Q rest ⟨n, (d, (.c (.v undef))) :: env, heap, nx, gl⟩) : AOps P ops Q (⟨dst, op, ty, pos, af, some (j, want)⟩ :: rest) ⟨n, env, heap, nx, gl⟩ :=
  ao_guard_none (st := ⟨n, env, heap, nx, gl⟩) hj hb hdst hd h
theorem r_field_p [W : Walk P X] {x : Operand} {s i k b off : Nat} [I : FieldAt P s i k] (hx : St.ev ⟨n, env, heap, nx, gl⟩ x = some (.ptr b off)) (hd : Nat.blt d n = true) (h : X rest ⟨n, (d, (.ptr b (off + k))) :: env, heap, nx, gl⟩) : X (⟨some d, .fieldAddr s x i, ty, pos, af, none⟩ :: rest) ⟨n, env, heap, nx, gl⟩ :=
  ao_field_p (st := ⟨n, env, heap, nx, gl⟩) hx hd h
theorem r_field_e [W : Walk P X] {x : Operand} {s i k off : Nat} {xs : List CV} [I : FieldAt P s i k] (hx : St.ev ⟨n, env, heap, nx, gl⟩ x = some (.eptr xs off)) (hd : Nat.blt d n = true) (h : X rest ⟨n, (d, (.eptr xs (off + k))) :: env, heap, nx, gl⟩) : X (⟨some d, .fieldAddr s x i, ty, pos, af, none⟩ :: rest) ⟨n, env, heap, nx, gl⟩ :=
  ao_field_e (st := ⟨n, env, heap, nx, gl⟩) hx hd h
theorem r_load_p [W : Walk P X] {x : Operand} {t b off n' : Nat} {t' : TypeId} {l : List AV} {y : AV} [I : TyC P t false n'] (hx : St.ev ⟨n, env, heap, nx, gl⟩ x = some (.ptr b off)) (hH : St.H ⟨n, env, heap, nx, gl⟩ b = some (.cells t' l)) (hy : l[off]? = some y) (hd : Nat.blt d n = true) (h : X rest ⟨n, (d, y) :: env, heap, nx, gl⟩) : X (⟨some d, .load t x, ty, pos, af, none⟩ :: rest) ⟨n, env, heap, nx, gl⟩ :=
  ao_load_p (st := ⟨n, env, heap, nx, gl⟩) hx hH hy hd h
theorem r_load_pa [W : Walk P X] {x : Operand} {t b off n' : Nat} {t' : TypeId} {l : List AV} [I : TyC P t true n'] (ys : List AV) (hx : St.ev ⟨n, env, heap, nx, gl⟩ x = some (.ptr b off)) (hH : St.H ⟨n, env, heap, nx, gl⟩ b = some (.cells t' l)) (hy : (l.drop off).take n' = ys) (hn : ys.length = n') (hd : Nat.blt d n = true) (h : X rest ⟨n, (d, (.agg ys)) :: env, heap, nx, gl⟩) : X (⟨some d, .load t x, ty, pos, af, none⟩ :: rest) ⟨n, env, heap, nx, gl⟩ :=
  ao_load_pa (st := ⟨n, env, heap, nx, gl⟩) ys hx hH hy hn hd h
theorem r_load_ea [W : Walk P X] {x : Operand} {t off n' : Nat} {xs : List CV} (zs : List CV) {ys : List CV} [I : TyC P t true n'] (hx : St.ev ⟨n, env, heap, nx, gl⟩ x = some (.eptr xs off)) (hy : xs.drop off = zs ++ ys) (hn : zs.length = n') (hd : Nat.blt d n = true) (h : X rest ⟨n, (d, (.agg (zs.map .c))) :: env, heap, nx, gl⟩) : X (⟨some d, .load t x, ty, pos, af, none⟩ :: rest) ⟨n, env, heap, nx, gl⟩ :=
  ao_load_ea (st := ⟨n, env, heap, nx, gl⟩) zs hx hy hn hd h
theorem r_box_a {x : Operand} {t : TypeId} {ys : List AV} (hx : St.ev ⟨n, env, heap, nx, gl⟩ x = some (.agg ys)) (hd : Nat.blt d n = true) (h : AOps P ops Q rest ⟨n, (d, (.ptr nx 0)) :: env, (nx, some (.cells t ys)) :: heap, nx + 1, gl⟩) : AOps P ops Q (⟨some d, .box t x, ty, pos, af, none⟩ :: rest) ⟨n, env, heap, nx, gl⟩ :=
  ao_box_a (st := ⟨n, env, heap, nx, gl⟩) hx hd h
theorem r_alloc {t : TypeId} {zs : List Value} [I : ZeroT P t zs] (hd : Nat.blt d n = true) (h : AOps P ops Q rest ⟨n, (d, (.ptr nx 0)) :: env, (nx, some (.cells t (zs.map fun z => .c (.v z)))) :: heap, nx + 1, gl⟩) : AOps P ops Q (⟨some d, .alloc t, ty, pos, af, none⟩ :: rest) ⟨n, env, heap, nx, gl⟩ :=
  ao_alloc (st := ⟨n, env, heap, nx, gl⟩) hd h
theorem r_store_p {x z : Operand} {t n' b off : Nat} {ag : Bool} {t' : TypeId} {l : List AV} {y : AV} [I : TyC P t ag n'] (hx : St.ev ⟨n, env, heap, nx, gl⟩ x = some (.ptr b off)) (hz : St.ev ⟨n, env, heap, nx, gl⟩ z = some y) (hc : y.cellB = true) (h1 : n' = 1) (hH : St.H ⟨n, env, heap, nx, gl⟩ b = some (.cells t' l)) (hl : Nat.blt off l.length = true) (h : AOps P ops Q rest ⟨n, env, (b, some (.cells t' (l.set off y))) :: heap, nx, gl⟩) : AOps P ops Q (⟨none, .store t x z, ty, pos, af, none⟩ :: rest) ⟨n, env, heap, nx, gl⟩ :=
  ao_store_p (st := ⟨n, env, heap, nx, gl⟩) hx hz hc h1 hH hl h
theorem r_store_pa {x z : Operand} {t n' b off : Nat} {ag : Bool} {t' : TypeId} {l ys : List AV} [I : TyC P t ag n'] (hx : St.ev ⟨n, env, heap, nx, gl⟩ x = some (.ptr b off)) (hz : St.ev ⟨n, env, heap, nx, gl⟩ z = some (.agg ys)) (hc : ys.all AV.cellB = true) (h1 : ys.length = n') (hH : St.H ⟨n, env, heap, nx, gl⟩ b = some (.cells t' l)) (hl : Nat.ble (off + n') l.length = true) (h : AOps P ops Q rest ⟨n, env, (b, some (.cells t' (splice l ys off))) :: heap, nx, gl⟩) : AOps P ops Q (⟨none, .store t x z, ty, pos, af, none⟩ :: rest) ⟨n, env, heap, nx, gl⟩ :=
  ao_store_pa (st := ⟨n, env, heap, nx, gl⟩) hx hz hc h1 hH hl h
theorem r_call {X : List Oper → St → Prop} [W : Walk P X] {f : FuncId} {args : List Operand} {tys : Array TypeId} {ys : List AV} {zs : List CV} {r : CV} {y : AV} (hys : evs ⟨n, env, heap, nx, gl⟩ args = some ys) (hz0 : clF.clFL ys = some zs) (hcon : Con P gl f zs r) (hy : ofC r = y) (hd : Nat.blt d n = true) (h : X rest ⟨n, (d, y) :: env, heap, nx, gl⟩) : X (⟨some d, .call ⟨.value (.func f), args.toArray, tys⟩, ty, pos, af, none⟩ :: rest) ⟨n, env, heap, nx, gl⟩ :=
  ao_call (st := ⟨n, env, heap, nx, gl⟩) hys hz0 hcon hy hd h
theorem r_index_f [W : Walk P X] {α : Type} {enc : α → List CV} {x i : Operand} {t E size bytes : Nat} [I : SlT P t E size bytes] {l : List α} {kk : IntKind} {idx : Int} (k : Nat) (hx : St.ev ⟨n, env, heap, nx, gl⟩ x = some (.c (.lst size (l.flatMap enc)))) (J : EncL enc size) (hi : St.ev ⟨n, env, heap, nx, gl⟩ i = some (.c (.v (.int kk idx)))) (hk : idx = (k : Int)) (hlt : k < l.length) (hd : Nat.blt d n = true) (h : X rest ⟨n, (d, (.eptr (l.flatMap enc) (k * size))) :: env, heap, nx, gl⟩) : X (⟨some d, .indexAddr t x i, ty, pos, af, none⟩ :: rest) ⟨n, env, heap, nx, gl⟩ :=
  ao_index_f (st := ⟨n, env, heap, nx, gl⟩) k hx J hi hk hlt hd h
theorem r_load_f0 [W : Walk P X] {α : Type} {enc : α → List CV} {x : Operand} {t n' size k : Nat} {l : List α} {r : α} {y : CV} {ys : List CV} [I : TyC P t false n'] (hx : St.ev ⟨n, env, heap, nx, gl⟩ x = some (.eptr (l.flatMap enc) (k * size))) (J : EncL enc size) (hr : l[k]? = some r) (hy : enc r = y :: ys) (hd : Nat.blt d n = true) (h : X rest ⟨n, (d, (.c y)) :: env, heap, nx, gl⟩) : X (⟨some d, .load t x, ty, pos, af, none⟩ :: rest) ⟨n, env, heap, nx, gl⟩ :=
  ao_load_f0 (st := ⟨n, env, heap, nx, gl⟩) hx J hr hy hd h
theorem r_load_f [W : Walk P X] {α : Type} {enc : α → List CV} {x : Operand} {t n' size k j : Nat} {l : List α} {r : α} {y : CV} {ys : List CV} [I : TyC P t false n'] (hx : St.ev ⟨n, env, heap, nx, gl⟩ x = some (.eptr (l.flatMap enc) (k * size + j))) (J : EncL enc size) (hr : l[k]? = some r) (hj : Nat.ble j size = true) (hy : (enc r).drop j = y :: ys) (hd : Nat.blt d n = true) (h : X rest ⟨n, (d, (.c y)) :: env, heap, nx, gl⟩) : X (⟨some d, .load t x, ty, pos, af, none⟩ :: rest) ⟨n, env, heap, nx, gl⟩ :=
  ao_load_f (st := ⟨n, env, heap, nx, gl⟩) hx J hr hj hy hd h
theorem r_load_fa0 [W : Walk P X] {α : Type} {enc : α → List CV} {x : Operand} {t n' size k : Nat} {l : List α} {r : α} {zs : List AV} [I : TyC P t true n'] (hx : St.ev ⟨n, env, heap, nx, gl⟩ x = some (.eptr (l.flatMap enc) (k * size))) (J : EncL enc size) (hr : l[k]? = some r) (hn : Nat.beq n' size = true) (hz : (enc r).map .c = zs) (hd : Nat.blt d n = true) (h : X rest ⟨n, (d, (.agg zs)) :: env, heap, nx, gl⟩) : X (⟨some d, .load t x, ty, pos, af, none⟩ :: rest) ⟨n, env, heap, nx, gl⟩ :=
  ao_load_fa0 (st := ⟨n, env, heap, nx, gl⟩) hx J hr hn hz hd h
theorem r_load_fa [W : Walk P X] {α : Type} {enc : α → List CV} {x : Operand} {t n' size k j : Nat} {l : List α} {r : α} {zs : List AV} [I : TyC P t true n'] (hx : St.ev ⟨n, env, heap, nx, gl⟩ x = some (.eptr (l.flatMap enc) (k * size + j))) (J : EncL enc size) (hr : l[k]? = some r) (hj : Nat.ble (j + n') size = true) (hz : (((enc r).drop j).take n').map .c = zs) (hd : Nat.blt d n = true) (h : X rest ⟨n, (d, (.agg zs)) :: env, heap, nx, gl⟩) : X (⟨some d, .load t x, ty, pos, af, none⟩ :: rest) ⟨n, env, heap, nx, gl⟩ :=
  ao_load_fa (st := ⟨n, env, heap, nx, gl⟩) hx J hr hj hz hd h
theorem r_len_f [W : Walk P X] {α : Type} {enc : α → List CV} {x : Operand} {t E size bytes : Nat} [I : SlT P t E size bytes] {l : List α} (hx : St.ev ⟨n, env, heap, nx, gl⟩ x = some (.c (.lst size (l.flatMap enc)))) (J : EncL enc size) (hd : Nat.blt d n = true) (h : X rest ⟨n, (d, (.c (.v (.int .i64 (l.length : Int))))) :: env, heap, nx, gl⟩) : X (⟨some d, .call ⟨.builtin .len, #[x], #[t]⟩, ty, pos, af, none⟩ :: rest) ⟨n, env, heap, nx, gl⟩ :=
  ao_len_f (st := ⟨n, env, heap, nx, gl⟩) hx J hd h
theorem r_build [W : Walk P X] {t : TypeId} {parts : List (Nat × Operand)} {pl : List (Nat × Nat)} {zs : List Value} {ps : List (Nat × AV)} {out : List AV} [I : StrT P t pl zs] (hp : evp ⟨n, env, heap, nx, gl⟩ parts = some ps) (hf : fillA pl (zs.map fun z => .c (.v z)) ps = some out) (hd : Nat.blt d n = true) (h : X rest ⟨n, (d, (.agg out)) :: env, heap, nx, gl⟩) : X (⟨some d, .build t parts.toArray, ty, pos, af, none⟩ :: rest) ⟨n, env, heap, nx, gl⟩ :=
  ao_build (st := ⟨n, env, heap, nx, gl⟩) hp hf hd h
theorem r_fieldv_s [W : Walk P X] {x : Operand} {s i off n' : Nat} {xs : List AV} {y : AV} [I : FieldV P s i off false n'] (hx : St.ev ⟨n, env, heap, nx, gl⟩ x = some (.agg xs)) (hy : xs[off]? = some y) (hd : Nat.blt d n = true) (h : X rest ⟨n, (d, y) :: env, heap, nx, gl⟩) : X (⟨some d, .field s x i, ty, pos, af, none⟩ :: rest) ⟨n, env, heap, nx, gl⟩ :=
  ao_fieldv_s (st := ⟨n, env, heap, nx, gl⟩) hx hy hd h
theorem rd_guard {L : St → Prop} {rest : List Oper} {d : Nat} {op : Op} {ty : TypeId} {pos : String} {af : Array Edge} {j t : Nat} {want b : Bool} (hj : (ops[j]?).bind (·.dst) = some t) (hb : look t env = some (.c (.v (.bool b)))) (hd : Nat.blt d n = true) (h : b = want → DSeq P ops L (⟨some d, op, ty, pos, af, none⟩ :: rest) ⟨n, env, heap, nx, gl⟩) (h' : b = !want → DSeq P ops L rest ⟨n, (d, (.c (.v undef))) :: env, heap, nx, gl⟩) : DSeq P ops L (⟨some d, op, ty, pos, af, some (j, want)⟩ :: rest) ⟨n, env, heap, nx, gl⟩ :=
  ds_guard (st := ⟨n, env, heap, nx, gl⟩) hj hb hd h h'
theorem r_push {α : Type} {enc : α → List CV} {s x : Operand} {t E E2 size bytes b b2 n' : Nat} [I : SlT P t E size bytes] {l : List α} {ys : List CV} (x0 : α) (hs0 : St.ev ⟨n, env, heap, nx, gl⟩ s = some (.vec b n')) (hH : St.H ⟨n, env, heap, nx, gl⟩ b = some (.vec E size (l.flatMap enc))) (J : EncL enc size) (hn : l.length = n') (hx : St.ev ⟨n, env, heap, nx, gl⟩ x = some (.vec b2 1)) (hH2 : St.H ⟨n, env, heap, nx, gl⟩ b2 = some (.vec E2 size ys)) (hy : ys = enc x0) (hb1 : n' < 1000000000000) (hb2 : (n' + 1) * bytes ≤ 140737488355328) (hd : Nat.blt d n = true) (h : AOps P ops Q rest ⟨n, (d, (.vec b (n' + 1))) :: env, (b, some (.vec E size ((l ++ [x0]).flatMap enc))) :: heap, nx, gl⟩) : AOps P ops Q (⟨some d, .call ⟨.builtin .append, #[s, x], #[t, t]⟩, ty, pos, af, none⟩ :: rest) ⟨n, env, heap, nx, gl⟩ :=
  ao_push (st := ⟨n, env, heap, nx, gl⟩) x0 hs0 hH J hn hx hH2 hy hb1 hb2 hd h
theorem r_appendl {α : Type} {enc : α → List CV} {s x : Operand} {t E size bytes b n' : Nat} [I : SlT P t E size bytes] {l l2 : List α} (hs0 : St.ev ⟨n, env, heap, nx, gl⟩ s = some (.vec b n')) (hH : St.H ⟨n, env, heap, nx, gl⟩ b = some (.vec E size (l.flatMap enc))) (J : EncL enc size) (hn : l.length = n') (hx : St.ev ⟨n, env, heap, nx, gl⟩ x = some (.c (.lst size (l2.flatMap enc)))) (hb1 : n' + l2.length < 1000000000000) (hb2 : (n' + l2.length) * bytes ≤ 140737488355328) (hd : Nat.blt d n = true) (h : AOps P ops Q rest ⟨n, (d, (.vec b (n' + l2.length))) :: env, (b, some (.vec E size ((l ++ l2).flatMap enc))) :: heap, nx, gl⟩) : AOps P ops Q (⟨some d, .call ⟨.builtin .append, #[s, x], #[t, t]⟩, ty, pos, af, none⟩ :: rest) ⟨n, env, heap, nx, gl⟩ :=
  ao_appendl (st := ⟨n, env, heap, nx, gl⟩) hs0 hH J hn hx hb1 hb2 hd h
theorem r_lit {t E size bytes len : Nat} [I : SlT P t E size bytes] {parts : List (Nat × Operand)} {ps : List (Nat × AV)} {zs : List CV} (hp : evp ⟨n, env, heap, nx, gl⟩ parts = some ps) (hi : ps.map (·.1) = List.range len) (hz : lits (ps.map (·.2)) = some zs) (hb : litB size (ps.map (·.2)) = true) (hl : Nat.ble 1 len = true) (hs2 : Nat.ble (len * size) 100000 = true) (hd : Nat.blt d n = true) (h : AOps P ops Q rest ⟨n, (d, (.vec nx len)) :: env, (nx, some (.vec E size zs)) :: heap, nx + 1, gl⟩) : AOps P ops Q (⟨some d, .buildSlice t len parts.toArray, ty, pos, af, none⟩ :: rest) ⟨n, env, heap, nx, gl⟩ :=
  ao_lit (st := ⟨n, env, heap, nx, gl⟩) hp hi hz hb hl hs2 hd h
theorem r_lit0 {t E size bytes : Nat} [I : SlT P t E size bytes] (hd : Nat.blt d n = true) (h : AOps P ops Q rest ⟨n, (d, (.vec nx 0)) :: env, (nx, some (.vec E size [])) :: heap, nx + 1, gl⟩) : AOps P ops Q (⟨some d, .buildSlice t 0 #[], ty, pos, af, none⟩ :: rest) ⟨n, env, heap, nx, gl⟩ :=
  ao_lit0 (st := ⟨n, env, heap, nx, gl⟩) hd h
theorem r_make {α : Type} {enc : α → List CV} {t E size bytes : Nat} {zs : List Value} [I : SlT P t E size bytes] [Z : ZeroT P E zs] {x y : Operand} {k1 k2 : IntKind} {i1 i2 : Int} (z0 : α) (n' : Nat) (J : EncL enc size) (hz : enc z0 = zs.map .v) (hx : St.ev ⟨n, env, heap, nx, gl⟩ x = some (.c (.v (.int k1 i1)))) (hy : St.ev ⟨n, env, heap, nx, gl⟩ y = some (.c (.v (.int k2 i2)))) (h1 : i1 = (n' : Int)) (h2 : i2 = (n' : Int)) (hb1 : n' < 1000000000000) (hb2 : bytes * n' ≤ 281474976710656) (hd : Nat.blt d n = true) (h : AOps P ops Q rest ⟨n, (d, (.vec nx n')) :: env, (nx, some (.vec E size ((List.replicate n' z0).flatMap enc))) :: heap, nx + 1, gl⟩) : AOps P ops Q (⟨some d, .makeSlice t x y, ty, pos, af, none⟩ :: rest) ⟨n, env, heap, nx, gl⟩ :=
  ao_make (st := ⟨n, env, heap, nx, gl⟩) z0 n' J hz hx hy h1 h2 hb1 hb2 hd h
theorem r_store_v {α : Type} {enc : α → List CV} {x z : Operand} {t m b n' k E size : Nat} {ag : Bool} {l : List α} {y : AV} {ys : List CV} [I : TyC P t ag m] (x0 : α) (hx : St.ev ⟨n, env, heap, nx, gl⟩ x = some (.vptr b n' (k * size))) (hH : St.H ⟨n, env, heap, nx, gl⟩ b = some (.vec E size (l.flatMap enc))) (J : EncL enc size) (hn : l.length = n') (hk : k < l.length) (hz : St.ev ⟨n, env, heap, nx, gl⟩ z = some y) (hy : cvL y = some ys) (hm : ys.length = m) (hxe : enc x0 = ys) (h : AOps P ops Q rest ⟨n, env, (b, some (.vec E size ((l.set k x0).flatMap enc))) :: heap, nx, gl⟩) : AOps P ops Q (⟨none, .store t x z, ty, pos, af, none⟩ :: rest) ⟨n, env, heap, nx, gl⟩ :=
  ao_store_v (st := ⟨n, env, heap, nx, gl⟩) x0 hx hH J hn hk hz hy hm hxe h
theorem r_freeze {l : List Oper} (i : Nat) {b n' E size : Nat} {xs : List CV} (hi : look i env = some (.vec b n')) (hH : St.H ⟨n, env, heap, nx, gl⟩ b = some (.vec E size xs)) (hn : xs.length = n' * size) (h : AOps P ops Q l ⟨n, (i, (.c (.lst size xs))) :: env, (b, none) :: heap, nx, gl⟩) : AOps P ops Q l ⟨n, env, heap, nx, gl⟩ :=
  ao_freeze (st := ⟨n, env, heap, nx, gl⟩) i hi hH hn h
theorem r_callv {f : FuncId} {args : List Operand} {tys : Array TypeId} {ys : List AV} {zs : List CV} {r : CV} (hcon : Con P gl f zs r) (hys : evs ⟨n, env, heap, nx, gl⟩ args = some ys) (hz : cl.clL (St.H ⟨n, env, heap, nx, gl⟩) ys zs) (hr : r.plain = true) (hd : Nat.blt d n = true) (h : AOps P ops Q rest ⟨n, (d, (ofC r)) :: env, heap, nx, gl⟩) : AOps P ops Q (⟨some d, .call ⟨.value (.func f), args.toArray, tys⟩, ty, pos, af, none⟩ :: rest) ⟨n, env, heap, nx, gl⟩ :=
  ao_callv (st := ⟨n, env, heap, nx, gl⟩) hcon hys hz hr hd h
theorem r_eqs {X : List Oper → St → Prop} [W : Walk P X] {x y : Operand} {t t2 n' : Nat} {xs ys : List AV} {as bs : List Int} [I : EqInts P t n'] (hx : St.ev ⟨n, env, heap, nx, gl⟩ x = some (.agg xs)) (hy : St.ev ⟨n, env, heap, nx, gl⟩ y = some (.agg ys)) (ha : ints xs = some as) (hb : ints ys = some bs) (hn : as.length = n') (hn2 : bs.length = n') (hd : Nat.blt d n = true) (h : X rest ⟨n, (d, (.c (.v (.bool (decide (as = bs)))))) :: env, heap, nx, gl⟩) : X (⟨some d, .binOp .eql t x y t2, ty, pos, af, none⟩ :: rest) ⟨n, env, heap, nx, gl⟩ :=
  ao_eqs (st := ⟨n, env, heap, nx, gl⟩) hx hy ha hb hn hn2 hd h
theorem r_neqs {X : List Oper → St → Prop} [W : Walk P X] {x y : Operand} {t t2 n' : Nat} {xs ys : List AV} {as bs : List Int} [I : EqInts P t n'] (hx : St.ev ⟨n, env, heap, nx, gl⟩ x = some (.agg xs)) (hy : St.ev ⟨n, env, heap, nx, gl⟩ y = some (.agg ys)) (ha : ints xs = some as) (hb : ints ys = some bs) (hn : as.length = n') (hn2 : bs.length = n') (hd : Nat.blt d n = true) (h : X rest ⟨n, (d, (.c (.v (.bool (!decide (as = bs)))))) :: env, heap, nx, gl⟩) : X (⟨some d, .binOp .neq t x y t2, ty, pos, af, none⟩ :: rest) ⟨n, env, heap, nx, gl⟩ :=
  ao_neqs (st := ⟨n, env, heap, nx, gl⟩) hx hy ha hb hn hn2 hd h
theorem r_index_vf [W : Walk P X] {α : Type} {enc : α → List CV} {x i : Operand} {t E E2 size bytes b m : Nat} [I : SlT P t E size bytes] {l : List α} {kk : IntKind} {idx : Int} (k : Nat) (hx : St.ev ⟨n, env, heap, nx, gl⟩ x = some (.vec b m)) (hH : St.H ⟨n, env, heap, nx, gl⟩ b = some (.vec E2 size (l.flatMap enc))) (J : EncL enc size) (hn : l.length = m) (hi : St.ev ⟨n, env, heap, nx, gl⟩ i = some (.c (.v (.int kk idx)))) (hk : idx = (k : Int)) (hlt : k < m) (hd : Nat.blt d n = true) (h : X rest ⟨n, (d, (.vptr b m (k * size))) :: env, heap, nx, gl⟩) : X (⟨some d, .indexAddr t x i, ty, pos, af, none⟩ :: rest) ⟨n, env, heap, nx, gl⟩ :=
  ao_index_vf (st := ⟨n, env, heap, nx, gl⟩) k hx hH J hn hi hk hlt hd h
theorem r_load_vf0 [W : Walk P X] {α : Type} {enc : α → List CV} {x : Operand} {t b m q k E size : Nat} {l : List α} {r : α} {y : CV} {ys : List CV} [I : TyC P t false q] (hx : St.ev ⟨n, env, heap, nx, gl⟩ x = some (.vptr b m (k * size))) (hH : St.H ⟨n, env, heap, nx, gl⟩ b = some (.vec E size (l.flatMap enc))) (J : EncL enc size) (hn : l.length = m) (hr : l[k]? = some r) (hy : enc r = y :: ys) (hd : Nat.blt d n = true) (h : X rest ⟨n, (d, (.c y)) :: env, heap, nx, gl⟩) : X (⟨some d, .load t x, ty, pos, af, none⟩ :: rest) ⟨n, env, heap, nx, gl⟩ :=
  ao_load_vf0 (st := ⟨n, env, heap, nx, gl⟩) hx hH J hn hr hy hd h
theorem r_load_vfa0 [W : Walk P X] {α : Type} {enc : α → List CV} {x : Operand} {t b m q k E size : Nat} {l : List α} {r : α} {zs : List AV} [I : TyC P t true q] (hx : St.ev ⟨n, env, heap, nx, gl⟩ x = some (.vptr b m (k * size))) (hH : St.H ⟨n, env, heap, nx, gl⟩ b = some (.vec E size (l.flatMap enc))) (J : EncL enc size) (hn : l.length = m) (hr : l[k]? = some r) (hq : Nat.beq q size = true) (hz : (enc r).map .c = zs) (hd : Nat.blt d n = true) (h : X rest ⟨n, (d, (.agg zs)) :: env, heap, nx, gl⟩) : X (⟨some d, .load t x, ty, pos, af, none⟩ :: rest) ⟨n, env, heap, nx, gl⟩ :=
  ao_load_vfa0 (st := ⟨n, env, heap, nx, gl⟩) hx hH J hn hr hq hz hd h
theorem r_litq [W : Walk P X] {t E size bytes len : Nat} [I : SlT P t E size bytes] {parts : List (Nat × Operand)} {ps : List (Nat × AV)} {zs : List CV} (hp : evp ⟨n, env, heap, nx, gl⟩ parts = some ps) (hi : ps.map (·.1) = List.range len) (hz : lits (ps.map (·.2)) = some zs) (hb : litB size (ps.map (·.2)) = true) (hl : Nat.ble 1 len = true) (hs2 : Nat.ble (len * size) 100000 = true) (hd : Nat.blt d n = true) (h : X rest ⟨n, (d, (.c (.lst size zs))) :: env, heap, nx, gl⟩) : X (⟨some d, .buildSlice t len parts.toArray, ty, pos, af, none⟩ :: rest) ⟨n, env, heap, nx, gl⟩ :=
  ao_litq (st := ⟨n, env, heap, nx, gl⟩) hp hi hz hb hl hs2 hd h
theorem r_in {f : FuncId} {fn : Func} {c : Code} {t nt : Nat} {args : List Operand} {tys : Array TypeId} {ys : List AV} {env' : List (Nat × AV)} (hf : P.funcs[f]? = some fn) (hb : fn.body = some c) (hr : fn.results = #[.tmp t]) (hcall : callableB P f = true) (hnt : fn.ntmps = nt) (hys : evs ⟨n, env, heap, nx, gl⟩ args = some ys) (hn : Nat.ble ys.length nt = true) (he : argEnvA 0 ys = env') (hd : Nat.blt d n = true)
    (h : Awp P c (Back t gl (fun y heap nx => AOps P ops Q rest ⟨n, (d, y) :: env, heap, nx, gl⟩)) ⟨nt, env', heap, nx, gl⟩) : AOps P ops Q (⟨some d, .call ⟨.value (.func f), args.toArray, tys⟩, ty, pos, af, none⟩ :: rest) ⟨n, env, heap, nx, gl⟩ := by
  subst hnt; subst he
  exact ao_in (st := ⟨n, env, heap, nx, gl⟩) hf hb hr hcall hys hn hd h
theorem r_inW {f : FuncId} {fn : Func} {c : Code} {t nt : Nat} {args : List Operand} {tys : Array TypeId} {ys : List AV} {env' : List (Nat × AV)} (hf : P.funcs[f]? = some fn) (hb : fn.body = some c) (hr : fn.results = #[.tmp t]) (hcall : callableB P f = true) (hnt : fn.ntmps = nt) (hys : evs ⟨n, env, heap, nx, gl⟩ args = some ys) (hn : Nat.ble ys.length nt = true) (he : argEnvA 0 ys = env') (hd : Nat.blt d n = true)
    (h : Awp P c (Back t gl (fun y heap2 nx2 => ∃ heap', nx ≤ nx2 ∧ Fewer heap nx heap2 heap' ∧ AV.lt nx y = true ∧ AOps P ops Q rest ⟨n, (d, y) :: env, heap', nx, gl⟩)) ⟨nt, env', heap, nx, gl⟩) : AOps P ops Q (⟨some d, .call ⟨.value (.func f), args.toArray, tys⟩, ty, pos, af, none⟩ :: rest) ⟨n, env, heap, nx, gl⟩ := by
  subst hnt; subst he
  exact ao_inW (st := ⟨n, env, heap, nx, gl⟩) hf hb hr hcall hys hn hd h
end
end Go.Proofs.YtkhljpbkebnnmaaGreatDoor.Ev
/- More rules of a walk: a nil slice in a box, a list compared with nil. Nothing here names a program. -/
namespace Go.Proofs.YtkhljpbkebnnmaaGreatDoor.Ev
set_option linter.unusedVariables false
set_option linter.unusedSimpArgs false
open Go.RowKit
section
variable {P : Program} {ops : Array Oper} {Q : Exit → St → Prop} {rest : List Oper} {d : Nat} {ty : TypeId} {pos : String} {af : Array Edge} {n : Nat} {env : List (Nat × AV)} {heap : List (Nat × Option AB)} {nx : Nat} {gl : List (Nat × List CV)}
theorem aw_nilcell {c : Code} (b k E size : Nat) {t : TypeId} {l l' : List AV} (hH : St.H ⟨n, env, heap, nx, gl⟩ b = some (.cells t l)) (hk : l[k]? = some (.c (.v (.slice none 0 0)))) (hl' : l.set k (.vec nx 0) = l') (hpos : Nat.blt 0 size = true)
    (h : Awp P c Q ⟨n, env, (b, some (.cells t l')) :: (nx, some (.vec E size [])) :: heap, nx + 1, gl⟩) : Awp P c Q ⟨n, env, heap, nx, gl⟩ := by
  intro base w0 M a hs
  obtain ⟨M', m1, m2, m3, m4⟩ := hs.newNil E size (blt_true hpos)
  have hbn : b ≠ nx := by
    have := hs.heap.lt b (by rw [hs.H, hH]; simp)
    rw [hs.nx] at this
    exact Nat.ne_of_lt this
  have hH' : M'.H b = some (.cells t l) := by rw [m3.H, H_new, if_neg (Ne.symm hbn)]; exact hH
  have hnx : M'.H nx = some (.vec E size []) := by rw [m3.H, H_new, if_pos rfl]
  obtain ⟨g, arr, e1, e2, e3, e4, e5, e6⟩ := m3.heap.cells b t l hH'
  have hch := m3.change (b := b) (x := .cells t l') (c := M'.m b) (w' := M'.w) (by rw [hH']; simp) (fun _ _ _ => rfl) (Nat.le_refl _) rfl rfl rfl
    (fun k hk => by rw [e1] at hk; simp only [Conc.block, Option.some.injEq] at hk; omega) (fun k hk => Or.inl hk)
    (fun k hk => by rw [e1] at hk; simp only [Conc.block, Option.some.injEq] at hk; subst hk; exact e3) (fun g hg => hg)
    (fun E size l' hx => by cases hx)
    (fun M'' hext hw hF t2 l2 hx => by
      simp only [AB.cells.injEq] at hx
      obtain ⟨rfl, rfl⟩ := hx
      refine ⟨g, arr, e1, e2, by exact e4, by rw [← hl', List.length_set]; exact e5, fun i y u hy hu => ?_⟩
      rw [← hl', List.getElem?_set] at hy
      split at hy
      · rename_i hik
        subst hik
        split at hy
        · simp only [Option.some.injEq] at hy; subst hy
          have hu' := (e6 k _ u hk hu).bool
          subst hu'
          refine RA.mono hext (.vec (by rw [m3.nx]; exact Nat.lt_succ_self _) rfl (fun E' s' l'' hl => ?_))
          have hl2 : some (AB.vec E size []) = some (.vec E' s' l'') := by rw [← hnx]; exact hl
          simp only [Option.some.injEq, AB.vec.injEq] at hl2
          obtain ⟨rfl, rfl, rfl⟩ := hl2
          exact ⟨by simp, fun _ => by rw [← show M.nx = nx from hs.nx]; exact m2⟩
        · cases hy
      · exact (e6 i y u hy hu).mono hext)
    (fun E size l hx => by cases hx)
  have hgo := h base w0 _ a hch.1
  have hw : ((M'.set (St.new ⟨n, env, heap, nx, gl⟩ (.vec E size [])) b (.cells t l') (M'.m b) M'.w)).w = M.w := m1
  rw [hw] at hgo
  exact wp_mono hgo fun e a w => Lift.ext (m4.trans hch.2)
theorem r_callq {X : List Oper → St → Prop} [W : Walk P X] {f : FuncId} {args : List Operand} {tys : Array TypeId} {ys : List AV} {zs : List CV} {r : CV} (hcon : Con P gl f zs r) (hys : evs ⟨n, env, heap, nx, gl⟩ args = some ys) (hz : cl.clL (St.H ⟨n, env, heap, nx, gl⟩) ys zs) (hr : r.plain = true) (hd : Nat.blt d n = true)
    (h : X rest ⟨n, (d, (ofC r)) :: env, heap, nx, gl⟩) : X (⟨some d, .call ⟨.value (.func f), args.toArray, tys⟩, ty, pos, af, none⟩ :: rest) ⟨n, env, heap, nx, gl⟩ := by
  refine W.step (st := ⟨n, env, heap, nx, gl⟩) rfl rfl hd (fun base w0 M a hs K Q hK => ?_) h
  obtain ⟨e1, e2⟩ := evs_get hys
  obtain ⟨e3, e4⟩ := clL_get hz
  have hFm : ∀ b, M.F b → b < M.w.heap.size := hs.sim.heap.frz
  unfold Oper.wp
  rw [run_call hcon.1 a M.w]
  refine Calls.mono (hcon.2 M.w (fun b => b < M.w.heap.size) _ (fun b h => h) (fun g xs hg => ?_) (by simp; omega) (fun i x u hx hu => ?_)) (fun e w'' hR => ?_)
  · have := hs.sim.gl g xs hg
    generalize hq : Value.pointer (some ⟨g, 0, none⟩) = q at this ⊢
    cases this with
    | eptr cs hF hcell hr => exact .eptr cs (hFm _ hF) hcell (fun i x hi => (hr i x hi).mono (fun b hb => ⟨hFm b hb, rfl⟩))
  · have hi : i < args.length := by have := (List.getElem?_eq_some_iff.1 hx).1; omega
    obtain ⟨y, hy⟩ : ∃ y, ys[i]? = some y := ⟨_, List.getElem?_eq_getElem (by omega)⟩
    have hev := hs.ev (by simp [Op.operands, Call.operands]; exact Or.inr (List.getElem_mem hi)) (e2 i args[i] y (by simp [hi]) hy)
    have hu' : a.eval args[i] = u := by simpa [hi] using hu
    rw [hu'] at hev
    refine cl_rc hs.sim.heap (F' := fun b => b < M.w.heap.size) hFm (fun b E s l hb => ?_) hev (e4 i y x hy hx)
    have hb' := hs.sim.H b _ hb
    exact ⟨hb', fun g hg => conc_lt hs.sim.heap (by rw [hb']; simp) hg⟩
  · obtain ⟨v, rfl, hb, hrc⟩ := hR
    exact hK v (M.after w'') (Ext.after hb hs.sim.heap.frz) (fun s hs' => hs'.after hb) (RA.ofC (M := M.after w'') (hrc.plain hr))
theorem ao_eqnil {st : St} {x y : Operand} {t t2 E sz by' : Nat} [I : SlT P t E sz by'] {size : Nat} {xs : List CV} (hx : st.ev x = some (.c (.lst size xs))) (hy : st.ev y = some (.c (.v (.slice none 0 0)))) (hd : Nat.blt d st.n = true)
    (h : ∀ b : Bool, (xs ≠ [] → b = false) → AOps P ops Q rest (st.put d (.c (.v (.bool b))))) : AOps P ops Q (⟨some d, .binOp .eql t x y t2, ty, pos, af, none⟩ :: rest) st := by
  intro base w0 M a hs
  have key : ∃ b : Bool, (xs ≠ [] → b = false) ∧ (execOp a.eval ⟨some d, .binOp .eql t x y t2, ty, pos, af, none⟩).run P M.w = .ok (.value (.bool b)) M.w := by
    have hI := I.h
    have ht : P.underlying t = some (.slice E) := by
      unfold slB at hI
      split at hI
      · rename_i E' he
        split at hI
        · split at hI
          · simp only [Option.some.injEq, Prod.mk.injEq] at hI; rw [he, hI.1]
          · cases hI
        · cases hI
      · cases hI
    have h1 := hs.ev hx
    have h2 := (hs.ev hy).bool
    cases h1 with
    | c h1 =>
      generalize hv : a.eval x = v at h1
      simp only [execOp, hv, h2]
      cases h1 with
      | nil =>
        rename_i cap ad
        cases ad with
        | none => exact ⟨true, fun hh => absurd rfl hh, by simp [go_sem, eqGuard, Lib.run_eql_slice_nil M.w t E _ _ _ _ _ ht]⟩
        | some ad => exact ⟨false, fun _ => rfl, by simp [go_sem, eqGuard, Lib.run_eql_slice_nil M.w t E _ _ _ _ _ ht]⟩
      | lst cs hn hc hF hcell hr => exact ⟨false, fun _ => rfl, by simp [go_sem, eqGuard, Lib.run_eql_slice_nil M.w t E _ _ _ _ _ ht]⟩
  obtain ⟨b, hb, hrun⟩ := key
  exact wl_value rfl hrun (h b hb base w0 M _ (hs.put hd (.c (.v _))))
theorem r_eqnil {x y : Operand} {t t2 E sz by' : Nat} [I : SlT P t E sz by'] {size : Nat} {xs : List CV} (hx : St.ev ⟨n, env, heap, nx, gl⟩ x = some (.c (.lst size xs))) (hy : St.ev ⟨n, env, heap, nx, gl⟩ y = some (.c (.v (.slice none 0 0)))) (hd : Nat.blt d n = true)
    (h : ∀ b : Bool, (xs ≠ [] → b = false) → AOps P ops Q rest ⟨n, (d, (.c (.v (.bool b)))) :: env, heap, nx, gl⟩) : AOps P ops Q (⟨some d, .binOp .eql t x y t2, ty, pos, af, none⟩ :: rest) ⟨n, env, heap, nx, gl⟩ :=
  ao_eqnil (st := ⟨n, env, heap, nx, gl⟩) hx hy hd h
end
end Go.Proofs.YtkhljpbkebnnmaaGreatDoor.Ev
/- More rules of a walk: an empty literal, and what is appended to it, as quiet steps. Nothing here names a program. -/
namespace Go.Proofs.YtkhljpbkebnnmaaGreatDoor.Ev
set_option linter.unusedVariables false
set_option linter.unusedSimpArgs false
open Go.RowKit
section
variable {P : Program} {X : List Oper → St → Prop} {rest : List Oper} {d : Nat} {ty : TypeId} {pos : String} {af : Array Edge} {n : Nat} {env : List (Nat × AV)} {heap : List (Nat × Option AB)} {nx : Nat} {gl : List (Nat × List CV)}
theorem r_lit0q [W : Walk P X] {t E size bytes : Nat} [I : SlT P t E size bytes] (hd : Nat.blt d n = true) (h : X rest ⟨n, (d, .c .e0) :: env, heap, nx, gl⟩) : X (⟨some d, .buildSlice t 0 #[], ty, pos, af, none⟩ :: rest) ⟨n, env, heap, nx, gl⟩ := by
  refine W.step (st := ⟨n, env, heap, nx, gl⟩) rfl rfl hd (fun base w0 M a hs K Q hK => ?_) h
  obtain ⟨i, z, f1, f2, f3, f4, f5, f6⟩ := I.out
  have hrun : (execOp a.eval ⟨some d, .buildSlice t 0 #[], ty, pos, af, none⟩).run P M.w = .ok (.value (.slice (some ⟨M.w.heap.size, 0, none⟩) 0 0)) (M.w.alloc (.cells #[] E)) := by
    simp only [execOp]
    simp [Instr.buildSlice, run_underlying f1, sizeOf, typeInfo, f2, f4, Instr.fill, newRow]
    congr 1; simp [Array.range_zero']
  have hb : Below M.w.heap.size M.w (M.w.alloc (.cells #[] E)) := (Below.refl _ _).alloc (Nat.le_refl _) _
  unfold Oper.wp
  rw [hrun]
  exact hK _ (M.after _) (Ext.after hb hs.sim.heap.frz) (fun s hs' => hs'.after hb) (.c .e0)
theorem run_append_e0 {t E size bytes : Nat} (I : SlT P t E size bytes) (w : World) (a0 : Addr) (ad : Option Addr) (m cap : Nat) (hm : 0 < m) (hm2 : m ≤ maxLen) (hb : m * bytes ≤ 140737488355328) : (Builtin.append_ #[t, t] ty #[.slice (some a0) 0 0, .slice ad m cap]).run P w = (Builtin.append_ #[t, t] ty #[.slice none 0 0, .slice ad m cap]).run P w := by
  obtain ⟨i, z, h1, h2, h3, h4, h5, h6⟩ := I.out
  have hn : ¬ (0 + m ≤ 0) := by omega
  have hc : Builtin.nextslicecap m 0 = m := by unfold Builtin.nextslicecap; rw [if_pos (by omega)]
  have hb' : ¬ (m * i.bytes > 2 ^ 48) := by rw [h5]; omega
  have hx : ¬ ((m : Int) > IntKind.i64.max) := by
    unfold maxLen at hm2
    have : IntKind.i64.max = 9223372036854775807 := by decide
    omega
  simp [Builtin.append_, run_underlying h1, sizeOf, typeInfo, h2, Builtin.lenOf, Builtin.firstCells, loadCells, loadCellsFrom, hc, hb', hx, show m ≠ 0 by omega]
theorem r_append0q [W : Walk P X] {α : Type} {enc : α → List CV} {s x : Operand} {t E size bytes : Nat} [I : SlT P t E size bytes] {l2 : List α} (hs0 : St.ev ⟨n, env, heap, nx, gl⟩ s = some (.c .e0)) (hx : St.ev ⟨n, env, heap, nx, gl⟩ x = some (.c (.lst size (l2.flatMap enc)))) (J : EncL enc size) (hb1 : l2.length < 1000000000000) (hb2 : l2.length * bytes ≤ 140737488355328) (hd : Nat.blt d n = true)
    (h : X rest ⟨n, (d, .c (.lst size (l2.flatMap enc))) :: env, heap, nx, gl⟩) : X (⟨some d, .call ⟨.builtin .append, #[s, x], #[t, t]⟩, ty, pos, af, none⟩ :: rest) ⟨n, env, heap, nx, gl⟩ := by
  refine W.step (st := ⟨n, env, heap, nx, gl⟩) rfl rfl hd (fun base w0 M a hs K Q hK => ?_) h
  obtain ⟨i, z, f1, f2, f3, f4, f5, f6⟩ := I.out
  have hv := hs.ev (by simp [Op.operands, Call.operands]) hs0
  have hu := hs.ev (by simp [Op.operands, Call.operands]) hx
  generalize he : a.eval s = v at hv
  generalize hf : a.eval x = u at hu
  have hlen : (l2.flatMap enc).length = l2.length * size := flat_len J.len l2
  have hone := flat_one J l2
  generalize l2.flatMap enc = ys at *
  generalize l2.length = m at *
  cases hv with
  | c hv =>
  cases hv with
  | e0 =>
  rename_i ad0
  cases hu with
  | c hu =>
  cases hu with
  | nil =>
    rename_i cap ad
    have hrun : (Builtin.append_ #[t, t] ty #[.slice ad0 0 0, .slice ad 0 cap]).run P M.w = .ok (.slice ad0 0 0) M.w := by
      cases ad <;> cases ad0 <;> simp [Builtin.append_, run_underlying f1, sizeOf, typeInfo, f2, Builtin.lenOf, Builtin.firstCells, storeCells, loadCells, loadCellsFrom]
    unfold Oper.wp
    rw [ex_append he hf hrun]
    exact hK _ M (Ext.refl M) (fun _ h => h) (.c .nil)
  | lst cs hn' hc hF hcell hr =>
    rename_i blk off k cap
    have hnn : k = m := Nat.eq_of_mul_eq_mul_right I.pos (by rw [← hn', hlen])
    subst hnn
    by_cases hk : k = 0
    · subst hk
      have hys : ys = [] := List.eq_nil_of_length_eq_zero (by simpa using hlen)
      subst hys
      have hrun : (Builtin.append_ #[t, t] ty #[.slice ad0 0 0, .slice (some ⟨blk, off, none⟩) 0 cap]).run P M.w = .ok (.slice ad0 0 0) M.w := by
        cases ad0 <;> simp [Builtin.append_, run_underlying f1, sizeOf, typeInfo, f2, Builtin.lenOf, Builtin.firstCells, storeCells, loadCells, loadCellsFrom]
      unfold Oper.wp
      rw [ex_append he hf hrun]
      exact hK _ M (Ext.refl M) (fun _ h => h) (.c .nil)
    · let us : List Value := (List.range ys.length).map cs
      have hget : ∀ (i : Nat) (v : Value), us[i]? = some v → i < ys.length ∧ cs i = v := fun i v hv => by
        have hi : i < ys.length := by have := (List.getElem?_eq_some_iff.1 hv).1; simpa [us] using this
        exact ⟨hi, by simpa [us, hi] using hv⟩
      have hpair : ∀ (i : Nat) (z : CV) (v : Value), ys[i]? = some z → us[i]? = some v → RC M.F M.w z v := fun i z v hz hv => by
        rw [← (hget i v hv).2]; exact hr i z hz
      have hul : us.length = ys.length := by simp [us]
      have h1 := pair_one hul hone hpair
      have hML : k ≤ maxLen := by unfold maxLen; omega
      obtain ⟨v', w', g1, g2, g3, g4, g5⟩ := run_append_own_at (P := P) M.w M.w.heap.size t ty E i z size bytes f1 f2 f3 f4 f5 f6 I.pos (.slice none 0 0) 0 [] ⟨by simp, .inl ⟨rfl, rfl⟩⟩ ⟨blk, off, none⟩ k cap us (by rw [hul, hlen]) (fun j u hu => by
        obtain ⟨hj, e⟩ := hget j u hu
        rw [Kit.addr_add, hcell j ys[j] (by simp [hj]), e]) h1 (by omega) (by simpa using hb2) (Nat.le_refl _)
      have hrun : (Builtin.append_ #[t, t] ty #[.slice ad0 0 0, .slice (some ⟨blk, off, none⟩) k cap]).run P M.w = .ok v' w' := by
        cases ad0 with
        | none => exact g1
        | some a0 => rw [run_append_e0 I M.w a0 _ k cap (by omega) hML hb2]; exact g1
      have hb : Below M.w.heap.size M.w w' := ⟨g3.os, g3.tape, g3.output, g3.size, fun q hq => g3.block q hq (by simp [Value.ownBlock])⟩
      have hext := Ext.after hb hs.sim.heap.frz
      unfold Oper.wp
      rw [ex_append he hf hrun]
      refine hK _ (M.after w') hext (fun s hs' => hs'.after hb) (.c ?_)
      rw [Nat.zero_add, List.nil_append] at g2
      rcases g2.2 with ⟨rfl, h0⟩ | ⟨g, cap', cur, rfl, e1, e2, e3, e4⟩
      · exact absurd h0 hk
      · have hcl := World.ownsRow.cells g2 (g := g) rfl
        have hlt := (World.ownsRow.lt g2 g rfl).2
        refine .lst cs (by rw [hlen]) e3 (.inr ⟨e1, hlt⟩) (fun j x hj => ?_) (fun j x hj => (hr j x hj).mono hext.F)
        have hj' : j < ys.length := (List.getElem?_eq_some_iff.1 hj).1
        have := hcl j (cs j) (by simp [us, hj'])
        rw [Kit.addr_add] at this
        exact this
variable {ops : Array Oper} {Q : Exit → St → Prop}
theorem aw_freezecell {c : Code} (b0 k : Nat) {t : TypeId} {l l' : List AV} {b m E size : Nat} {xs : List CV} (hH0 : St.H ⟨n, env, heap, nx, gl⟩ b0 = some (.cells t l)) (hk : l[k]? = some (.vec b m)) (hH : St.H ⟨n, env, heap, nx, gl⟩ b = some (.vec E size xs)) (hn : xs.length = m * size) (hl' : l.set k (.c (.lst size xs)) = l')
    (h : Awp P c Q ⟨n, env, (b0, some (.cells t l')) :: (b, none) :: heap, nx, gl⟩) : Awp P c Q ⟨n, env, heap, nx, gl⟩ := by
  intro base w0 M a hs
  obtain ⟨M', h1, h2, h3, h4⟩ := hs.freeze hH
  have hbn : b0 ≠ b := by
    rintro rfl
    rw [hH] at hH0; cases hH0
  have hH' : M'.H b0 = some (.cells t l) := by
    rw [h2.H]
    show St.H ⟨n, env, (b, none) :: heap, nx, gl⟩ b0 = _
    unfold St.H at hH0 ⊢
    dsimp only at hH0 ⊢
    rw [look_cons, if_neg (Ne.symm hbn)]; exact hH0
  obtain ⟨g, arr, e1, e2, e3, e4, e5, e6⟩ := h2.heap.cells b0 t l hH'
  obtain ⟨g', arr', d1, d2, d3, d4, d5, d6⟩ := hs.heap.cells b0 t l (by rw [hs.H]; exact hH0)
  have hgg : g' = g := by
    have := h3.m b0 g' d1
    rw [e1] at this; cases this; rfl
  subst hgg
  have harr : arr' = arr := by rw [h1, d4] at e4; cases e4; rfl
  subst harr
  have hch := h2.change (b := b0) (x := .cells t l') (c := M'.m b0) (w' := M'.w) (by rw [hH']; simp) (fun _ _ _ => rfl) (Nat.le_refl _) rfl rfl rfl
    (fun k hk => by rw [e1] at hk; simp only [Conc.block, Option.some.injEq] at hk; omega) (fun k hk => Or.inl hk)
    (fun k hk => by rw [e1] at hk; simp only [Conc.block, Option.some.injEq] at hk; subst hk; exact e3) (fun g hg => hg)
    (fun E size l' hx => by cases hx)
    (fun M'' hext hw hF t2 l2 hx => by
      simp only [AB.cells.injEq] at hx
      obtain ⟨rfl, rfl⟩ := hx
      refine ⟨g', arr', e1, e2, by exact e4, by rw [← hl', List.length_set]; exact e5, fun i y u hy hu => ?_⟩
      rw [← hl', List.getElem?_set] at hy
      split at hy
      · rename_i hik
        subst hik
        split at hy
        · simp only [Option.some.injEq] at hy; subst hy
          exact RA.mono hext (.c (h4 m u hn (d6 k _ u hk hu)))
        · cases hy
      · exact (e6 i y u hy hu).mono hext)
    (fun E size l hx => by cases hx)
  have hgo := h base w0 _ a hch.1
  have hw : (M'.set (St.drop ⟨n, env, heap, nx, gl⟩ b) b0 (.cells t l') (M'.m b0) M'.w).w = M.w := h1
  rw [hw] at hgo
  exact wp_mono hgo fun e a w => Lift.ext (h3.trans hch.2)
end
end Go.Proofs.YtkhljpbkebnnmaaGreatDoor.Ev
/- More rules of a walk: conversions of integers, functions as values. Nothing here names a program. -/
namespace Go.Proofs.YtkhljpbkebnnmaaGreatDoor.Ev
set_option linter.unusedVariables false
set_option linter.unusedSimpArgs false
open Go.RowKit
class IntT (P : Program) (t : Nat) (k : outParam IntKind) : Prop where
  h : P.underlying t = some (.int k)
section
variable {P : Program} {ops : Array Oper} {Q : Exit → St → Prop} {X : List Oper → St → Prop} {rest : List Oper} {d : Nat} {ty : TypeId} {pos : String} {af : Array Edge} {n : Nat} {env : List (Nat × AV)} {heap : List (Nat × Option AB)} {nx : Nat} {gl : List (Nat × List CV)}
theorem r_conv [W : Walk P X] {x : Operand} {t t2 : Nat} {k1 k2 k : IntKind} {a b : Int} [I1 : IntT P t k1] [I2 : IntT P t2 k2] (hx : St.ev ⟨n, env, heap, nx, gl⟩ x = some (.c (.v (.int k a)))) (he : k2.wrap a = b) (hd : Nat.blt d n = true)
    (h : X rest ⟨n, (d, .c (.v (.int k2 b))) :: env, heap, nx, gl⟩) : X (⟨some d, .convert t t2 x, ty, pos, af, none⟩ :: rest) ⟨n, env, heap, nx, gl⟩ := by
  refine ao_val (st := ⟨n, env, heap, nx, gl⟩) rfl rfl hd (fun _ _ M e hs => ⟨.int k2 b, ?_, .c (.v _)⟩) h
  have hv := (hs.ev (by simp [Op.operands]) hx).bool
  simp only [execOp, hv]
  have hk : P.intKind t2 = k2 := by unfold Program.intKind; rw [I2.h]
  have := run_convert_int (P := P) M.w t t2 k a (by rw [I1.h]; rfl) (by rw [hk]; exact I2.h)
  rw [hk, he] at this
  rw [Sem.run_bind, this]; rfl
theorem r_makefn [W : Walk P X] {f : FuncId} {caps : List Operand} {ys : List AV} (hys : evs ⟨n, env, heap, nx, gl⟩ caps = some ys) (hd : Nat.blt d n = true)
    (h : X rest ⟨n, (d, .fn f ys) :: env, heap, nx, gl⟩) : X (⟨some d, .makeFunc (.func f) #[] caps.toArray, ty, pos, af, none⟩ :: rest) ⟨n, env, heap, nx, gl⟩ := by
  refine ao_val (st := ⟨n, env, heap, nx, gl⟩) rfl rfl hd (fun _ _ M e hs => ⟨.func (.func f) #[] (caps.map e.eval).toArray, ?_, ?_⟩) h
  · simp [execOp, Instr.makeFunc]
  · obtain ⟨e1, e2⟩ := evs_get hys
    refine .fn (by simp; omega) (fun i x u hx hu => ?_)
    have hi : i < caps.length := by have := (List.getElem?_eq_some_iff.1 hx).1; omega
    have : u = e.eval caps[i] := by simpa [hi] using hu.symm
    subst this
    exact hs.ev (by simp [Op.operands]) (e2 i caps[i] x (by simp [hi]) hx)
theorem run_callf {f : FuncId} {c : Operand} {args : List Operand} {tys : Array TypeId} {dst : Option Tmp} {vs : Array Value} (hc : callableB P f = true) (a : Act) (w : World) (hv : a.eval c = .func (.func f) #[] vs) :
    (execOp a.eval ⟨dst, .call ⟨.value c, args.toArray, tys⟩, ty, pos, af, none⟩).run P w = .ok (.enter f ((args.map a.eval).toArray ++ vs)) w := by
  unfold callableB at hc
  split at hc
  · rename_i fn hf
    simp only [Bool.and_eq_true, Bool.not_eq_true'] at hc
    obtain ⟨h1, h2⟩ := hc
    cases hb : fn.body with
    | none => rw [hb] at h2; cases h2
    | some c =>
      simp only [execOp, resolve, hv, Deferred.ofValue]
      have h1' : ¬ fn.name = "runtime.NumGoroutine" := by simpa using h1
      simp [invoke, callFunc, hf, h1', hb]
  · cases hc
theorem r_field_e2 [W : Walk P X] {x : Operand} {s i k o j : Nat} {xs : List CV} [I : FieldAt P s i k] (hx : St.ev ⟨n, env, heap, nx, gl⟩ x = some (.eptr xs (o + j))) (hd : Nat.blt d n = true) (h : X rest ⟨n, (d, (.eptr xs (o + (j + k)))) :: env, heap, nx, gl⟩) : X (⟨some d, .fieldAddr s x i, ty, pos, af, none⟩ :: rest) ⟨n, env, heap, nx, gl⟩ :=
  r_field_e hx hd (by rw [Nat.add_assoc]; exact h)
theorem slice_core [W : Walk P X] {α : Type} {enc : α → List CV} {x : Operand} {op : Op} {size : Nat} {l : List α} (lo hi : Nat) (hop : x ∈ op.operands) (hx : St.ev ⟨n, env, heap, nx, gl⟩ x = some (.c (.lst size (l.flatMap enc)))) (J : EncL enc size) (hlo : lo ≤ hi) (hhi : hi ≤ l.length) (hd : Nat.blt d n = true)
    (hrun : ∀ base w0 M a, SimO base w0 ⟨n, env, heap, nx, gl⟩ ⟨some d, op, ty, pos, af, none⟩ M a → ∀ (ad : Option Addr) (n cap : Nat), n ≤ cap → n = l.length → a.eval x = .slice ad n cap → (execOp a.eval ⟨some d, op, ty, pos, af, none⟩).run P M.w = .ok (.value (.slice (if cap = lo then ad else ad.map (·.add (lo * size))) (hi - lo) (cap - lo))) M.w)
    (h : X rest ⟨n, (d, (.c (.lst size (((l.take hi).drop lo).flatMap enc)))) :: env, heap, nx, gl⟩) : X (⟨some d, op, ty, pos, af, none⟩ :: rest) ⟨n, env, heap, nx, gl⟩ := by
  refine ao_val (st := ⟨n, env, heap, nx, gl⟩) rfl rfl hd (fun base w0 M a hs => ?_) h
  have hv := hs.ev hop hx
  generalize hxs : l.flatMap enc = xs at hv
  have hlen := flat_len J.len l
  rw [hxs] at hlen
  have hrun := hrun base w0 M a hs
  generalize he : a.eval x = u at hv hrun
  have hsub : ∀ (j : Nat) (y : CV), (((l.take hi).drop lo).flatMap enc)[j]? = some y → xs[lo * size + j]? = some y := by
    intro j y hy
    rw [← flat_drop J.len, ← flat_take J.len, hxs, List.getElem?_drop] at hy
    have : lo * size + j < hi * size := by
      have := (List.getElem?_eq_some_iff.1 hy).1
      simp only [List.length_take] at this; omega
    rwa [List.getElem?_take_of_lt this] at hy
  have hslen : (((l.take hi).drop lo).flatMap enc).length = (hi - lo) * size := by
    rw [flat_len J.len]; simp only [List.length_drop, List.length_take]; rw [Nat.min_eq_left hhi]
  cases hv with
  | c hv =>
    cases hv with
    | nil =>
      rename_i cap ad
      have h0 : l.length = 0 := by
        simp only [List.length_nil] at hlen
        rcases Nat.mul_eq_zero.1 hlen.symm with h | h
        · exact h
        · exact absurd h (by have := J.pos; omega)
      refine ⟨_, hrun ad 0 cap (Nat.zero_le _) h0.symm rfl, ?_⟩
      have hl0 : l = [] := List.eq_nil_of_length_eq_zero h0
      subst hl0
      have : hi - lo = 0 := by simp at hhi; omega
      rw [this]
      simp only [List.take_nil, List.drop_nil, List.flatMap_nil]
      exact .c .nil
    | lst cs hn hc hF hcell hr =>
      rename_i blk off n cap
      have hnl : n = l.length := Nat.eq_of_mul_eq_mul_right J.pos (by rw [← hn, hlen])
      refine ⟨_, hrun _ n cap hc hnl rfl, ?_⟩
      have hadd : (Addr.add ⟨blk, off, none⟩ (lo * size)) = ⟨blk, off + lo * size, none⟩ := Kit.addr_add _ _ _
      by_cases hcl : cap = lo
      · have : hi - lo = 0 := by omega
        have hnil : ((l.take hi).drop lo).flatMap enc = [] := List.eq_nil_of_length_eq_zero (by rw [hslen, this]; simp)
        rw [hnil, this]
        exact .c .nil
      · rw [if_neg hcl]
        simp only [Option.map_some, hadd]
        refine .c (.lst (fun j => cs (lo * size + j)) hslen (by omega) hF (fun j y hy => ?_) (fun j y hy => hr _ y (hsub j y hy)))
        have := hcell _ y (hsub j y hy)
        rw [Nat.add_assoc]; exact this
theorem r_slice_hi [W : Walk P X] {α : Type} {enc : α → List CV} {x q : Operand} {t E size bytes : Nat} [I : SlT P t E size bytes] {l : List α} {k2 : IntKind} {i2 : Int} (hi : Nat) (hx : St.ev ⟨n, env, heap, nx, gl⟩ x = some (.c (.lst size (l.flatMap enc)))) (J : EncL enc size) (hq : St.ev ⟨n, env, heap, nx, gl⟩ q = some (.c (.v (.int k2 i2)))) (h2 : i2 = (hi : Int)) (hhi : hi ≤ l.length) (hd : Nat.blt d n = true) (h : X rest ⟨n, (d, (.c (.lst size ((l.take hi).flatMap enc)))) :: env, heap, nx, gl⟩) : X (⟨some d, .slice t x none (some q) none, ty, pos, af, none⟩ :: rest) ⟨n, env, heap, nx, gl⟩ := by
  obtain ⟨i, z, f1, f2, f3, f4, f5, f6⟩ := I.out
  subst h2
  refine slice_core (op := .slice t x none (some q) none) 0 hi (by simp [Op.operands]) hx J (Nat.zero_le _) hhi hd (fun base w0 M a hs ad n' cap hc hn hu => ?_) (by rw [List.drop_zero]; exact h)
  have e2 := (hs.ev (by simp [Op.operands]) hq).bool
  simp only [execOp, hu, Option.map_some, e2]
  simp [Instr.sliceAt, run_underlying f1, Instr.slice, Instr.sliceBounds, Instr.sliceBound, asIntOf, sizeOf, typeInfo, f2, f4, show hi ≤ cap by omega]
end
end Go.Proofs.YtkhljpbkebnnmaaGreatDoor.Ev
/- Rules of a walk: regions that draw their order and make two boxes. Nothing here names a program. -/
namespace Go.Proofs.YtkhljpbkebnnmaaGreatDoor.Ev
set_option linter.unusedVariables false
set_option linter.unusedSimpArgs false
open Go.RowKit
section
variable {P : Program} {ops : Array Oper} {md : Region.Mode} {n : Nat} {L : Array Bool → St → Prop}
def two (da db : Nat) (xa xb : AB) (s : St) : St := (((s.new xa).put da (.ptr s.nx 0)).new xb).put db (.ptr (s.nx + 1) 0)
end
end Go.Proofs.YtkhljpbkebnnmaaGreatDoor.Ev
/- Rules of a walk: regions that draw their order, walked in an order that is given, with up to two boxes. Nothing here names a program. -/
namespace Go.Proofs.YtkhljpbkebnnmaaGreatDoor.Ev
set_option linter.unusedVariables false
set_option linter.unusedSimpArgs false
open Go.RowKit
section
variable {P : Program} {ops : Array Oper} {md : Region.Mode} {n : Nat}
def ordB (md : Region.Mode) (ops : Array Oper) (fin : Array Bool → Bool) : List Nat → Array Bool → Bool
  | [], listed => fin listed
  | i :: is, listed => (Region.ready md ops listed).contains i && Region.free md ops listed i && ordB md ops fin is (listed.setIfInBounds i true)
def pk : List Oper → List Nat → List Oper
  | _, [] => []
  | l, i :: is => match l.drop i with
    | o :: _ => o :: pk l is
    | [] => pk l is
theorem pk_cons {l : List Oper} {i : Nat} {is : List Nat} {o : Oper} (h : l[i]? = some o) : pk l (i :: is) = o :: pk l is := by
  have hi := (List.getElem?_eq_some_iff.1 h)
  obtain ⟨hi, he⟩ := hi
  show (match l.drop i with | o :: _ => o :: pk l is | [] => pk l is) = _
  rw [List.drop_eq_getElem_cons hi, he]
end
end Go.Proofs.YtkhljpbkebnnmaaGreatDoor.Ev
/- Rules of a walk: small regions that draw their order, each order walked. Nothing here names a program. -/
namespace Go.Proofs.YtkhljpbkebnnmaaGreatDoor.Ev
set_option linter.unusedVariables false
set_option linter.unusedSimpArgs false
open Go.RowKit
section
variable {P : Program} {ops : Array Oper}
theorem upon_mono2 {o : Oper} {a : Act} {K K' : Act → World → Prop} {Q Q' : Exit → Act → World → Prop} (hk : ∀ a w, K a w → K' a w) (hq : ∀ e a w, e ≠ .normal → Q e a w → Q' e a w) {r : Result Next} (h : o.upon P a K Q r) : o.upon P a K' Q' r := by
  cases r with
  | ok n w' =>
    cases n <;> simp only [Oper.upon] at h ⊢ <;>
      first
        | exact hk _ _ h
        | exact Calls.mono h (fun e w'' he => by cases e <;> first | exact hk _ _ he | exact hq _ _ _ (by intro h; cases h) he | exact (he.elim fun a h => h.elim fun w h => ⟨a, w, hq _ _ _ (by intro h; cases h) h⟩))
        | exact Rows.mono h (fun _ _ he => hk _ _ he)
  | halt x w' => cases x <;> simp only [Oper.upon] at h ⊢ <;> exact hq _ _ _ (by intro h; cases h) h
def only (K : St → Prop) : Exit → St → Prop
  | .normal, st => K st
  | _, _ => False
theorem only_normal {K : St → Prop} {st : St} (h : K st) : only K .normal st := h
end
end Go.Proofs.YtkhljpbkebnnmaaGreatDoor.Ev
