/- EvR Ev16 Ev17 Ev18 Ev19 Ev22 Ev20 Ev23 Ev24 Ev25 Ev26 Ev27 Ev28 Ev29 Ev30 Ev31 Ev32 Ev33 Ev34 Ev35 Ev36: texts laid together. -/
import Derived.Test.YtdndfncpglfdeaaMrgE2
import Derived.WalkSpells
import Derived.Laws.Concat
import Derived.Laws.Strings2
import Derived.Laws.Strings3
import Derived.Laws.IdiomStrings
import Derived.Laws.Build
import Derived.Laws.Slices
/- The rules of a walk, over states that are written out. Nothing here names a program. -/
namespace Go.Proofs.Ytdndfncpglfdeaa.Ev
set_option linter.unusedVariables false
set_option linter.unusedSimpArgs false
open Go.RowKit
section
variable {P : Program} {ops : Array Oper} {Q : Exit → St → Prop} {X : List Oper → St → Prop} {rest : List Oper} {d : Nat} {ty : TypeId} {pos : String} {af : Array Edge} {n : Nat} {env : List (Nat × AV)} {heap : List (Nat × Option AB)} {nx : Nat} {gl : List (Nat × List CV)}
theorem r_move [W : Walk P X] {x : Operand} {y : AV} (hx : St.ev ⟨n, env, heap, nx, gl⟩ x = some y) (hd : Nat.blt d n = true) (h : X rest ⟨n, (d, y) :: env, heap, nx, gl⟩) : X (⟨some d, .move x, ty, pos, af, none⟩ :: rest) ⟨n, env, heap, nx, gl⟩ :=
  ao_move (st := ⟨n, env, heap, nx, gl⟩) hx hd h
theorem r_assign [W : Walk P X] {x : Operand} {y : AV} (hx : St.ev ⟨n, env, heap, nx, gl⟩ x = some y) (hd : Nat.blt d n = true) (h : X rest ⟨n, (d, y) :: env, heap, nx, gl⟩) : X (⟨some d, .assign x, ty, pos, af, none⟩ :: rest) ⟨n, env, heap, nx, gl⟩ :=
  ao_assign (st := ⟨n, env, heap, nx, gl⟩) hx hd h
theorem r_pick_t [W : Walk P X] {c x y : Operand} {z : AV} (hc : St.ev ⟨n, env, heap, nx, gl⟩ c = some (.c (.v (.bool true)))) (hx : St.ev ⟨n, env, heap, nx, gl⟩ x = some z) (hd : Nat.blt d n = true) (h : X rest ⟨n, (d, z) :: env, heap, nx, gl⟩) : X (⟨some d, .pick c x y, ty, pos, af, none⟩ :: rest) ⟨n, env, heap, nx, gl⟩ :=
  ao_pick_t (st := ⟨n, env, heap, nx, gl⟩) hc hx hd h
theorem r_pick_f [W : Walk P X] {c x y : Operand} {z : AV} (hc : St.ev ⟨n, env, heap, nx, gl⟩ c = some (.c (.v (.bool false)))) (hy : St.ev ⟨n, env, heap, nx, gl⟩ y = some z) (hd : Nat.blt d n = true) (h : X rest ⟨n, (d, z) :: env, heap, nx, gl⟩) : X (⟨some d, .pick c x y, ty, pos, af, none⟩ :: rest) ⟨n, env, heap, nx, gl⟩ :=
  ao_pick_f (st := ⟨n, env, heap, nx, gl⟩) hc hy hd h
theorem r_not [W : Walk P X] {x : Operand} {t : TypeId} {b : Bool} (hx : St.ev ⟨n, env, heap, nx, gl⟩ x = some (.c (.v (.bool b)))) (hd : Nat.blt d n = true) (h : X rest ⟨n, (d, (.c (.v (.bool !b)))) :: env, heap, nx, gl⟩) : X (⟨some d, .unOp .not t x, ty, pos, af, none⟩ :: rest) ⟨n, env, heap, nx, gl⟩ :=
  ao_not (st := ⟨n, env, heap, nx, gl⟩) hx hd h
theorem r_extract [W : Walk P X] {x : Operand} {i : Nat} {xs : List AV} {y : AV} (hx : St.ev ⟨n, env, heap, nx, gl⟩ x = some (.tup xs)) (hi : xs[i]? = some y) (hd : Nat.blt d n = true) (h : X rest ⟨n, (d, y) :: env, heap, nx, gl⟩) : X (⟨some d, .extract x i, ty, pos, af, none⟩ :: rest) ⟨n, env, heap, nx, gl⟩ :=
  ao_extract (st := ⟨n, env, heap, nx, gl⟩) hx hi hd h
theorem r_lss [W : Walk P X] {x y : Operand} {t t2 : TypeId} {k : IntKind} {a b : Int} (hx : St.ev ⟨n, env, heap, nx, gl⟩ x = some (.c (.v (.int k a)))) (hy : St.ev ⟨n, env, heap, nx, gl⟩ y = some (.c (.v (.int k b)))) (hd : Nat.blt d n = true) (h : X rest ⟨n, (d, (.c (.v (.bool (decide (a < b)))))) :: env, heap, nx, gl⟩) : X (⟨some d, .binOp .lss t x y t2, ty, pos, af, none⟩ :: rest) ⟨n, env, heap, nx, gl⟩ :=
  ao_lss (st := ⟨n, env, heap, nx, gl⟩) hx hy hd h
theorem r_leq [W : Walk P X] {x y : Operand} {t t2 : TypeId} {k : IntKind} {a b : Int} (hx : St.ev ⟨n, env, heap, nx, gl⟩ x = some (.c (.v (.int k a)))) (hy : St.ev ⟨n, env, heap, nx, gl⟩ y = some (.c (.v (.int k b)))) (hd : Nat.blt d n = true) (h : X rest ⟨n, (d, (.c (.v (.bool (decide (a ≤ b)))))) :: env, heap, nx, gl⟩) : X (⟨some d, .binOp .leq t x y t2, ty, pos, af, none⟩ :: rest) ⟨n, env, heap, nx, gl⟩ :=
  ao_leq (st := ⟨n, env, heap, nx, gl⟩) hx hy hd h
theorem r_gtr [W : Walk P X] {x y : Operand} {t t2 : TypeId} {k : IntKind} {a b : Int} (hx : St.ev ⟨n, env, heap, nx, gl⟩ x = some (.c (.v (.int k a)))) (hy : St.ev ⟨n, env, heap, nx, gl⟩ y = some (.c (.v (.int k b)))) (hd : Nat.blt d n = true) (h : X rest ⟨n, (d, (.c (.v (.bool (decide (a > b)))))) :: env, heap, nx, gl⟩) : X (⟨some d, .binOp .gtr t x y t2, ty, pos, af, none⟩ :: rest) ⟨n, env, heap, nx, gl⟩ :=
  ao_gtr (st := ⟨n, env, heap, nx, gl⟩) hx hy hd h
theorem r_geq [W : Walk P X] {x y : Operand} {t t2 : TypeId} {k : IntKind} {a b : Int} (hx : St.ev ⟨n, env, heap, nx, gl⟩ x = some (.c (.v (.int k a)))) (hy : St.ev ⟨n, env, heap, nx, gl⟩ y = some (.c (.v (.int k b)))) (hd : Nat.blt d n = true) (h : X rest ⟨n, (d, (.c (.v (.bool (decide (a ≥ b)))))) :: env, heap, nx, gl⟩) : X (⟨some d, .binOp .geq t x y t2, ty, pos, af, none⟩ :: rest) ⟨n, env, heap, nx, gl⟩ :=
  ao_geq (st := ⟨n, env, heap, nx, gl⟩) hx hy hd h
theorem r_eql [W : Walk P X] {x y : Operand} {t t2 : TypeId} {k : IntKind} {a b : Int} (hx : St.ev ⟨n, env, heap, nx, gl⟩ x = some (.c (.v (.int k a)))) (hy : St.ev ⟨n, env, heap, nx, gl⟩ y = some (.c (.v (.int k b)))) (hd : Nat.blt d n = true) (h : X rest ⟨n, (d, (.c (.v (.bool (decide (a = b)))))) :: env, heap, nx, gl⟩) : X (⟨some d, .binOp .eql t x y t2, ty, pos, af, none⟩ :: rest) ⟨n, env, heap, nx, gl⟩ :=
  ao_eql (st := ⟨n, env, heap, nx, gl⟩) hx hy hd h
theorem r_neq [W : Walk P X] {x y : Operand} {t t2 : TypeId} {k : IntKind} {a b : Int} (hx : St.ev ⟨n, env, heap, nx, gl⟩ x = some (.c (.v (.int k a)))) (hy : St.ev ⟨n, env, heap, nx, gl⟩ y = some (.c (.v (.int k b)))) (hd : Nat.blt d n = true) (h : X rest ⟨n, (d, (.c (.v (.bool (!decide (a = b)))))) :: env, heap, nx, gl⟩) : X (⟨some d, .binOp .neq t x y t2, ty, pos, af, none⟩ :: rest) ⟨n, env, heap, nx, gl⟩ :=
  ao_neq (st := ⟨n, env, heap, nx, gl⟩) hx hy hd h
theorem r_add [W : Walk P X] {x y : Operand} {t t2 : TypeId} {a b : Int} (hx : St.ev ⟨n, env, heap, nx, gl⟩ x = some (.c (.v (.int .i64 a)))) (hy : St.ev ⟨n, env, heap, nx, gl⟩ y = some (.c (.v (.int .i64 b)))) (hf : fits (a + b)) (hd : Nat.blt d n = true) (h : X rest ⟨n, (d, (.c (.v (.int .i64 (a + b))))) :: env, heap, nx, gl⟩) : X (⟨some d, .binOp .add t x y t2, ty, pos, af, none⟩ :: rest) ⟨n, env, heap, nx, gl⟩ :=
  ao_add (st := ⟨n, env, heap, nx, gl⟩) hx hy hf hd h
theorem r_sub [W : Walk P X] {x y : Operand} {t t2 : TypeId} {a b : Int} (hx : St.ev ⟨n, env, heap, nx, gl⟩ x = some (.c (.v (.int .i64 a)))) (hy : St.ev ⟨n, env, heap, nx, gl⟩ y = some (.c (.v (.int .i64 b)))) (hf : fits (a - b)) (hd : Nat.blt d n = true) (h : X rest ⟨n, (d, (.c (.v (.int .i64 (a - b))))) :: env, heap, nx, gl⟩) : X (⟨some d, .binOp .sub t x y t2, ty, pos, af, none⟩ :: rest) ⟨n, env, heap, nx, gl⟩ :=
  ao_sub (st := ⟨n, env, heap, nx, gl⟩) hx hy hf hd h
theorem r_mul [W : Walk P X] {x y : Operand} {t t2 : TypeId} {a b : Int} (hx : St.ev ⟨n, env, heap, nx, gl⟩ x = some (.c (.v (.int .i64 a)))) (hy : St.ev ⟨n, env, heap, nx, gl⟩ y = some (.c (.v (.int .i64 b)))) (hf : fits (a * b)) (hd : Nat.blt d n = true) (h : X rest ⟨n, (d, (.c (.v (.int .i64 (a * b))))) :: env, heap, nx, gl⟩) : X (⟨some d, .binOp .mul t x y t2, ty, pos, af, none⟩ :: rest) ⟨n, env, heap, nx, gl⟩ :=
  ao_mul (st := ⟨n, env, heap, nx, gl⟩) hx hy hf hd h
theorem r_quo [W : Walk P X] {x y : Operand} {t t2 : TypeId} {a b : Int} (hx : St.ev ⟨n, env, heap, nx, gl⟩ x = some (.c (.v (.int .i64 a)))) (hy : St.ev ⟨n, env, heap, nx, gl⟩ y = some (.c (.v (.int .i64 b)))) (h0 : b ≠ 0) (hf : fits (a.tdiv b)) (hd : Nat.blt d n = true) (h : X rest ⟨n, (d, (.c (.v (.int .i64 (a.tdiv b))))) :: env, heap, nx, gl⟩) : X (⟨some d, .binOp .quo t x y t2, ty, pos, af, none⟩ :: rest) ⟨n, env, heap, nx, gl⟩ :=
  ao_quo (st := ⟨n, env, heap, nx, gl⟩) hx hy h0 hf hd h
theorem r_guard {dst : Option Tmp} {op : Op} {j t : Nat} {want b : Bool} (hj : (ops[j]?).bind (·.dst) = some t) (hb : look t env = some (.c (.v (.bool b)))) (hdst : dst = some d) (hd : Nat.blt d n = true) (h : b = want → AOps P ops Q (⟨dst, op, ty, pos, af, none⟩ :: rest) ⟨n, (t, (.c (.v (.bool want)))) :: env, heap, nx, gl⟩) (h' : b = !want → AOps P ops Q rest ⟨n, (d, (.c (.v undef))) :: (t, (.c (.v (.bool !want)))) :: env, heap, nx, gl⟩) : AOps P ops Q (⟨dst, op, ty, pos, af, some (j, want)⟩ :: rest) ⟨n, env, heap, nx, gl⟩ :=
  ao_guard (st := ⟨n, env, heap, nx, gl⟩) hj hb hdst hd h h'
theorem r_field_p [W : Walk P X] {x : Operand} {s i k b off : Nat} [I : FieldAt P s i k] (hx : St.ev ⟨n, env, heap, nx, gl⟩ x = some (.ptr b off)) (hd : Nat.blt d n = true) (h : X rest ⟨n, (d, (.ptr b (off + k))) :: env, heap, nx, gl⟩) : X (⟨some d, .fieldAddr s x i, ty, pos, af, none⟩ :: rest) ⟨n, env, heap, nx, gl⟩ :=
  ao_field_p (st := ⟨n, env, heap, nx, gl⟩) hx hd h
theorem r_field_e [W : Walk P X] {x : Operand} {s i k off : Nat} {xs : List CV} [I : FieldAt P s i k] (hx : St.ev ⟨n, env, heap, nx, gl⟩ x = some (.eptr xs off)) (hd : Nat.blt d n = true) (h : X rest ⟨n, (d, (.eptr xs (off + k))) :: env, heap, nx, gl⟩) : X (⟨some d, .fieldAddr s x i, ty, pos, af, none⟩ :: rest) ⟨n, env, heap, nx, gl⟩ :=
  ao_field_e (st := ⟨n, env, heap, nx, gl⟩) hx hd h
theorem r_load_p [W : Walk P X] {x : Operand} {t b off n' : Nat} {t' : TypeId} {l : List AV} {y : AV} [I : TyC P t false n'] (hx : St.ev ⟨n, env, heap, nx, gl⟩ x = some (.ptr b off)) (hH : St.H ⟨n, env, heap, nx, gl⟩ b = some (.cells t' l)) (hy : l[off]? = some y) (hd : Nat.blt d n = true) (h : X rest ⟨n, (d, y) :: env, heap, nx, gl⟩) : X (⟨some d, .load t x, ty, pos, af, none⟩ :: rest) ⟨n, env, heap, nx, gl⟩ :=
  ao_load_p (st := ⟨n, env, heap, nx, gl⟩) hx hH hy hd h
theorem r_load_pa [W : Walk P X] {x : Operand} {t b off n' : Nat} {t' : TypeId} {l : List AV} [I : TyC P t true n'] (ys : List AV) (hx : St.ev ⟨n, env, heap, nx, gl⟩ x = some (.ptr b off)) (hH : St.H ⟨n, env, heap, nx, gl⟩ b = some (.cells t' l)) (hy : (l.drop off).take n' = ys) (hn : ys.length = n') (hd : Nat.blt d n = true) (h : X rest ⟨n, (d, (.agg ys)) :: env, heap, nx, gl⟩) : X (⟨some d, .load t x, ty, pos, af, none⟩ :: rest) ⟨n, env, heap, nx, gl⟩ :=
  ao_load_pa (st := ⟨n, env, heap, nx, gl⟩) ys hx hH hy hn hd h
theorem r_box_a {x : Operand} {t : TypeId} {ys : List AV} (hx : St.ev ⟨n, env, heap, nx, gl⟩ x = some (.agg ys)) (hd : Nat.blt d n = true) (h : AOps P ops Q rest ⟨n, (d, (.ptr nx 0)) :: env, (nx, some (.cells t ys)) :: heap, nx + 1, gl⟩) : AOps P ops Q (⟨some d, .box t x, ty, pos, af, none⟩ :: rest) ⟨n, env, heap, nx, gl⟩ :=
  ao_box_a (st := ⟨n, env, heap, nx, gl⟩) hx hd h
theorem r_alloc {t : TypeId} {zs : List Value} [I : ZeroT P t zs] (hd : Nat.blt d n = true) (h : AOps P ops Q rest ⟨n, (d, (.ptr nx 0)) :: env, (nx, some (.cells t (zs.map fun z => .c (.v z)))) :: heap, nx + 1, gl⟩) : AOps P ops Q (⟨some d, .alloc t, ty, pos, af, none⟩ :: rest) ⟨n, env, heap, nx, gl⟩ :=
  ao_alloc (st := ⟨n, env, heap, nx, gl⟩) hd h
theorem r_store_p {x z : Operand} {t n' b off : Nat} {ag : Bool} {t' : TypeId} {l : List AV} {y : AV} [I : TyC P t ag n'] (hx : St.ev ⟨n, env, heap, nx, gl⟩ x = some (.ptr b off)) (hz : St.ev ⟨n, env, heap, nx, gl⟩ z = some y) (hc : y.cellB = true) (h1 : n' = 1) (hH : St.H ⟨n, env, heap, nx, gl⟩ b = some (.cells t' l)) (hl : Nat.blt off l.length = true) (h : AOps P ops Q rest ⟨n, env, (b, some (.cells t' (l.set off y))) :: heap, nx, gl⟩) : AOps P ops Q (⟨none, .store t x z, ty, pos, af, none⟩ :: rest) ⟨n, env, heap, nx, gl⟩ :=
  ao_store_p (st := ⟨n, env, heap, nx, gl⟩) hx hz hc h1 hH hl h
theorem r_store_pa {x z : Operand} {t n' b off : Nat} {ag : Bool} {t' : TypeId} {l ys : List AV} [I : TyC P t ag n'] (hx : St.ev ⟨n, env, heap, nx, gl⟩ x = some (.ptr b off)) (hz : St.ev ⟨n, env, heap, nx, gl⟩ z = some (.agg ys)) (hc : ys.all AV.cellB = true) (h1 : ys.length = n') (hH : St.H ⟨n, env, heap, nx, gl⟩ b = some (.cells t' l)) (hl : Nat.ble (off + n') l.length = true) (h : AOps P ops Q rest ⟨n, env, (b, some (.cells t' (splice l ys off))) :: heap, nx, gl⟩) : AOps P ops Q (⟨none, .store t x z, ty, pos, af, none⟩ :: rest) ⟨n, env, heap, nx, gl⟩ :=
  ao_store_pa (st := ⟨n, env, heap, nx, gl⟩) hx hz hc h1 hH hl h
theorem r_call {X : List Oper → St → Prop} [W : Walk P X] {f : FuncId} {args : List Operand} {tys : Array TypeId} {ys : List AV} {zs : List CV} {r : CV} {y : AV} (hys : evs ⟨n, env, heap, nx, gl⟩ args = some ys) (hz0 : clF.clFL ys = some zs) (hcon : Con P gl f zs r) (hy : ofC r = y) (hd : Nat.blt d n = true) (h : X rest ⟨n, (d, y) :: env, heap, nx, gl⟩) : X (⟨some d, .call ⟨.value (.func f), args.toArray, tys⟩, ty, pos, af, none⟩ :: rest) ⟨n, env, heap, nx, gl⟩ :=
  ao_call (st := ⟨n, env, heap, nx, gl⟩) hys hz0 hcon hy hd h
theorem r_index_f [W : Walk P X] {α : Type} {enc : α → List CV} {x i : Operand} {t E size bytes : Nat} [I : SlT P t E size bytes] {l : List α} {kk : IntKind} {idx : Int} (k : Nat) (hx : St.ev ⟨n, env, heap, nx, gl⟩ x = some (.c (.lst size (l.flatMap enc)))) (J : EncL enc size) (hi : St.ev ⟨n, env, heap, nx, gl⟩ i = some (.c (.v (.int kk idx)))) (hk : idx = (k : Int)) (hlt : k < l.length) (hd : Nat.blt d n = true) (h : X rest ⟨n, (d, (.eptr (l.flatMap enc) (k * size))) :: env, heap, nx, gl⟩) : X (⟨some d, .indexAddr t x i, ty, pos, af, none⟩ :: rest) ⟨n, env, heap, nx, gl⟩ :=
  ao_index_f (st := ⟨n, env, heap, nx, gl⟩) k hx J hi hk hlt hd h
theorem r_load_f0 [W : Walk P X] {α : Type} {enc : α → List CV} {x : Operand} {t n' size k : Nat} {l : List α} {r : α} {y : CV} {ys : List CV} [I : TyC P t false n'] (hx : St.ev ⟨n, env, heap, nx, gl⟩ x = some (.eptr (l.flatMap enc) (k * size))) (J : EncL enc size) (hr : l[k]? = some r) (hy : enc r = y :: ys) (hd : Nat.blt d n = true) (h : X rest ⟨n, (d, (.c y)) :: env, heap, nx, gl⟩) : X (⟨some d, .load t x, ty, pos, af, none⟩ :: rest) ⟨n, env, heap, nx, gl⟩ :=
  ao_load_f0 (st := ⟨n, env, heap, nx, gl⟩) hx J hr hy hd h
theorem r_load_f [W : Walk P X] {α : Type} {enc : α → List CV} {x : Operand} {t n' size k j : Nat} {l : List α} {r : α} {y : CV} {ys : List CV} [I : TyC P t false n'] (hx : St.ev ⟨n, env, heap, nx, gl⟩ x = some (.eptr (l.flatMap enc) (k * size + j))) (J : EncL enc size) (hr : l[k]? = some r) (hj : Nat.ble j size = true) (hy : (enc r).drop j = y :: ys) (hd : Nat.blt d n = true) (h : X rest ⟨n, (d, (.c y)) :: env, heap, nx, gl⟩) : X (⟨some d, .load t x, ty, pos, af, none⟩ :: rest) ⟨n, env, heap, nx, gl⟩ :=
  ao_load_f (st := ⟨n, env, heap, nx, gl⟩) hx J hr hj hy hd h
theorem r_load_fa0 [W : Walk P X] {α : Type} {enc : α → List CV} {x : Operand} {t n' size k : Nat} {l : List α} {r : α} {zs : List AV} [I : TyC P t true n'] (hx : St.ev ⟨n, env, heap, nx, gl⟩ x = some (.eptr (l.flatMap enc) (k * size))) (J : EncL enc size) (hr : l[k]? = some r) (hn : Nat.beq n' size = true) (hz : (enc r).map .c = zs) (hd : Nat.blt d n = true) (h : X rest ⟨n, (d, (.agg zs)) :: env, heap, nx, gl⟩) : X (⟨some d, .load t x, ty, pos, af, none⟩ :: rest) ⟨n, env, heap, nx, gl⟩ :=
  ao_load_fa0 (st := ⟨n, env, heap, nx, gl⟩) hx J hr hn hz hd h
theorem r_len_f [W : Walk P X] {α : Type} {enc : α → List CV} {x : Operand} {t E size bytes : Nat} [I : SlT P t E size bytes] {l : List α} (hx : St.ev ⟨n, env, heap, nx, gl⟩ x = some (.c (.lst size (l.flatMap enc)))) (J : EncL enc size) (hd : Nat.blt d n = true) (h : X rest ⟨n, (d, (.c (.v (.int .i64 (l.length : Int))))) :: env, heap, nx, gl⟩) : X (⟨some d, .call ⟨.builtin .len, #[x], #[t]⟩, ty, pos, af, none⟩ :: rest) ⟨n, env, heap, nx, gl⟩ :=
  ao_len_f (st := ⟨n, env, heap, nx, gl⟩) hx J hd h
theorem r_len_v [W : Walk P X] {x : Operand} {t E E' size size' bytes b n' : Nat} [I : SlT P t E size bytes] {xs : List CV} (hx : St.ev ⟨n, env, heap, nx, gl⟩ x = some (.vec b n')) (hH : St.H ⟨n, env, heap, nx, gl⟩ b = some (.vec E' size' xs)) (hn : xs.length = n' * size') (hd : Nat.blt d n = true) (h : X rest ⟨n, (d, (.c (.v (.int .i64 (n' : Int))))) :: env, heap, nx, gl⟩) : X (⟨some d, .call ⟨.builtin .len, #[x], #[t]⟩, ty, pos, af, none⟩ :: rest) ⟨n, env, heap, nx, gl⟩ :=
  ao_len_v (st := ⟨n, env, heap, nx, gl⟩) hx hH hn hd h
theorem r_build [W : Walk P X] {t : TypeId} {parts : List (Nat × Operand)} {pl : List (Nat × Nat)} {zs : List Value} {ps : List (Nat × AV)} {out : List AV} [I : StrT P t pl zs] (hp : evp ⟨n, env, heap, nx, gl⟩ parts = some ps) (hf : fillA pl (zs.map fun z => .c (.v z)) ps = some out) (hd : Nat.blt d n = true) (h : X rest ⟨n, (d, (.agg out)) :: env, heap, nx, gl⟩) : X (⟨some d, .build t parts.toArray, ty, pos, af, none⟩ :: rest) ⟨n, env, heap, nx, gl⟩ :=
  ao_build (st := ⟨n, env, heap, nx, gl⟩) hp hf hd h
theorem rd_guard {L : St → Prop} {rest : List Oper} {d : Nat} {op : Op} {ty : TypeId} {pos : String} {af : Array Edge} {j t : Nat} {want b : Bool} (hj : (ops[j]?).bind (·.dst) = some t) (hb : look t env = some (.c (.v (.bool b)))) (hd : Nat.blt d n = true) (h : b = want → DSeq P ops L (⟨some d, op, ty, pos, af, none⟩ :: rest) ⟨n, env, heap, nx, gl⟩) (h' : b = !want → DSeq P ops L rest ⟨n, (d, (.c (.v undef))) :: env, heap, nx, gl⟩) : DSeq P ops L (⟨some d, op, ty, pos, af, some (j, want)⟩ :: rest) ⟨n, env, heap, nx, gl⟩ :=
  ds_guard (st := ⟨n, env, heap, nx, gl⟩) hj hb hd h h'
theorem r_appendl {α : Type} {enc : α → List CV} {s x : Operand} {t E size bytes b n' : Nat} [I : SlT P t E size bytes] {l l2 : List α} (hs0 : St.ev ⟨n, env, heap, nx, gl⟩ s = some (.vec b n')) (hH : St.H ⟨n, env, heap, nx, gl⟩ b = some (.vec E size (l.flatMap enc))) (J : EncL enc size) (hn : l.length = n') (hx : St.ev ⟨n, env, heap, nx, gl⟩ x = some (.c (.lst size (l2.flatMap enc)))) (hb1 : n' + l2.length < 1000000000000) (hb2 : (n' + l2.length) * bytes ≤ 140737488355328) (hd : Nat.blt d n = true) (h : AOps P ops Q rest ⟨n, (d, (.vec b (n' + l2.length))) :: env, (b, some (.vec E size ((l ++ l2).flatMap enc))) :: heap, nx, gl⟩) : AOps P ops Q (⟨some d, .call ⟨.builtin .append, #[s, x], #[t, t]⟩, ty, pos, af, none⟩ :: rest) ⟨n, env, heap, nx, gl⟩ :=
  ao_appendl (st := ⟨n, env, heap, nx, gl⟩) hs0 hH J hn hx hb1 hb2 hd h
theorem r_lit {t E size bytes len : Nat} [I : SlT P t E size bytes] {parts : List (Nat × Operand)} {ps : List (Nat × AV)} {zs : List CV} (hp : evp ⟨n, env, heap, nx, gl⟩ parts = some ps) (hi : ps.map (·.1) = List.range len) (hz : lits (ps.map (·.2)) = some zs) (hb : litB size (ps.map (·.2)) = true) (hl : Nat.ble 1 len = true) (hs2 : Nat.ble (len * size) 100000 = true) (hd : Nat.blt d n = true) (h : AOps P ops Q rest ⟨n, (d, (.vec nx len)) :: env, (nx, some (.vec E size zs)) :: heap, nx + 1, gl⟩) : AOps P ops Q (⟨some d, .buildSlice t len parts.toArray, ty, pos, af, none⟩ :: rest) ⟨n, env, heap, nx, gl⟩ :=
  ao_lit (st := ⟨n, env, heap, nx, gl⟩) hp hi hz hb hl hs2 hd h
theorem r_lit0 {t E size bytes : Nat} [I : SlT P t E size bytes] (hd : Nat.blt d n = true) (h : AOps P ops Q rest ⟨n, (d, (.vec nx 0)) :: env, (nx, some (.vec E size [])) :: heap, nx + 1, gl⟩) : AOps P ops Q (⟨some d, .buildSlice t 0 #[], ty, pos, af, none⟩ :: rest) ⟨n, env, heap, nx, gl⟩ :=
  ao_lit0 (st := ⟨n, env, heap, nx, gl⟩) hd h
theorem r_make {α : Type} {enc : α → List CV} {t E size bytes : Nat} {zs : List Value} [I : SlT P t E size bytes] [Z : ZeroT P E zs] {x y : Operand} {k1 k2 : IntKind} {i1 i2 : Int} (z0 : α) (n' : Nat) (J : EncL enc size) (hz : enc z0 = zs.map .v) (hx : St.ev ⟨n, env, heap, nx, gl⟩ x = some (.c (.v (.int k1 i1)))) (hy : St.ev ⟨n, env, heap, nx, gl⟩ y = some (.c (.v (.int k2 i2)))) (h1 : i1 = (n' : Int)) (h2 : i2 = (n' : Int)) (hb1 : n' < 1000000000000) (hb2 : bytes * n' ≤ 281474976710656) (hd : Nat.blt d n = true) (h : AOps P ops Q rest ⟨n, (d, (.vec nx n')) :: env, (nx, some (.vec E size ((List.replicate n' z0).flatMap enc))) :: heap, nx + 1, gl⟩) : AOps P ops Q (⟨some d, .makeSlice t x y, ty, pos, af, none⟩ :: rest) ⟨n, env, heap, nx, gl⟩ :=
  ao_make (st := ⟨n, env, heap, nx, gl⟩) z0 n' J hz hx hy h1 h2 hb1 hb2 hd h
theorem r_store_v {α : Type} {enc : α → List CV} {x z : Operand} {t m b n' k E size : Nat} {ag : Bool} {l : List α} {y : AV} {ys : List CV} [I : TyC P t ag m] (x0 : α) (hx : St.ev ⟨n, env, heap, nx, gl⟩ x = some (.vptr b n' (k * size))) (hH : St.H ⟨n, env, heap, nx, gl⟩ b = some (.vec E size (l.flatMap enc))) (J : EncL enc size) (hn : l.length = n') (hk : k < l.length) (hz : St.ev ⟨n, env, heap, nx, gl⟩ z = some y) (hy : cvL y = some ys) (hm : ys.length = m) (hxe : enc x0 = ys) (h : AOps P ops Q rest ⟨n, env, (b, some (.vec E size ((l.set k x0).flatMap enc))) :: heap, nx, gl⟩) : AOps P ops Q (⟨none, .store t x z, ty, pos, af, none⟩ :: rest) ⟨n, env, heap, nx, gl⟩ :=
  ao_store_v (st := ⟨n, env, heap, nx, gl⟩) x0 hx hH J hn hk hz hy hm hxe h
theorem r_freeze {l : List Oper} (i : Nat) {b n' E size : Nat} {xs : List CV} (hi : look i env = some (.vec b n')) (hH : St.H ⟨n, env, heap, nx, gl⟩ b = some (.vec E size xs)) (hn : xs.length = n' * size) (h : AOps P ops Q l ⟨n, (i, (.c (.lst size xs))) :: env, (b, none) :: heap, nx, gl⟩) : AOps P ops Q l ⟨n, env, heap, nx, gl⟩ :=
  ao_freeze (st := ⟨n, env, heap, nx, gl⟩) i hi hH hn h
theorem r_callv {f : FuncId} {args : List Operand} {tys : Array TypeId} {ys : List AV} {zs : List CV} {r : CV} (hcon : Con P gl f zs r) (hys : evs ⟨n, env, heap, nx, gl⟩ args = some ys) (hz : cl.clL (St.H ⟨n, env, heap, nx, gl⟩) ys zs) (hr : r.plain = true) (hd : Nat.blt d n = true) (h : AOps P ops Q rest ⟨n, (d, (ofC r)) :: env, heap, nx, gl⟩) : AOps P ops Q (⟨some d, .call ⟨.value (.func f), args.toArray, tys⟩, ty, pos, af, none⟩ :: rest) ⟨n, env, heap, nx, gl⟩ :=
  ao_callv (st := ⟨n, env, heap, nx, gl⟩) hcon hys hz hr hd h
theorem r_index_vf [W : Walk P X] {α : Type} {enc : α → List CV} {x i : Operand} {t E E2 size bytes b m : Nat} [I : SlT P t E size bytes] {l : List α} {kk : IntKind} {idx : Int} (k : Nat) (hx : St.ev ⟨n, env, heap, nx, gl⟩ x = some (.vec b m)) (hH : St.H ⟨n, env, heap, nx, gl⟩ b = some (.vec E2 size (l.flatMap enc))) (J : EncL enc size) (hn : l.length = m) (hi : St.ev ⟨n, env, heap, nx, gl⟩ i = some (.c (.v (.int kk idx)))) (hk : idx = (k : Int)) (hlt : k < m) (hd : Nat.blt d n = true) (h : X rest ⟨n, (d, (.vptr b m (k * size))) :: env, heap, nx, gl⟩) : X (⟨some d, .indexAddr t x i, ty, pos, af, none⟩ :: rest) ⟨n, env, heap, nx, gl⟩ :=
  ao_index_vf (st := ⟨n, env, heap, nx, gl⟩) k hx hH J hn hi hk hlt hd h
theorem r_load_vf0 [W : Walk P X] {α : Type} {enc : α → List CV} {x : Operand} {t b m q k E size : Nat} {l : List α} {r : α} {y : CV} {ys : List CV} [I : TyC P t false q] (hx : St.ev ⟨n, env, heap, nx, gl⟩ x = some (.vptr b m (k * size))) (hH : St.H ⟨n, env, heap, nx, gl⟩ b = some (.vec E size (l.flatMap enc))) (J : EncL enc size) (hn : l.length = m) (hr : l[k]? = some r) (hy : enc r = y :: ys) (hd : Nat.blt d n = true) (h : X rest ⟨n, (d, (.c y)) :: env, heap, nx, gl⟩) : X (⟨some d, .load t x, ty, pos, af, none⟩ :: rest) ⟨n, env, heap, nx, gl⟩ :=
  ao_load_vf0 (st := ⟨n, env, heap, nx, gl⟩) hx hH J hn hr hy hd h
theorem r_litq [W : Walk P X] {t E size bytes len : Nat} [I : SlT P t E size bytes] {parts : List (Nat × Operand)} {ps : List (Nat × AV)} {zs : List CV} (hp : evp ⟨n, env, heap, nx, gl⟩ parts = some ps) (hi : ps.map (·.1) = List.range len) (hz : lits (ps.map (·.2)) = some zs) (hb : litB size (ps.map (·.2)) = true) (hl : Nat.ble 1 len = true) (hs2 : Nat.ble (len * size) 100000 = true) (hd : Nat.blt d n = true) (h : X rest ⟨n, (d, (.c (.lst size zs))) :: env, heap, nx, gl⟩) : X (⟨some d, .buildSlice t len parts.toArray, ty, pos, af, none⟩ :: rest) ⟨n, env, heap, nx, gl⟩ :=
  ao_litq (st := ⟨n, env, heap, nx, gl⟩) hp hi hz hb hl hs2 hd h
theorem r_in {f : FuncId} {fn : Func} {c : Code} {t nt : Nat} {args : List Operand} {tys : Array TypeId} {ys : List AV} {env' : List (Nat × AV)} (hf : P.funcs[f]? = some fn) (hb : fn.body = some c) (hr : fn.results = #[.tmp t]) (hcall : callableB P f = true) (hnt : fn.ntmps = nt) (hys : evs ⟨n, env, heap, nx, gl⟩ args = some ys) (hn : Nat.ble ys.length nt = true) (he : argEnvA 0 ys = env') (hd : Nat.blt d n = true)
    (h : Awp P c (Back t gl (fun y heap nx => AOps P ops Q rest ⟨n, (d, y) :: env, heap, nx, gl⟩)) ⟨nt, env', heap, nx, gl⟩) : AOps P ops Q (⟨some d, .call ⟨.value (.func f), args.toArray, tys⟩, ty, pos, af, none⟩ :: rest) ⟨n, env, heap, nx, gl⟩ := by
  subst hnt; subst he
  exact ao_in (st := ⟨n, env, heap, nx, gl⟩) hf hb hr hcall hys hn hd h
end
end Go.Proofs.Ytdndfncpglfdeaa.Ev
/- More rules of a walk: a nil slice in a box, a list compared with nil. Nothing here names a program. -/
namespace Go.Proofs.Ytdndfncpglfdeaa.Ev
set_option linter.unusedVariables false
set_option linter.unusedSimpArgs false
open Go.RowKit
section
variable {P : Program} {ops : Array Oper} {Q : Exit → St → Prop} {rest : List Oper} {d : Nat} {ty : TypeId} {pos : String} {af : Array Edge} {n : Nat} {env : List (Nat × AV)} {heap : List (Nat × Option AB)} {nx : Nat} {gl : List (Nat × List CV)}
theorem ao_eqnil {st : St} {x y : Operand} {t t2 E sz by' : Nat} [I : SlT P t E sz by'] {size : Nat} {xs : List CV} (hx : st.ev x = some (.c (.lst size xs))) (hy : st.ev y = some (.c (.v (.slice none 0 0)))) (hd : Nat.blt d st.n = true)
    (h : ∀ b : Bool, (xs ≠ [] → b = false) → AOps P ops Q rest (st.put d (.c (.v (.bool b))))) : AOps P ops Q (⟨some d, .binOp .eql t x y t2, ty, pos, af, none⟩ :: rest) st := by
  intro base w0 M a hs
  have key : ∃ b : Bool, (xs ≠ [] → b = false) ∧ (execOp a.eval ⟨some d, .binOp .eql t x y t2, ty, pos, af, none⟩).run P M.w = .ok (.value (.bool b)) M.w := by
    have hI := I.h
    have ht : P.underlying t = some (.slice E) := by
      unfold slB at hI
      split at hI
      · rename_i E' he
        split at hI
        · split at hI
          · simp only [Option.some.injEq, Prod.mk.injEq] at hI; rw [he, hI.1]
          · cases hI
        · cases hI
      · cases hI
    have h1 := hs.ev hx
    have h2 := (hs.ev hy).bool
    cases h1 with
    | c h1 =>
      generalize hv : a.eval x = v at h1
      simp only [execOp, hv, h2]
      cases h1 with
      | nil =>
        rename_i cap ad
        cases ad with
        | none => exact ⟨true, fun hh => absurd rfl hh, by simp [go_sem, eqGuard, Lib.run_eql_slice_nil M.w t E _ _ _ _ _ ht]⟩
        | some ad => exact ⟨false, fun _ => rfl, by simp [go_sem, eqGuard, Lib.run_eql_slice_nil M.w t E _ _ _ _ _ ht]⟩
      | lst cs hn hc hF hcell hr => exact ⟨false, fun _ => rfl, by simp [go_sem, eqGuard, Lib.run_eql_slice_nil M.w t E _ _ _ _ _ ht]⟩
  obtain ⟨b, hb, hrun⟩ := key
  exact wl_value rfl hrun (h b hb base w0 M _ (hs.put hd (.c (.v _))))
theorem r_eqnil {x y : Operand} {t t2 E sz by' : Nat} [I : SlT P t E sz by'] {size : Nat} {xs : List CV} (hx : St.ev ⟨n, env, heap, nx, gl⟩ x = some (.c (.lst size xs))) (hy : St.ev ⟨n, env, heap, nx, gl⟩ y = some (.c (.v (.slice none 0 0)))) (hd : Nat.blt d n = true)
    (h : ∀ b : Bool, (xs ≠ [] → b = false) → AOps P ops Q rest ⟨n, (d, (.c (.v (.bool b)))) :: env, heap, nx, gl⟩) : AOps P ops Q (⟨some d, .binOp .eql t x y t2, ty, pos, af, none⟩ :: rest) ⟨n, env, heap, nx, gl⟩ :=
  ao_eqnil (st := ⟨n, env, heap, nx, gl⟩) hx hy hd h
end
end Go.Proofs.Ytdndfncpglfdeaa.Ev
/- More rules of a walk: an empty literal, and what is appended to it, as quiet steps. Nothing here names a program. -/
namespace Go.Proofs.Ytdndfncpglfdeaa.Ev
set_option linter.unusedVariables false
set_option linter.unusedSimpArgs false
open Go.RowKit
section
variable {P : Program} {X : List Oper → St → Prop} {rest : List Oper} {d : Nat} {ty : TypeId} {pos : String} {af : Array Edge} {n : Nat} {env : List (Nat × AV)} {heap : List (Nat × Option AB)} {nx : Nat} {gl : List (Nat × List CV)}
variable {ops : Array Oper} {Q : Exit → St → Prop}
end
end Go.Proofs.Ytdndfncpglfdeaa.Ev
/- More rules of a walk: conversions of integers, functions as values. Nothing here names a program. -/
namespace Go.Proofs.Ytdndfncpglfdeaa.Ev
set_option linter.unusedVariables false
set_option linter.unusedSimpArgs false
open Go.RowKit
class IntT (P : Program) (t : Nat) (k : outParam IntKind) : Prop where
  h : P.underlying t = some (.int k)
section
variable {P : Program} {ops : Array Oper} {Q : Exit → St → Prop} {X : List Oper → St → Prop} {rest : List Oper} {d : Nat} {ty : TypeId} {pos : String} {af : Array Edge} {n : Nat} {env : List (Nat × AV)} {heap : List (Nat × Option AB)} {nx : Nat} {gl : List (Nat × List CV)}
end
end Go.Proofs.Ytdndfncpglfdeaa.Ev
/- Rules of a walk: regions that draw their order and make two boxes. Nothing here names a program. -/
namespace Go.Proofs.Ytdndfncpglfdeaa.Ev
set_option linter.unusedVariables false
set_option linter.unusedSimpArgs false
open Go.RowKit
section
variable {P : Program} {ops : Array Oper} {md : Region.Mode} {n : Nat} {L : Array Bool → St → Prop}
def two (da db : Nat) (xa xb : AB) (s : St) : St := (((s.new xa).put da (.ptr s.nx 0)).new xb).put db (.ptr (s.nx + 1) 0)
end
end Go.Proofs.Ytdndfncpglfdeaa.Ev
/- Rules of a walk: regions that draw their order, walked in an order that is given, with up to two boxes. Nothing here names a program. -/
namespace Go.Proofs.Ytdndfncpglfdeaa.Ev
set_option linter.unusedVariables false
set_option linter.unusedSimpArgs false
open Go.RowKit
section
variable {P : Program} {ops : Array Oper} {md : Region.Mode} {n : Nat}
end
end Go.Proofs.Ytdndfncpglfdeaa.Ev
/- Rules of a walk: small regions that draw their order, each order walked. Nothing here names a program. -/
namespace Go.Proofs.Ytdndfncpglfdeaa.Ev
set_option linter.unusedVariables false
set_option linter.unusedSimpArgs false
open Go.RowKit
section
variable {P : Program} {ops : Array Oper}
theorem upon_mono2 {o : Oper} {a : Act} {K K' : Act → World → Prop} {Q Q' : Exit → Act → World → Prop} (hk : ∀ a w, K a w → K' a w) (hq : ∀ e a w, e ≠ .normal → Q e a w → Q' e a w) {r : Result Next} (h : o.upon P a K Q r) : o.upon P a K' Q' r := by
  cases r with
  | ok n w' =>
    cases n <;> simp only [Oper.upon] at h ⊢ <;>
      first
        | exact hk _ _ h
        | exact Calls.mono h (fun e w'' he => by cases e <;> first | exact hk _ _ he | exact hq _ _ _ (by intro h; cases h) he | exact (he.elim fun a h => h.elim fun w h => ⟨a, w, hq _ _ _ (by intro h; cases h) h⟩))
        | exact Rows.mono h (fun _ _ he => hk _ _ he)
  | halt x w' => cases x <;> simp only [Oper.upon] at h ⊢ <;> exact hq _ _ _ (by intro h; cases h) h
def only (K : St → Prop) : Exit → St → Prop
  | .normal, st => K st
  | _, _ => False
end
end Go.Proofs.Ytdndfncpglfdeaa.Ev
/- Rules of a walk: regions that draw their order and store into boxes while other operands are still computed. Nothing here names a program. -/
namespace Go.Proofs.Ytdndfncpglfdeaa.Ev
set_option linter.unusedVariables false
set_option linter.unusedSimpArgs false
open Go.RowKit
section
variable {P : Program} {ops : Array Oper} {n : Nat}
structure StEq2 (s t : St) : Prop where
  n : s.n = t.n
  H : ∀ b, s.H b = t.H b
  nx : s.nx = t.nx
  gl : s.gl = t.gl
  env : ∀ i, look i s.env = look i t.env
theorem StEq2.refl (s : St) : StEq2 s s := ⟨rfl, fun _ => rfl, rfl, rfl, fun _ => rfl⟩
theorem StEq2.symm {s t : St} (h : StEq2 s t) : StEq2 t s := ⟨h.n.symm, fun b => (h.H b).symm, h.nx.symm, h.gl.symm, fun i => (h.env i).symm⟩
theorem StEq2.put {s t : St} (h : StEq2 s t) (d : Nat) (y : AV) : StEq2 (s.put d y) (t.put d y) :=
  ⟨h.n, h.H, h.nx, h.gl, fun i => by simp only [St.put, look_cons]; rw [h.env i]⟩
theorem StEq2.set {s t : St} (h : StEq2 s t) (b : Nat) (x : AB) : StEq2 (s.set b x) (t.set b x) :=
  ⟨h.n, fun b' => by rw [H_set, H_set, h.H b'], h.nx, h.gl, h.env⟩
theorem StEq2.ev {s t : St} (h : StEq2 s t) (x : Operand) : s.ev x = t.ev x := by
  cases x with
  | tmp i => exact h.env i
  | const v => rfl
  | global g => simp only [St.ev]; rw [h.gl]
  | func f => rfl
theorem StEq2.sim {s t : St} (h : StEq2 s t) {base : Nat} {w0 : W0} {M : Wd} {a : Act} (hs : Sim base w0 s M a) : Sim base w0 t M a :=
  ⟨hs.H.trans (funext h.H), hs.nx.trans h.nx, hs.n.trans h.n, fun i x hx => hs.env i x (by rw [h.env i]; exact hx), fun g xs hg => hs.gl g xs (by rw [h.gl]; exact hg), hs.heap, hs.below, hs.base, hs.defs, hs.old⟩
def St.hide (bs : List Nat) (st : St) : St := { st with heap := bs.map (fun b => (b, none)) ++ st.heap }
theorem look_hide (bs : List Nat) (heap : List (Nat × Option AB)) (b : Nat) : look b (bs.map (fun b => (b, none)) ++ heap) = if b ∈ bs then some none else look b heap := by
  induction bs with
  | nil => simp
  | cons c bs ih =>
    rw [List.map_cons, List.cons_append, look_cons, ih]
    by_cases h : c = b
    · subst h; simp
    · rw [if_neg h]
      by_cases h2 : b ∈ bs
      · rw [if_pos h2, if_pos (by simp [h2])]
      · rw [if_neg h2, if_neg (by simp [h2, Ne.symm h])]
theorem H_hide (bs : List Nat) (st : St) (b : Nat) : (st.hide bs).H b = if b ∈ bs then none else st.H b := by
  unfold St.H St.hide
  simp only [look_hide]
  by_cases h : b ∈ bs
  · rw [if_pos h, if_pos h]
  · rw [if_neg h, if_neg h]
def SStep (P : Program) (ops : Array Oper) (o : Oper) (st : St) (b : Nat) (x : AB) : Prop :=
  o.guard = none ∧ o.dst = none ∧ ∀ s : St, s.n = st.n → s.gl = st.gl → s.H b = st.H b → (∀ z ∈ o.op.operands, s.ev z = st.ev z) → AOps P ops (only (fun s' => s' = s.set b x)) [o] s
theorem SStep.of {o : Oper} {s t : St} {b : Nat} {x : AB} (h : SStep P ops o s b x) (hn : s.n = t.n) (hg : s.gl = t.gl) (hH : s.H b = t.H b) (hev : ∀ z ∈ o.op.operands, s.ev z = t.ev z) : SStep P ops o t b x :=
  ⟨h.1, h.2.1, fun u e1 e2 e3 e4 => h.2.2 u (e1.trans hn.symm) (e2.trans hg.symm) (e3.trans hH.symm) (fun z hz => (e4 z hz).trans (hev z hz).symm)⟩
inductive DG3 (P : Program) (ops : Array Oper) (bs : List Nat) (o : Oper) (st : St) : St → Prop
  | q {d : Nat} {y : AV} (h : DY P ops o (st.hide bs) d y) : DG3 P ops bs o st (st.put d y)
  | s {b : Nat} {x : AB} (hb : b ∈ bs) (hlt : b < st.nx) (h : SStep P ops o st b x) : DG3 P ops bs o st (st.set b x)
  | a {d : Nat} {x : AB} (h : AOp P o d x) (hd : Nat.blt d st.n = true) : DG3 P ops bs o st ((st.new x).put d (.ptr st.nx 0))
theorem StEq2.new {s t : St} (h : StEq2 s t) (x : AB) : StEq2 (s.new x) (t.new x) :=
  ⟨h.n, fun b' => by rw [H_new, H_new, h.H b', h.nx], by simp only [St.new]; rw [h.nx], h.gl, h.env⟩
theorem Fr.set {st : St} (h : Fr st) {b : Nat} (hb : b < st.nx) (x : AB) : Fr (st.set b x) := fun b' hb' => by
  have : st.nx ≤ b' := hb'
  rw [H_set, if_neg (by omega)]; exact h b' this
variable {bs : List Nat}
theorem StEq2.hide {s t : St} (h : StEq2 s t) (bs : List Nat) : StEq2 (s.hide bs) (t.hide bs) :=
  ⟨h.n, fun b => by rw [H_hide, H_hide, h.H b], h.nx, h.gl, h.env⟩
theorem DY.eq2 {o : Oper} {s t : St} {d : Nat} {y : AV} (h : DY P ops o s d y) (e : StEq2 s t) : DY P ops o t d y :=
  h.of e.n (fun b x hx => by rw [← e.H]; exact hx) e.gl (fun x _ => e.ev x) (fun _ _ q _ _ => e.env q)
theorem DG3.eq {o : Oper} {s t s' : St} (h : DG3 P ops bs o s s') (e : StEq2 s t) : ∃ t', DG3 P ops bs o t t' ∧ StEq2 s' t' := by
  cases h with
  | q h => exact ⟨_, .q (h.eq2 (e.hide bs)), e.put _ _⟩
  | s hb hlt h => exact ⟨_, .s hb (by rw [← e.nx]; exact hlt) (h.of e.n e.gl (e.H _) (fun z _ => e.ev z)), e.set _ _⟩
  | a h hd => exact ⟨_, .a h (by rw [← e.n]; exact hd), by rw [e.nx]; exact (e.new _).put _ _⟩
def DAny3 (P : Program) (ops : Array Oper) (bs : List Nat) (L : Array Bool → St → Prop) : Nat → Array Bool → St → Prop
  | 0, listed, st => L listed st
  | f + 1, listed, st => Region.ready .any ops listed ≠ [] ∧ ∀ i ∈ Region.ready .any ops listed, ∃ o st', ops[i]? = some o ∧ DG3 P ops bs o st st' ∧ DAny3 P ops bs L f (listed.setIfInBounds i true) st'
variable {L : Array Bool → St → Prop}
theorem DAny3.eq (hL : ∀ listed s t, StEq2 s t → L listed s → L listed t) : ∀ (f : Nat) (listed : Array Bool) (s t : St), StEq2 s t → DAny3 P ops bs L f listed s → DAny3 P ops bs L f listed t
  | 0, listed, s, t, e, h => hL listed s t e h
  | f + 1, listed, s, t, e, h => ⟨h.1, fun i hi => by
    obtain ⟨o, s', h2, h3, h4⟩ := h.2 i hi
    obtain ⟨t', h5, h6⟩ := h3.eq e
    exact ⟨o, t', h2, h5, DAny3.eq hL f _ _ _ h6 h4⟩⟩
theorem StEq2.comm (st : St) {d d' : Nat} (h : d ≠ d') (y y' : AV) : StEq2 ((st.put d y).put d' y') ((st.put d' y').put d y) :=
  ⟨rfl, fun _ => rfl, rfl, rfl, fun i => by simp only [St.put, look_cons]; by_cases h1 : d' = i <;> by_cases h2 : d = i <;> simp_all⟩
theorem DG3.wp {base : Nat} {w0 : W0} {st st' : St} {M : Wd} {a : Act} {i : Nat} {o : Oper} {K : Act → World → Prop} {Q' : Exit → Act → World → Prop} (hi : ops[i]? = some o) (h : DG3 P ops bs o st st') (hs : Sim base w0 st M a)
    (hK : ∀ M' a', Ext M M' → Sim base w0 st' M' a' → K a' M'.w) : wpOp P ops Q' i K a M.w := by
  cases h with
  | q h =>
    refine (h.of (t := st) rfl (fun b z hz => ?_) rfl (fun z _ => by cases z <;> rfl) (fun _ _ _ _ _ => rfl)).wp hi hs hK
    rw [H_hide] at hz
    split at hz
    · cases hz
    · exact hz
  | @a d x h hd =>
    obtain ⟨g, hdst, hrun⟩ := h
    obtain ⟨u, c, arr, t, e1, e2, e3⟩ := hrun st base w0 M a hs
    unfold wpOp
    simp only [hi]
    rw [if_pos (by simp [Region.wanted, g])]
    refine .inl ?_
    unfold Oper.wp
    rw [e1]
    have := hK (M.new st x c (.cells arr t)) (a.put o.dst u) (hs.extNew x c _) (by rw [hdst]; exact e2.put hd e3)
    exact this
  | @s b x hb hlt h =>
    have hl := h.2.2 st rfl rfl rfl (fun _ _ => rfl) base w0 M a hs
    have hw : Region.wanted o (yielded ops a.tmps) = true := by simp [Region.wanted, h.1]
    unfold wpList at hl
    rw [if_pos hw] at hl
    unfold wpOp
    simp only [hi]
    rw [if_pos hw]
    rcases hl with hl | ⟨_, a', w', M', st', _, _, _, hf⟩
    · refine .inl (upon_mono2 (fun a' w' hk => ?_) (fun e a' w' hne hq => ?_) hl)
      · obtain ⟨M', st', e1, e2, e3, e4⟩ := hk
        subst e1
        have e4 : st' = _ := e4
        subst e4
        exact hK M' a' e3 e2
      · obtain ⟨M', st', e1, e2, e3, e4⟩ := hq
        cases e <;> first | exact absurd rfl hne | exact e4.elim
    · exact hf.elim
section
variable {i nn nx k : Nat} {env : List (Nat × AV)} {heap : List (Nat × Option AB)} {gl : List (Nat × List CV)} {listed : Array Bool} {ty : TypeId} {pos : String} {af : Array Edge}
end
end
end Go.Proofs.Ytdndfncpglfdeaa.Ev
/- Rules of a walk: bits, truth values held against each other, function values in calls. Nothing here names a program. -/
namespace Go.Proofs.Ytdndfncpglfdeaa.Ev
set_option linter.unusedVariables false
set_option linter.unusedSimpArgs false
open Go.RowKit
section
variable {P : Program} {ops : Array Oper} {Q : Exit → St → Prop} {X : List Oper → St → Prop} {rest : List Oper} {d : Nat} {ty : TypeId} {pos : String} {af : Array Edge} {n : Nat} {env : List (Nat × AV)} {heap : List (Nat × Option AB)} {nx : Nat} {gl : List (Nat × List CV)}
end
end Go.Proofs.Ytdndfncpglfdeaa.Ev
/- Rules of a walk: regions that draw their order, store into lists while addresses are still computed. Nothing here names a program. -/
namespace Go.Proofs.Ytdndfncpglfdeaa.Ev
set_option linter.unusedVariables false
set_option linter.unusedSimpArgs false
open Go.RowKit
section
variable {P : Program} {ops : Array Oper} {n : Nat}
inductive DG4 (P : Program) (ops : Array Oper) (bs : List Nat) (o : Oper) (st : St) : St → Prop
  | q {d : Nat} {y : AV} (h : DY P ops o st d y) : DG4 P ops bs o st (st.put d y)
  | s {b : Nat} {x : AB} (hb : b ∈ bs) (hlt : b < st.nx) (h : SStep P ops o st b x) : DG4 P ops bs o st (st.set b x)
  | a {d : Nat} {x : AB} (h : AOp P o d x) (hd : Nat.blt d st.n = true) : DG4 P ops bs o st ((st.new x).put d (.ptr st.nx 0))
variable {bs : List Nat}
theorem DG4.eq {o : Oper} {s t s' : St} (h : DG4 P ops bs o s s') (e : StEq2 s t) : ∃ t', DG4 P ops bs o t t' ∧ StEq2 s' t' := by
  cases h with
  | q h => exact ⟨_, .q (h.eq2 e), e.put _ _⟩
  | s hb hlt h => exact ⟨_, .s hb (by rw [← e.nx]; exact hlt) (h.of e.n e.gl (e.H _) (fun z _ => e.ev z)), e.set _ _⟩
  | a h hd => exact ⟨_, .a h (by rw [← e.n]; exact hd), by rw [e.nx]; exact (e.new _).put _ _⟩
def DAny4 (P : Program) (ops : Array Oper) (bs : List Nat) (L : Array Bool → St → Prop) : Nat → Array Bool → St → Prop
  | 0, listed, st => L listed st
  | f + 1, listed, st => Region.ready .any ops listed ≠ [] ∧ ∀ i ∈ Region.ready .any ops listed, ∃ o st', ops[i]? = some o ∧ DG4 P ops bs o st st' ∧ DAny4 P ops bs L f (listed.setIfInBounds i true) st'
variable {L : Array Bool → St → Prop}
theorem DAny4.eq (hL : ∀ listed s t, StEq2 s t → L listed s → L listed t) : ∀ (f : Nat) (listed : Array Bool) (s t : St), StEq2 s t → DAny4 P ops bs L f listed s → DAny4 P ops bs L f listed t
  | 0, listed, s, t, e, h => hL listed s t e h
  | f + 1, listed, s, t, e, h => ⟨h.1, fun i hi => by
    obtain ⟨o, s', h2, h3, h4⟩ := h.2 i hi
    obtain ⟨t', h5, h6⟩ := h3.eq e
    exact ⟨o, t', h2, h5, DAny4.eq hL f _ _ _ h6 h4⟩⟩
def Cl (ops : Array Oper) (listed : Array Bool) : Prop := ∀ (j : Nat) (oj : Oper), ops[j]? = some oj → listed.getD j false = true → ∀ e ∈ oj.after, Region.binds .any e = true → listed.getD e.on false = true
theorem Cl.set {listed : Array Bool} (cl : Cl ops listed) {i : Nat} (hr : i ∈ Region.ready .any ops listed) : Cl ops (listed.setIfInBounds i true) := by
  obtain ⟨h1, o, h2, h3⟩ := mem_ready.1 hr
  have mono : ∀ j, listed.getD j false = true → (listed.setIfInBounds i true).getD j false = true := fun j hj => by
    by_cases he : i = j
    · subst he
      have := getD_both h1
      rw [this] at hj; cases hj
    · rw [getD_set_ne false he]; exact hj
  intro j oj hj hl e he hb
  by_cases hij : i = j
  · subst hij
    have : oj = o := Option.some.inj (hj.symm.trans h2)
    subst this
    exact mono _ (h3 e he hb)
  · rw [getD_set_ne false hij] at hl
    exact mono _ (cl j oj hj hl e he hb)
theorem DG4.wp {base : Nat} {w0 : W0} {st st' : St} {M : Wd} {a : Act} {i : Nat} {o : Oper} {K : Act → World → Prop} {Q' : Exit → Act → World → Prop} (hi : ops[i]? = some o) (h : DG4 P ops bs o st st') (hs : Sim base w0 st M a)
    (hK : ∀ M' a', Ext M M' → Sim base w0 st' M' a' → K a' M'.w) : wpOp P ops Q' i K a M.w := by
  cases h with
  | q h => exact h.wp hi hs hK
  | @a d x h hd =>
    obtain ⟨g, hdst, hrun⟩ := h
    obtain ⟨u, c, arr, t, e1, e2, e3⟩ := hrun st base w0 M a hs
    unfold wpOp
    simp only [hi]
    rw [if_pos (by simp [Region.wanted, g])]
    refine .inl ?_
    unfold Oper.wp
    rw [e1]
    have := hK (M.new st x c (.cells arr t)) (a.put o.dst u) (hs.extNew x c _) (by rw [hdst]; exact e2.put hd e3)
    exact this
  | @s b x hb hlt h =>
    have hl := h.2.2 st rfl rfl rfl (fun _ _ => rfl) base w0 M a hs
    have hw : Region.wanted o (yielded ops a.tmps) = true := by simp [Region.wanted, h.1]
    unfold wpList at hl
    rw [if_pos hw] at hl
    unfold wpOp
    simp only [hi]
    rw [if_pos hw]
    rcases hl with hl | ⟨_, a', w', M', st', _, _, _, hf⟩
    · refine .inl (upon_mono2 (fun a' w' hk => ?_) (fun e a' w' hne hq => ?_) hl)
      · obtain ⟨M', st', e1, e2, e3, e4⟩ := hk
        subst e1
        have e4 : st' = _ := e4
        subst e4
        exact hK M' a' e3 e2
      · obtain ⟨M', st', e1, e2, e3, e4⟩ := hq
        cases e <;> first | exact absurd rfl hne | exact e4.elim
    · exact hf.elim
section
variable {i nn nx k : Nat} {env : List (Nat × AV)} {heap : List (Nat × Option AB)} {gl : List (Nat × List CV)} {listed : Array Bool} {ty : TypeId} {pos : String} {af : Array Edge}
end
end
end Go.Proofs.Ytdndfncpglfdeaa.Ev
/- Rules of a walk: regions that draw their order and call what makes memory. Nothing here names a program. -/
namespace Go.Proofs.Ytdndfncpglfdeaa.Ev
set_option linter.unusedVariables false
set_option linter.unusedSimpArgs false
open Go.RowKit
section
variable {P : Program} {ops : Array Oper} {n : Nat}
def NStep (P : Program) (ops : Array Oper) (o : Oper) (st : St) (d : Nat) (x : AB) (mk : Nat → AV) : Prop :=
  o.guard = none ∧ o.dst = some d ∧ ∀ s : St, s.n = st.n → s.gl = st.gl → (∀ z ∈ o.op.operands, s.ev z = st.ev z) → AOps P ops (only (fun s' => StEq2 s' ((s.new x).put d (mk s.nx)))) [o] s
theorem NStep.of {o : Oper} {s t : St} {d : Nat} {x : AB} {mk : Nat → AV} (h : NStep P ops o s d x mk) (hn : s.n = t.n) (hg : s.gl = t.gl) (hev : ∀ z ∈ o.op.operands, s.ev z = t.ev z) : NStep P ops o t d x mk :=
  ⟨h.1, h.2.1, fun u e1 e2 e4 => h.2.2 u (e1.trans hn.symm) (e2.trans hg.symm) (fun z hz => (e4 z hz).trans (hev z hz).symm)⟩
inductive DG5 (P : Program) (ops : Array Oper) (bs : List Nat) (o : Oper) (st : St) : St → Prop
  | q {d : Nat} {y : AV} (h : DY P ops o st d y) : DG5 P ops bs o st (st.put d y)
  | s {b : Nat} {x : AB} (hb : b ∈ bs) (hlt : b < st.nx) (h : SStep P ops o st b x) : DG5 P ops bs o st (st.set b x)
  | a {d : Nat} {x : AB} (h : AOp P o d x) (hd : Nat.blt d st.n = true) : DG5 P ops bs o st ((st.new x).put d (.ptr st.nx 0))
  | n {d : Nat} {x : AB} {mk : Nat → AV} (h : NStep P ops o st d x mk) : DG5 P ops bs o st ((st.new x).put d (mk st.nx))
variable {bs : List Nat}
theorem DG5.eq {o : Oper} {s t s' : St} (h : DG5 P ops bs o s s') (e : StEq2 s t) : ∃ t', DG5 P ops bs o t t' ∧ StEq2 s' t' := by
  cases h with
  | q h => exact ⟨_, .q (h.eq2 e), e.put _ _⟩
  | s hb hlt h => exact ⟨_, .s hb (by rw [← e.nx]; exact hlt) (h.of e.n e.gl (e.H _) (fun z _ => e.ev z)), e.set _ _⟩
  | a h hd => exact ⟨_, .a h (by rw [← e.n]; exact hd), by rw [e.nx]; exact (e.new _).put _ _⟩
  | n h => exact ⟨_, .n (h.of e.n e.gl (fun z _ => e.ev z)), by rw [e.nx]; exact (e.new _).put _ _⟩
def DAny5 (P : Program) (ops : Array Oper) (bs : List Nat) (L : Array Bool → St → Prop) : Nat → Array Bool → St → Prop
  | 0, listed, st => L listed st
  | f + 1, listed, st => Region.ready .any ops listed ≠ [] ∧ ∀ i ∈ Region.ready .any ops listed, ∃ o st', ops[i]? = some o ∧ DG5 P ops bs o st st' ∧ DAny5 P ops bs L f (listed.setIfInBounds i true) st'
variable {L : Array Bool → St → Prop}
theorem DAny5.eq (hL : ∀ listed s t, StEq2 s t → L listed s → L listed t) : ∀ (f : Nat) (listed : Array Bool) (s t : St), StEq2 s t → DAny5 P ops bs L f listed s → DAny5 P ops bs L f listed t
  | 0, listed, s, t, e, h => hL listed s t e h
  | f + 1, listed, s, t, e, h => ⟨h.1, fun i hi => by
    obtain ⟨o, s', h2, h3, h4⟩ := h.2 i hi
    obtain ⟨t', h5, h6⟩ := h3.eq e
    exact ⟨o, t', h2, h5, DAny5.eq hL f _ _ _ h6 h4⟩⟩
theorem DG5.wp {base : Nat} {w0 : W0} {st st' : St} {M : Wd} {a : Act} {i : Nat} {o : Oper} {K : Act → World → Prop} {Q' : Exit → Act → World → Prop} (hi : ops[i]? = some o) (h : DG5 P ops bs o st st') (hs : Sim base w0 st M a)
    (hK : ∀ M' a', Ext M M' → Sim base w0 st' M' a' → K a' M'.w) : wpOp P ops Q' i K a M.w := by
  cases h with
  | q h => exact h.wp hi hs hK
  | @a d x h hd =>
    obtain ⟨g, hdst, hrun⟩ := h
    obtain ⟨u, c, arr, t, e1, e2, e3⟩ := hrun st base w0 M a hs
    unfold wpOp
    simp only [hi]
    rw [if_pos (by simp [Region.wanted, g])]
    refine .inl ?_
    unfold Oper.wp
    rw [e1]
    have := hK (M.new st x c (.cells arr t)) (a.put o.dst u) (hs.extNew x c _) (by rw [hdst]; exact e2.put hd e3)
    exact this
  | @n d x mk h =>
    have hl := h.2.2 st rfl rfl (fun _ _ => rfl) base w0 M a hs
    have hw : Region.wanted o (yielded ops a.tmps) = true := by simp [Region.wanted, h.1]
    unfold wpList at hl
    rw [if_pos hw] at hl
    unfold wpOp
    simp only [hi]
    rw [if_pos hw]
    rcases hl with hl | ⟨_, a', w', M', st', _, _, _, hf⟩
    · refine .inl (upon_mono2 (fun a' w' hk => ?_) (fun e a' w' hne hq => ?_) hl)
      · obtain ⟨M', st', e1, e2, e3, e4⟩ := hk
        subst e1
        have e4 : StEq2 st' _ := e4
        exact hK M' a' e3 (e4.sim e2)
      · obtain ⟨M', st', e1, e2, e3, e4⟩ := hq
        cases e <;> first | exact absurd rfl hne | exact e4.elim
    · exact hf.elim
  | @s b x hb hlt h =>
    have hl := h.2.2 st rfl rfl rfl (fun _ _ => rfl) base w0 M a hs
    have hw : Region.wanted o (yielded ops a.tmps) = true := by simp [Region.wanted, h.1]
    unfold wpList at hl
    rw [if_pos hw] at hl
    unfold wpOp
    simp only [hi]
    rw [if_pos hw]
    rcases hl with hl | ⟨_, a', w', M', st', _, _, _, hf⟩
    · refine .inl (upon_mono2 (fun a' w' hk => ?_) (fun e a' w' hne hq => ?_) hl)
      · obtain ⟨M', st', e1, e2, e3, e4⟩ := hk
        subst e1
        have e4 : st' = _ := e4
        subst e4
        exact hK M' a' e3 e2
      · obtain ⟨M', st', e1, e2, e3, e4⟩ := hq
        cases e <;> first | exact absurd rfl hne | exact e4.elim
    · exact hf.elim
section
variable {i nn nx k : Nat} {env : List (Nat × AV)} {heap : List (Nat × Option AB)} {gl : List (Nat × List CV)} {listed : Array Bool} {ty : TypeId} {pos : String} {af : Array Edge}
end
end
end Go.Proofs.Ytdndfncpglfdeaa.Ev
/- Rules of a walk: strings, arrays as values, closures with a result in a slot. Nothing here names a program. -/
namespace Go.Proofs.Ytdndfncpglfdeaa.Ev
set_option linter.unusedVariables false
set_option linter.unusedSimpArgs false
open Go.RowKit
section
variable {P : Program} {ops : Array Oper} {Q : Exit → St → Prop} {X : List Oper → St → Prop} {rest : List Oper} {d : Nat} {ty : TypeId} {pos : String} {af : Array Edge} {n : Nat} {env : List (Nat × AV)} {heap : List (Nat × Option AB)} {nx : Nat} {gl : List (Nat × List CV)}
class StrTy (P : Program) (t : Nat) : Prop where
  h : P.underlying t = some .string
theorem r_len_s [W : Walk P X] {x : Operand} {t : TypeId} {s : ByteArray} [I : StrTy P t] (hx : St.ev ⟨n, env, heap, nx, gl⟩ x = some (.c (.v (.string s)))) (hd : Nat.blt d n = true) (h : X rest ⟨n, (d, .c (.v (.int .i64 (s.size : Int)))) :: env, heap, nx, gl⟩) : X (⟨some d, .call ⟨.builtin .len, #[x], #[t]⟩, ty, pos, af, none⟩ :: rest) ⟨n, env, heap, nx, gl⟩ := by
  refine ao_val (st := ⟨n, env, heap, nx, gl⟩) rfl rfl hd (fun _ _ M e hs => ⟨.int .i64 (s.size : Int), ?_, .c (.v _)⟩) h
  have hv := (hs.ev (by simp [Op.operands, Call.operands]) hx).bool
  simp only [execOp, resolve, List.map_toArray, List.map_cons, List.map_nil, hv]
  simp [invoke, builtin, Builtin.len_, run_underlying I.h, goInt]
end
end Go.Proofs.Ytdndfncpglfdeaa.Ev
/- Rules of a walk: an array as a value. Nothing here names a program. -/
namespace Go.Proofs.Ytdndfncpglfdeaa.Ev
set_option linter.unusedVariables false
set_option linter.unusedSimpArgs false
open Go.RowKit
section
variable {P : Program} {ops : Array Oper} {Q : Exit → St → Prop} {X : List Oper → St → Prop} {rest : List Oper} {d : Nat} {ty : TypeId} {pos : String} {af : Array Edge} {n : Nat} {env : List (Nat × AV)} {heap : List (Nat × Option AB)} {nx : Nat} {gl : List (Nat × List CV)}
def arrTB (P : Program) (t len : Nat) : Bool :=
  match P.underlying t with
  | some (.array l e) => match tyB P e with
    | some (false, s) => l == len && s == 1
    | _ => false
  | _ => false
class ArrT (P : Program) (t : Nat) (len : outParam Nat) : Prop where
  h : arrTB P t len = true
end
end Go.Proofs.Ytdndfncpglfdeaa.Ev
/- Rules of a walk: the making of an array value. Nothing here names a program. -/
namespace Go.Proofs.Ytdndfncpglfdeaa.Ev
set_option linter.unusedVariables false
set_option linter.unusedSimpArgs false
open Go.RowKit
section
variable {P : Program} {ops : Array Oper} {Q : Exit → St → Prop} {X : List Oper → St → Prop} {rest : List Oper} {d : Nat} {ty : TypeId} {pos : String} {af : Array Edge} {n : Nat} {env : List (Nat × AV)} {heap : List (Nat × Option AB)} {nx : Nat} {gl : List (Nat × List CV)}
def arrbB (P : Program) (t : Nat) : Option (List (Nat × Nat) × List Value) :=
  match P.info? t, P.underlying t with
  | some it, some (.array len e) => match it.zero, P.info? e with
    | some z, some ie => some ((List.range len).map (fun i => (i * ie.size, ie.size)), z.cells.toList)
    | _, _ => none
  | _, _ => none
class ArrB (P : Program) (t : Nat) (pl : outParam (List (Nat × Nat))) (zs : outParam (List Value)) : Prop where
  h : arrbB P t = some (pl, zs)
end
end Go.Proofs.Ytdndfncpglfdeaa.Ev
/- Rules of a walk: make as a quiet step, its list taken as a closed one. Nothing here names a program. -/
namespace Go.Proofs.Ytdndfncpglfdeaa.Ev
set_option linter.unusedVariables false
set_option linter.unusedSimpArgs false
open Go.RowKit
section
variable {P : Program} {X : List Oper → St → Prop} {rest : List Oper} {d : Nat} {ty : TypeId} {pos : String} {af : Array Edge} {n : Nat} {env : List (Nat × AV)} {heap : List (Nat × Option AB)} {nx : Nat} {gl : List (Nat × List CV)}
end
end Go.Proofs.Ytdndfncpglfdeaa.Ev
/- Rules of a walk: a list of the call's own as an element of another one: its value is named, and a box (whose content is not needed any more) keeps which list has it. Nothing here names a program. -/
namespace Go.Proofs.Ytdndfncpglfdeaa.Ev
set_option linter.unusedVariables false
set_option linter.unusedSimpArgs false
open Go.RowKit
section
variable {P : Program} {ops : Array Oper} {Q : Exit → St → Prop} {st : St}
theorem Sim.relist {base : Nat} {w0 : W0} {M : Wd} {a : Act} (hs : Sim base w0 st M a) {b E size : Nat} {l l' : List CV} (hH : st.H b = some (.vec E size l)) (hlen : l'.length = l.length) (hr : ∀ (i : Nat) (x' x : CV) (u : Value), l'[i]? = some x' → l[i]? = some x → RC M.F M.w x u → RC M.F M.w x' u) :
    ∃ M', M'.w = M.w ∧ Sim base w0 (st.set b (.vec E size l')) M' a ∧ Ext M M' := by
  have hb : M.H b = some (.vec E size l) := by rw [hs.H]; exact hH
  let M' : Wd := { M with H := (st.set b (.vec E size l')).H }
  have hH' : ∀ k, M'.H k = if b = k then some (.vec E size l') else M.H k := fun k => by
    show (st.set b _).H k = _
    rw [H_set, hs.H]
  have hne : ∀ k, M'.H k ≠ none → M.H k ≠ none := fun k hk => by
    rw [hH'] at hk
    by_cases h : b = k
    · subst h; rw [hb]; simp
    · rwa [if_neg h] at hk
  have hext : Ext M M' := ⟨fun _ _ h => h, fun k E' size' l'' _ hl => by
    rw [hH'] at hl
    by_cases h : b = k
    · subst h; rw [if_pos rfl] at hl
      simp only [Option.some.injEq, AB.vec.injEq] at hl
      obtain ⟨rfl, rfl, rfl⟩ := hl
      exact ⟨l, hb, by omega, fun _ => rfl⟩
    · rw [if_neg h] at hl; exact ⟨l'', hl, Nat.le_refl _, fun _ => rfl⟩, Nat.le_refl _, fun k hk => ⟨hk, rfl⟩⟩
  refine ⟨M', rfl, ⟨rfl, hs.nx, hs.n, fun i y hy => ?_, fun g xs hg => (hs.gl g xs hg).mono hext, ⟨?_, ?_, ?_, ?_, hs.heap.fresh, hs.heap.frz, ?_⟩, hs.below, hs.base, hs.defs, hs.old⟩, hext⟩
  · obtain ⟨u, h1, h2⟩ := hs.env i y hy
    exact ⟨u, h1, h2.mono hext⟩
  · intro k t' l'' hl
    rw [hH'] at hl
    by_cases h : b = k
    · rw [if_pos h] at hl; cases hl
    · rw [if_neg h] at hl
      obtain ⟨g, arr, g1, g2, g3, g4, g5, g6⟩ := hs.heap.cells k t' l'' hl
      exact ⟨g, arr, g1, g2, g3, g4, g5, fun i x u hx hu => (g6 i x u hx hu).mono hext⟩
  · intro k E' size' l'' hl
    rw [hH'] at hl
    by_cases h : b = k
    · subst h; rw [if_pos rfl] at hl
      simp only [Option.some.injEq, AB.vec.injEq] at hl
      obtain ⟨rfl, rfl, rfl⟩ := hl
      obtain ⟨v, n, cs, e1, e2, e3, e4, e5, e6⟩ := hs.heap.vec b E size l hb
      refine ⟨v, n, cs, e1, by omega, e3, e4, fun i x u hx hu => ?_, e6⟩
      have hi : i < l'.length := (List.getElem?_eq_some_iff.1 hx).1
      obtain ⟨y, hy⟩ : ∃ y, l[i]? = some y := ⟨_, List.getElem?_eq_getElem (by omega)⟩
      exact hr i x y u hx hy (e5 i y u hy hu)
    · rw [if_neg h] at hl
      exact hs.heap.vec k E' size' l'' hl
  · intro k k' g hkk hk hk'
    exact hs.heap.sep k k' g hkk (hne k hk) (hne k' hk')
  · exact fun k hk => hs.heap.lt k (hne k hk)
  · intro k p hp
    have hold : ∀ q p', M'.H q = some (.obj p') → M.H q = some (.obj p') := fun q p' hq => by
      rw [hH'] at hq
      by_cases h : b = q
      · rw [if_pos h] at hq; cases hq
      · rwa [if_neg h] at hq
    obtain ⟨g, e1, e2, e3, e4, e5⟩ := hs.heap.obj k p (hold k p hp)
    exact ⟨g, e1, e2, e3, e4, fun b' q hbb hq => ⟨fun hb' => (e5 b' q hbb hq).1 (hne b' hb'), fun p' hp' => (e5 b' q hbb hq).2 p' (hold b' p' hp')⟩⟩
end
section
variable {P : Program} {ops : Array Oper} {Q : Exit → St → Prop} {X : List Oper → St → Prop} {rest : List Oper} {d : Nat} {ty : TypeId} {pos : String} {af : Array Edge} {n : Nat} {env : List (Nat × AV)} {heap : List (Nat × Option AB)} {nx : Nat} {gl : List (Nat × List CV)}
end
end Go.Proofs.Ytdndfncpglfdeaa.Ev
/- Rules of a walk: objects: calls that change one, boxes that become one, calls that make one. Nothing here names a program. -/
namespace Go.Proofs.Ytdndfncpglfdeaa.Ev
set_option linter.unusedVariables false
set_option linter.unusedSimpArgs false
open Go.RowKit
def refP : Nat → Value := fun g => .pointer (some ⟨g, 0, none⟩)
inductive OA where
  | c (x : CV)
  | o (f : Nat → Value)
  | p
def OA.rel (F : Nat → Prop) (w : World) (g : Nat) : OA → Value → Prop
  | .c x, u => RC F w x u
  | .o f, u => u = f g
  | .p, u => u = refP g
def oaOf (b : Nat) : AV → Option OA
  | .ptr b' off => bif Nat.beq b b' && Nat.beq off 0 then some .p else none
  | .ref b' f => bif Nat.beq b b' then some (.o f) else none
  | x => (clF x).map .c
def oas (b : Nat) : List AV → Option (List OA)
  | [] => some []
  | x :: l => match oaOf b x, oas b l with | some y, some ys => some (y :: ys) | _, _ => none
theorem oas_get {b : Nat} : ∀ {xs : List AV} {ys : List OA}, oas b xs = some ys → xs.length = ys.length ∧ ∀ (i : Nat) (x : AV) (y : OA), xs[i]? = some x → ys[i]? = some y → oaOf b x = some y
  | [], ys, h => by simp only [oas, Option.some.injEq] at h; subst h; exact ⟨rfl, fun i x y h => by simp at h⟩
  | x :: l, ys, h => by
    simp only [oas] at h
    split at h
    · rename_i y ys' h1 h2
      simp only [Option.some.injEq] at h; subst h
      obtain ⟨e1, e2⟩ := oas_get h2
      refine ⟨by simp [e1], fun i x' y' h3 h4 => ?_⟩
      cases i with
      | zero => simp at h3 h4; subst h3; subst h4; exact h1
      | succ i => exact e2 i x' y' (by simpa using h3) (by simpa using h4)
    · cases h
theorem clF_rc {M : Wd} {base : Nat} (hok : HeapOK M base) {y : AV} {u : Value} {z : CV} (h : RA M y u) (hz : clF y = some z) : RC M.F M.w z u :=
  cl_rc hok (F' := M.F) (fun _ h => h) (H := fun _ => none) (fun b E s l h => by cases h) h (clF_cl hz)
theorem oaOf_rel {M : Wd} {base : Nat} (hok : HeapOK M base) {b g : Nat} (hb : M.m b = .blk g) {x : AV} {u : Value} {y : OA} (h : RA M x u) (hy : oaOf b x = some y) : y.rel M.F M.w g u := by
  cases x with
  | ptr b' off =>
    simp only [oaOf] at hy
    cases hc : (Nat.beq b b' && Nat.beq off 0) with
    | false => rw [hc] at hy; cases hy
    | true =>
      rw [hc] at hy
      simp only [cond_true, Option.some.injEq] at hy; subst hy
      simp only [Bool.and_eq_true] at hc
      obtain rfl := beq_true hc.1
      obtain rfl := beq_true hc.2
      cases h with
      | ptr h => rw [hb] at h; cases h; rfl
  | ref b' f =>
    simp only [oaOf] at hy
    cases hc : Nat.beq b b' with
    | false => rw [hc] at hy; cases hy
    | true =>
      rw [hc] at hy
      simp only [cond_true, Option.some.injEq] at hy; subst hy
      obtain rfl := beq_true hc
      cases h with
      | ref h _ => rw [hb] at h; cases h; rfl
  | c x => simp only [oaOf, clF, Option.map_some, Option.some.injEq] at hy; subst hy; exact clF_rc hok h rfl
  | agg xs =>
    simp only [oaOf, Option.map_eq_some_iff] at hy
    obtain ⟨z, hz, rfl⟩ := hy
    exact clF_rc hok h hz
  | tup xs =>
    simp only [oaOf, Option.map_eq_some_iff] at hy
    obtain ⟨z, hz, rfl⟩ := hy
    exact clF_rc hok h hz
  | vec b n => simp [oaOf, clF] at hy
  | vptr b n off => simp [oaOf, clF] at hy
  | eptr xs off => simp [oaOf, clF] at hy
  | fn f xs => simp [oaOf, clF] at hy
  | ghost b n v => simp [oaOf, clF] at hy
def oF (w : World) (F fp fp' : Nat → Prop) (w' : World) : Nat → Prop := fun b => F b ∨ (b < w'.heap.size ∧ ¬ fp' b ∧ (fp b ∨ w.heap.size ≤ b))
structure OPost (w : World) (F fp : Nat → Prop) (g : Nat) (p' : ObjP) (fp' : Nat → Prop) (w' : World) : Prop where
  os : w'.os = w.os
  tape : w'.tape = w.tape
  output : w'.output = w.output
  size : w.heap.size ≤ w'.heap.size
  block : ∀ k, k < w.heap.size → ¬ fp k → w'.heap[k]? = w.heap[k]?
  holds : p'.holds (oF w F fp fp' w') w' g fp'
  root : fp' g
  lt : ∀ k, fp' k → k < w'.heap.size ∧ (fp k ∨ w.heap.size ≤ k)
section
variable {base : Nat} {w0 : W0} {st : St} {M : Wd} {a : Act}
def Wd.chg (M : Wd) (b : Nat) (p' : ObjP) (fp' : Nat → Prop) (w' : World) : Wd :=
  { m := M.m, H := fun k => if b = k then some (.obj p') else M.H k, nx := M.nx, F := oF M.w M.F (M.fp b) fp' w', w := w', fp := fun k => if k = b then fp' else M.fp k }
theorem Sim.chg (hs : Sim base w0 st M a) {b : Nat} {p p' : ObjP} (hb : M.H b = some (.obj p)) {g : Nat} (hm : M.m b = .blk g) {fp' : Nat → Prop} {w' : World} (h : OPost M.w M.F (M.fp b) g p' fp' w') :
    Sim base w0 (st.set b (.obj p')) (M.chg b p' fp' w') a ∧ Ext M (M.chg b p' fp' w') := by
  obtain ⟨g0, o1, o2, o3, o4, o5⟩ := hs.heap.obj b p hb
  rw [hm] at o1; cases o1
  let M' : Wd := M.chg b p' fp' w'
  have hH : ∀ k, M'.H k = if b = k then some (.obj p') else M.H k := fun k => rfl
  have hne : ∀ k, M'.H k ≠ none → M.H k ≠ none := fun k hk => by
    rw [hH] at hk
    by_cases h : b = k
    · subst h; rw [hb]; simp
    · rwa [if_neg h] at hk
  have hold : ∀ k, b ≠ k → ∀ x, M'.H k = some x → M.H k = some x := fun k hk x hx => by rwa [hH, if_neg hk] at hx
  have hF : ∀ k, M.F k → oF M.w M.F (M.fp b) fp' w' k ∧ w'.heap[k]? = M.w.heap[k]? := fun k hk => ⟨Or.inl hk, h.block k (hs.heap.frz k hk) (fun hf => (o4 k hf).2.2 hk)⟩
  have hext : Ext M M' := ⟨fun _ _ h => h, fun k E size' l' _ hl => by
    rw [hH] at hl
    by_cases h : b = k
    · rw [if_pos h] at hl; cases hl
    · rw [if_neg h] at hl; exact ⟨l', hl, Nat.le_refl _, fun _ => rfl⟩, Nat.le_refl _, hF⟩
  have hblk : ∀ k, b ≠ k → M.H k ≠ none → ∀ q, (M.m k).block = some q → w'.heap[q]? = M.w.heap[q]? ∧ ¬ oF M.w M.F (M.fp b) fp' w' q ∨ M.F q := fun k hk hn q hq => by
    by_cases hf : M.F q
    · exact Or.inr hf
    · have hlt := conc_lt hs.heap hn hq
      refine Or.inl ⟨h.block q hlt (fun hfp => (o5 k q (Ne.symm hk) hfp).1 hn hq), fun hh => ?_⟩
      rcases hh with hh | hh
      · exact hf hh
      · rcases hh.2.2 with hh | hh
        · exact (o5 k q (Ne.symm hk) hh).1 hn hq
        · omega
  have hfpb : M'.fp b = fp' := by simp [M', Wd.chg]
  have hfpk : ∀ k, b ≠ k → M'.fp k = M.fp k := fun k hk => by simp [M', Wd.chg, Ne.symm hk]
  refine ⟨⟨funext fun k => by rw [H_set, ← hs.H]; exact hH k, hs.nx, hs.n, fun i y hy => ?_, fun g xs hg => (hs.gl g xs hg).mono hext, ⟨?_, ?_, ?_, ?_, hs.heap.fresh, ?_, ?_⟩, ?_, Nat.le_trans hs.base h.size, hs.defs, fun k hk hlt => ?_⟩, hext⟩
  · obtain ⟨u, h1, h2⟩ := hs.env i y hy
    exact ⟨u, h1, h2.mono hext⟩
  · intro k t l hl
    have hk : b ≠ k := fun e => by rw [hH, if_pos e] at hl; cases hl
    have hl := hold k hk _ hl
    obtain ⟨g', arr, e1, e2, e3, e4, e5, e6⟩ := hs.heap.cells k t l hl
    rcases hblk k hk (by rw [hl]; simp) g' (by rw [e1]; rfl) with ⟨h1, h2⟩ | h1
    · exact ⟨g', arr, e1, e2, h2, h1.trans e4, e5, fun i x u hx hu => (e6 i x u hx hu).mono hext⟩
    · exact absurd h1 e3
  · intro k E size l hl
    have hk : b ≠ k := fun e => by rw [hH, if_pos e] at hl; cases hl
    have hl := hold k hk _ hl
    obtain ⟨v, n, cs, e1, e2, e3, e4, e5, e6⟩ := hs.heap.vec k E size l hl
    have hq : ∀ q, v.ownBlock = some q → w'.heap[q]? = M.w.heap[q]? ∧ ¬ oF M.w M.F (M.fp b) fp' w' q := fun q hq => by
      rcases hblk k hk (by rw [hl]; simp) q (by rw [e1]; exact hq) with h1 | h1
      · exact h1
      · exact absurd h1 (e6 q hq)
    refine ⟨v, n, cs, e1, e2, e3, ?_, fun i y u h1 h2 => (e5 i y u h1 h2).mono hF, fun q hv => (hq q hv).2⟩
    obtain ⟨f1, f2⟩ := e4
    refine ⟨f1, ?_⟩
    rcases f2 with f2 | ⟨g', cap, cur, rfl, g1, g2, g3⟩
    · exact Or.inl f2
    · exact Or.inr ⟨g', cap, cur, rfl, g1, (hq g' rfl).1.trans g2, g3⟩
  · intro k k' g hkk hk hk'
    exact hs.heap.sep k k' g hkk (hne k hk) (hne k' hk')
  · exact fun k hk => hs.heap.lt k (hne k hk)
  · intro k hk
    show k < w'.heap.size
    rcases hk with hk | hk
    · have := hs.heap.frz k hk; have := h.size; omega
    · exact hk.1
  · intro k q hq
    by_cases hk : b = k
    · subst hk
      rw [hH, if_pos rfl] at hq
      simp only [Option.some.injEq, AB.obj.injEq] at hq; subst hq
      refine ⟨g, hm, by rw [hfpb]; exact h.root, by rw [hfpb]; exact h.holds, fun k hk => ?_, fun b' k hbb hk => ⟨fun hb' => ?_, fun p2 hp2 => ?_⟩⟩
      · rw [hfpb] at hk
        obtain ⟨h1, h2⟩ := h.lt k hk
        refine ⟨?_, h1, fun hf => ?_⟩
        · rcases h2 with h2 | h2
          · exact (o4 k h2).1
          · exact Nat.le_trans hs.base h2
        · rcases hf with hf | hf
          · rcases h2 with h2 | h2
            · exact (o4 k h2).2.2 hf
            · have := hs.heap.frz k hf; omega
          · exact hf.2.1 hk
      · rw [hfpb] at hk
        obtain ⟨_, h2⟩ := h.lt k hk
        intro hc
        rcases h2 with h2 | h2
        · exact (o5 b' k hbb h2).1 (hne b' hb') hc
        · have := conc_lt hs.heap (hne b' hb') hc; omega
      · rw [hfpb] at hk
        rw [hfpk b' (Ne.symm hbb)]
        have hp2 := hold b' (Ne.symm hbb) _ hp2
        obtain ⟨_, h2⟩ := h.lt k hk
        intro hc
        rcases h2 with h2 | h2
        · exact (o5 b' k hbb h2).2 p2 hp2 hc
        · obtain ⟨_, _, _, _, r4, _⟩ := hs.heap.obj b' p2 hp2
          have := (r4 k hc).2.1; omega
    · have hq := hold k hk _ hq
      obtain ⟨g', e1, e2, e3, e4, e5⟩ := hs.heap.obj k q hq
      have hnfp : ∀ c, M.fp k c → ¬ M.fp b c := fun c hc => (e5 b c hk hc).2 p hb
      rw [hfpk k hk]
      refine ⟨g', e1, e2, q.stable _ _ _ _ _ _ e3 hF (fun c hc => h.block c (e4 c hc).2.1 (hnfp c hc)), fun c hc => ⟨(e4 c hc).1, Nat.lt_of_lt_of_le (e4 c hc).2.1 h.size, fun hf => ?_⟩, fun b' c hbb hc => ⟨fun hb' => (e5 b' c hbb hc).1 (hne b' hb'), fun p2 hp2 => ?_⟩⟩
      · rcases hf with hf | hf
        · exact (e4 c hc).2.2 hf
        · rcases hf.2.2 with hf | hf
          · exact hnfp c hc hf
          · have := (e4 c hc).2.1; omega
      · by_cases hb' : b = b'
        · subst hb'
          rw [hfpb]
          intro hf
          rcases (h.lt c hf).2 with h2 | h2
          · exact hnfp c hc h2
          · have := (e4 c hc).2.1; omega
        · rw [hfpk b' hb']
          exact (e5 b' c hbb hc).2 p2 (hold b' hb' _ hp2)
  · refine ⟨h.os.trans hs.below.os, h.tape.trans hs.below.tape, h.output.trans hs.below.output, Nat.le_trans hs.below.size h.size, fun k hk => ?_⟩
    show w'.heap[k]? = _
    have hb1 := hs.base
    rw [h.block k (by omega) (fun hf => by have := (o4 k hf).1; omega)]
    exact hs.below.block k hk
  · rcases hk with hk | hk
    · exact hs.old k hk hlt
    · rcases hk.2.2 with hk | hk
      · have := (o4 k hk).1; omega
      · have := hs.base; omega
theorem Sim.changeO (hs : Sim base w0 st M a) {b : Nat} {p p' : ObjP} (hb : M.H b = some (.obj p)) {g : Nat} (hm : M.m b = .blk g) {fp' : Nat → Prop} {w' : World} (h : OPost M.w M.F (M.fp b) g p' fp' w') :
    ∃ M', M'.w = w' ∧ M'.F = oF M.w M.F (M.fp b) fp' w' ∧ Sim base w0 (st.set b (.obj p')) M' a ∧ Ext M M' :=
  ⟨_, rfl, rfl, (hs.chg hb hm h).1, (hs.chg hb hm h).2⟩
end
section
variable {P : Program} {ops : Array Oper} {Q : Exit → St → Prop} {rest : List Oper} {st : St} {d : Nat} {ty : TypeId} {pos : String} {af : Array Edge}
end
end Go.Proofs.Ytdndfncpglfdeaa.Ev
/- Rules of a walk: a box that becomes an object, and calls that make one. Nothing here names a program. -/
namespace Go.Proofs.Ytdndfncpglfdeaa.Ev
set_option linter.unusedVariables false
set_option linter.unusedSimpArgs false
open Go.RowKit
def avOf (b : Nat) : OA → AV
  | .c x => of1 x
  | .o f => .ref b f
  | .p => .ptr b 0
def nF (w : World) (F fp : Nat → Prop) (w' : World) : Nat → Prop := fun b => F b ∨ (w.heap.size ≤ b ∧ b < w'.heap.size ∧ ¬ fp b)
structure NPost (w : World) (F : Nat → Prop) (g : Nat) (p : ObjP) (fp : Nat → Prop) (w' : World) : Prop where
  below : Below w.heap.size w w'
  holds : p.holds (nF w F fp w') w' g fp
  root : fp g
  lt : ∀ k, fp k → w.heap.size ≤ k ∧ k < w'.heap.size
section
variable {base : Nat} {w0 : W0} {st : St} {M : Wd} {a : Act}
theorem Sim.newO (hs : Sim base w0 st M a) {g : Nat} {p : ObjP} {fp : Nat → Prop} {w' : World} (h : NPost M.w M.F g p fp w') :
    ∃ M', M'.w = w' ∧ M'.F = nF M.w M.F fp w' ∧ M'.m M.nx = .blk g ∧ Sim base w0 (st.new (.obj p)) M' a ∧ Ext M M' := by
  let M' : Wd := { m := fun k => if k = M.nx then .blk g else M.m k, H := (st.new (.obj p)).H, nx := M.nx + 1, F := nF M.w M.F fp w', w := w', fp := fun k => if k = M.nx then fp else M.fp k }
  have hH : ∀ k, M'.H k = if M.nx = k then some (.obj p) else M.H k := fun k => by
    show (st.new _).H k = _
    rw [H_new, hs.nx, hs.H]
  have hm : M'.m M.nx = .blk g := by simp [M']
  have hm' : ∀ k, M.nx ≠ k → M'.m k = M.m k := fun k hk => by simp [M', Ne.symm hk]
  have hfp : M'.fp M.nx = fp := by simp [M']
  have hfp' : ∀ k, M.nx ≠ k → M'.fp k = M.fp k := fun k hk => by simp [M', Ne.symm hk]
  have hF : ∀ k, M.F k → nF M.w M.F fp w' k ∧ w'.heap[k]? = M.w.heap[k]? := fun k hk => ⟨Or.inl hk, h.below.block k (hs.heap.frz k hk)⟩
  have hext : Ext M M' := by
    refine ⟨fun b g' hb => ?_, fun k E size' l' hk hl => ?_, by simp [M'], hF⟩
    · rw [hm' b (fun he => hs.heap.fresh b (by omega) g' hb)]; exact hb
    · rw [hH, if_neg (by omega)] at hl
      exact ⟨l', hl, Nat.le_refl _, fun _ => hm' k (by omega)⟩
  have hnF : ∀ k, k < M.w.heap.size → nF M.w M.F fp w' k → M.F k := fun k hk hf => by
    rcases hf with hf | hf
    · exact hf
    · omega
  refine ⟨M', rfl, rfl, hm, ⟨rfl, by show M.nx + 1 = st.nx + 1; rw [hs.nx], hs.n, fun i y hy => ?_, fun g xs hg => (hs.gl g xs hg).mono hext, ⟨?_, ?_, ?_, ?_, ?_, ?_, ?_⟩, hs.below.trans (h.below.mono hs.base), Nat.le_trans hs.base h.below.size, hs.defs, fun k hk hlt => ?_⟩, hext⟩
  · obtain ⟨u, h1, h2⟩ := hs.env i y hy
    exact ⟨u, h1, h2.mono hext⟩
  · intro k t l hl
    have hk : M.nx ≠ k := fun e => by rw [hH, if_pos e] at hl; cases hl
    rw [hH, if_neg hk] at hl
    obtain ⟨g', arr, e1, e2, e3, e4, e5, e6⟩ := hs.heap.cells k t l hl
    have hlt := (Array.getElem?_eq_some_iff.1 e4).1
    exact ⟨g', arr, by rw [hm' k hk]; exact e1, e2, fun hf => e3 (hnF _ hlt hf), (h.below.block g' hlt).trans e4, e5, fun i x u hx hu => (e6 i x u hx hu).mono hext⟩
  · intro k E size l hl
    have hk : M.nx ≠ k := fun e => by rw [hH, if_pos e] at hl; cases hl
    rw [hH, if_neg hk] at hl
    obtain ⟨v, n, cs, e1, e2, e3, e4, e5, e6⟩ := hs.heap.vec k E size l hl
    have hlt : ∀ q, v.ownBlock = some q → q < M.w.heap.size := fun q hq => (World.ownsRow.lt e4 q hq).2
    refine ⟨v, n, cs, by rw [hm' k hk]; exact e1, e2, e3, ?_, fun i y u h1 h2 => (e5 i y u h1 h2).mono hF, fun q hq hf => e6 q hq (hnF _ (hlt q hq) hf)⟩
    obtain ⟨f1, f2⟩ := e4
    refine ⟨f1, ?_⟩
    rcases f2 with f2 | ⟨g', cap, cur, rfl, g1, g2, g3⟩
    · exact Or.inl f2
    · exact Or.inr ⟨g', cap, cur, rfl, g1, (h.below.block g' (hlt g' rfl)).trans g2, g3⟩
  · intro k k' q hkk hk hk' hq hq'
    rw [hH] at hk hk'
    by_cases h1 : M.nx = k
    · subst h1
      rw [hm] at hq
      simp only [Conc.block, Option.some.injEq] at hq; subst hq
      rw [if_neg hkk] at hk'
      rw [hm' k' hkk] at hq'
      have := conc_lt hs.heap hk' hq'
      have := (h.lt _ h.root).1; omega
    · rw [if_neg h1] at hk
      rw [hm' k h1] at hq
      by_cases h2 : M.nx = k'
      · subst h2
        rw [hm] at hq'
        simp only [Conc.block, Option.some.injEq] at hq'; subst hq'
        have := conc_lt hs.heap hk hq
        have := (h.lt _ h.root).1; omega
      · rw [if_neg h2] at hk'
        rw [hm' k' h2] at hq'
        exact hs.heap.sep k k' q hkk hk hk' hq hq'
  · intro k hk
    rw [hH] at hk
    show k < M.nx + 1
    by_cases h1 : M.nx = k
    · omega
    · rw [if_neg h1] at hk
      have := hs.heap.lt k hk; omega
  · intro k hk g'
    have hk : M.nx + 1 ≤ k := hk
    rw [hm' k (by omega)]
    exact hs.heap.fresh k (by omega) g'
  · intro k hk
    show k < w'.heap.size
    rcases hk with hk | hk
    · have := hs.heap.frz k hk; have := h.below.size; omega
    · exact hk.2.1
  · intro k q hq
    rw [hH] at hq
    by_cases hk : M.nx = k
    · subst hk
      rw [if_pos rfl] at hq
      simp only [Option.some.injEq, AB.obj.injEq] at hq; subst hq
      refine ⟨g, hm, by rw [hfp]; exact h.root, by rw [hfp]; exact h.holds, fun c hc => ?_, fun b' c hbb hc => ⟨fun hb' => ?_, fun p2 hp2 => ?_⟩⟩
      · rw [hfp] at hc
        obtain ⟨h1, h2⟩ := h.lt c hc
        refine ⟨Nat.le_trans hs.base h1, h2, fun hf => ?_⟩
        rcases hf with hf | hf
        · have := hs.heap.frz c hf; omega
        · exact hf.2.2 hc
      · rw [hfp] at hc
        rw [hH, if_neg (Ne.symm hbb)] at hb'
        rw [hm' b' (Ne.symm hbb)]
        intro hq
        have := conc_lt hs.heap hb' hq
        have := (h.lt c hc).1; omega
      · rw [hfp] at hc
        rw [hH, if_neg (Ne.symm hbb)] at hp2
        rw [hfp' b' (Ne.symm hbb)]
        intro hf
        obtain ⟨_, _, _, _, r4, _⟩ := hs.heap.obj b' p2 hp2
        have := (r4 c hf).2.1
        have := (h.lt c hc).1; omega
    · rw [if_neg hk] at hq
      obtain ⟨g', e1, e2, e3, e4, e5⟩ := hs.heap.obj k q hq
      rw [hfp' k hk]
      refine ⟨g', by rw [hm' k hk]; exact e1, e2, q.stable _ _ _ _ _ _ e3 hF (fun c hc => h.below.block c (e4 c hc).2.1), fun c hc => ⟨(e4 c hc).1, Nat.lt_of_lt_of_le (e4 c hc).2.1 h.below.size, fun hf => (e4 c hc).2.2 (hnF _ (e4 c hc).2.1 hf)⟩, fun b' c hbb hc => ⟨fun hb' => ?_, fun p2 hp2 => ?_⟩⟩
      · by_cases h2 : M.nx = b'
        · subst h2
          rw [hm]
          intro hg
          simp only [Conc.block, Option.some.injEq] at hg; subst hg
          have := (h.lt _ h.root).1
          have := (e4 _ hc).2.1; omega
        · rw [hH, if_neg h2] at hb'
          rw [hm' b' h2]
          exact (e5 b' c hbb hc).1 hb'
      · by_cases h2 : M.nx = b'
        · subst h2
          rw [hfp]
          intro hf
          have := (h.lt c hf).1
          have := (e4 c hc).2.1; omega
        · rw [hfp' b' h2]
          rw [hH, if_neg h2] at hp2
          exact (e5 b' c hbb hc).2 p2 hp2
  · rcases hk with hk | hk
    · exact hs.old k hk hlt
    · have := hs.base; omega
end
section
variable {P : Program} {ops : Array Oper} {Q : Exit → St → Prop} {rest : List Oper} {st : St} {d : Nat} {ty : TypeId} {pos : String} {af : Array Edge}
theorem avOf_ra {M : Wd} {g b : Nat} (hm : M.m b = .blk g) {x : OA} {u : Value} (h : x.rel M.F M.w g u) (ho : ∀ fn, x = .o fn → u.oneCell' = true) : RA M (avOf b x) u := by
  cases x with
  | c x =>
    have h : RC M.F M.w x u := h
    cases x with
    | agg xs => exact RA.ofC (x := .agg xs) h
    | _ => exact .c h
  | o f => cases (show u = f g from h); exact .ref hm (ho f rfl)
  | p => cases (show u = refP g from h); exact .ptr hm
end
end Go.Proofs.Ytdndfncpglfdeaa.Ev
/- Rules of a walk: strings that are joined, cut and made of bytes; calls through an interface. Nothing here names a program. -/
namespace Go.Proofs.Ytdndfncpglfdeaa.Ev
set_option linter.unusedVariables false
set_option linter.unusedSimpArgs false
open Go.RowKit
section
variable {P : Program} {ops : Array Oper} {Q : Exit → St → Prop} {X : List Oper → St → Prop} {rest : List Oper} {d : Nat} {ty : TypeId} {pos : String} {af : Array Edge} {n : Nat} {env : List (Nat × AV)} {heap : List (Nat × Option AB)} {nx : Nat} {gl : List (Nat × List CV)}
theorem r_neqstr [W : Walk P X] {x y : Operand} {t t2 : TypeId} {a b : ByteArray} (hx : St.ev ⟨n, env, heap, nx, gl⟩ x = some (.c (.v (.string a)))) (hy : St.ev ⟨n, env, heap, nx, gl⟩ y = some (.c (.v (.string b)))) (hd : Nat.blt d n = true) (h : X rest ⟨n, (d, .c (.v (.bool (!(a.toList == b.toList))))) :: env, heap, nx, gl⟩) : X (⟨some d, .binOp .neq t x y t2, ty, pos, af, none⟩ :: rest) ⟨n, env, heap, nx, gl⟩ := by
  refine ao_val (st := ⟨n, env, heap, nx, gl⟩) rfl rfl hd (fun _ _ M e hs => ⟨.bool (!(a.toList == b.toList)), ?_, .c (.v _)⟩) h
  simp only [execOp, (hs.ev (by simp [Op.operands, Call.operands]) hx).bool, (hs.ev (by simp [Op.operands, Call.operands]) hy).bool]
  rfl
def u8C (b : UInt8) : List CV := [.v (.int .u8 (b.toNat : Int))]
instance : EncL u8C 1 := ⟨fun _ => rfl, by decide, fun _ => rfl⟩
class BytesT (P : Program) (t : Nat) : Prop where
  h : ∃ e, P.underlying t = some (.slice e) ∧ P.underlying e = some (.int .u8)
end
end Go.Proofs.Ytdndfncpglfdeaa.Ev
/- Rules of a walk: an object behind an interface. Nothing here names a program. -/
namespace Go.Proofs.Ytdndfncpglfdeaa.Ev
set_option linter.unusedVariables false
set_option linter.unusedSimpArgs false
open Go.RowKit
class ConcT (P : Program) (t : Nat) : Prop where
  h : P.concrete t = true
class MethT (P : Program) (t : Nat) (name : String) (f : outParam Nat) : Prop where
  h : ∀ (w : World) (g : Nat), (method (P.types.size + Made.depth) t (.pointer (some ⟨g, 0, none⟩)) name).run P w = .ok (f, .pointer (some ⟨g, 0, none⟩)) w
section
variable {P : Program} {ops : Array Oper} {Q : Exit → St → Prop} {X : List Oper → St → Prop} {rest : List Oper} {d : Nat} {ty : TypeId} {pos : String} {af : Array Edge} {n : Nat} {env : List (Nat × AV)} {heap : List (Nat × Option AB)} {nx : Nat} {gl : List (Nat × List CV)}
end
end Go.Proofs.Ytdndfncpglfdeaa.Ev
/- Rules of a walk: division of numbers of any kind. Nothing here names a program. -/
namespace Go.Proofs.Ytdndfncpglfdeaa.Ev
set_option linter.unusedVariables false
set_option linter.unusedSimpArgs false
open Go.RowKit
section
variable {P : Program} {X : List Oper → St → Prop} {rest : List Oper} {d : Nat} {ty : TypeId} {pos : String} {af : Array Edge} {n : Nat} {env : List (Nat × AV)} {heap : List (Nat × Option AB)} {nx : Nat} {gl : List (Nat × List CV)}
end
end Go.Proofs.Ytdndfncpglfdeaa.Ev
