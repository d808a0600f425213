/- EvR Ev16 Ev17 Ev18 Ev19 Ev22 Ev20 Ev23 Ev24: texts laid together. -/
import Derived.Test.YtdndfncpglfdeaaGreatDoorMrgE2
import Derived.WalkSpells

namespace Go.Proofs.YtdndfncpglfdeaaGreatDoor.Ev
set_option linter.unusedVariables false
set_option linter.unusedSimpArgs false
open Go.RowKit
section
variable {P:Program} {ops:Array Oper} {Q:Exit→St→Prop} {X:List Oper→St→Prop} {rest:List Oper} {d:Nat} {ty:TypeId} {pos:String} {af:Array Edge} {n:Nat} {env:List (Nat×AV)} {heap:List (Nat×Option AB)} {nx:Nat} {gl:List (Nat×List CV)}
theorem r_move [W:Walk P X] {x:Operand} {y:AV} (hx:St.ev ⟨n,env,heap,nx,gl⟩ x=some y) (hd:Nat.blt d n=true) (h:X rest ⟨n,(d,y)::env,heap,nx,gl⟩):X (⟨some d,.move x,ty,pos,af,none⟩::rest) ⟨n,env,heap,nx,gl⟩ :=
 ao_move (st:=⟨n,env,heap,nx,gl⟩) hx hd h
theorem r_assign [W:Walk P X] {x:Operand} {y:AV} (hx:St.ev ⟨n,env,heap,nx,gl⟩ x=some y) (hd:Nat.blt d n=true) (h:X rest ⟨n,(d,y)::env,heap,nx,gl⟩):X (⟨some d,.assign x,ty,pos,af,none⟩::rest) ⟨n,env,heap,nx,gl⟩ :=
 ao_assign (st:=⟨n,env,heap,nx,gl⟩) hx hd h
theorem r_pick_t [W:Walk P X] {c x y:Operand} {z:AV} (hc:St.ev ⟨n,env,heap,nx,gl⟩ c=some (.c (.v (.bool true)))) (hx:St.ev ⟨n,env,heap,nx,gl⟩ x=some z) (hd:Nat.blt d n=true) (h:X rest ⟨n,(d,z)::env,heap,nx,gl⟩):X (⟨some d,.pick c x y,ty,pos,af,none⟩::rest) ⟨n,env,heap,nx,gl⟩ :=
 ao_pick_t (st:=⟨n,env,heap,nx,gl⟩) hc hx hd h
theorem r_pick_f [W:Walk P X] {c x y:Operand} {z:AV} (hc:St.ev ⟨n,env,heap,nx,gl⟩ c=some (.c (.v (.bool false)))) (hy:St.ev ⟨n,env,heap,nx,gl⟩ y=some z) (hd:Nat.blt d n=true) (h:X rest ⟨n,(d,z)::env,heap,nx,gl⟩):X (⟨some d,.pick c x y,ty,pos,af,none⟩::rest) ⟨n,env,heap,nx,gl⟩ :=
 ao_pick_f (st:=⟨n,env,heap,nx,gl⟩) hc hy hd h
theorem r_not [W:Walk P X] {x:Operand} {t:TypeId} {b:Bool} (hx:St.ev ⟨n,env,heap,nx,gl⟩ x=some (.c (.v (.bool b)))) (hd:Nat.blt d n=true) (h:X rest ⟨n,(d,(.c (.v (.bool !b))))::env,heap,nx,gl⟩):X (⟨some d,.unOp .not t x,ty,pos,af,none⟩::rest) ⟨n,env,heap,nx,gl⟩ :=
 ao_not (st:=⟨n,env,heap,nx,gl⟩) hx hd h
theorem r_extract [W:Walk P X] {x:Operand} {i:Nat} {xs:List AV} {y:AV} (hx:St.ev ⟨n,env,heap,nx,gl⟩ x=some (.tup xs)) (hi:xs[i]?=some y) (hd:Nat.blt d n=true) (h:X rest ⟨n,(d,y)::env,heap,nx,gl⟩):X (⟨some d,.extract x i,ty,pos,af,none⟩::rest) ⟨n,env,heap,nx,gl⟩ :=
 ao_extract (st:=⟨n,env,heap,nx,gl⟩) hx hi hd h
theorem r_lss [W:Walk P X] {x y:Operand} {t t2:TypeId} {k:IntKind} {a b:Int} (hx:St.ev ⟨n,env,heap,nx,gl⟩ x=some (.c (.v (.int k a)))) (hy:St.ev ⟨n,env,heap,nx,gl⟩ y=some (.c (.v (.int k b)))) (hd:Nat.blt d n=true) (h:X rest ⟨n,(d,(.c (.v (.bool (decide (a < b))))))::env,heap,nx,gl⟩):X (⟨some d,.binOp .lss t x y t2,ty,pos,af,none⟩::rest) ⟨n,env,heap,nx,gl⟩ :=
 ao_lss (st:=⟨n,env,heap,nx,gl⟩) hx hy hd h
theorem r_leq [W:Walk P X] {x y:Operand} {t t2:TypeId} {k:IntKind} {a b:Int} (hx:St.ev ⟨n,env,heap,nx,gl⟩ x=some (.c (.v (.int k a)))) (hy:St.ev ⟨n,env,heap,nx,gl⟩ y=some (.c (.v (.int k b)))) (hd:Nat.blt d n=true) (h:X rest ⟨n,(d,(.c (.v (.bool (decide (a≤b))))))::env,heap,nx,gl⟩):X (⟨some d,.binOp .leq t x y t2,ty,pos,af,none⟩::rest) ⟨n,env,heap,nx,gl⟩ :=
 ao_leq (st:=⟨n,env,heap,nx,gl⟩) hx hy hd h
theorem r_gtr [W:Walk P X] {x y:Operand} {t t2:TypeId} {k:IntKind} {a b:Int} (hx:St.ev ⟨n,env,heap,nx,gl⟩ x=some (.c (.v (.int k a)))) (hy:St.ev ⟨n,env,heap,nx,gl⟩ y=some (.c (.v (.int k b)))) (hd:Nat.blt d n=true) (h:X rest ⟨n,(d,(.c (.v (.bool (decide (a > b))))))::env,heap,nx,gl⟩):X (⟨some d,.binOp .gtr t x y t2,ty,pos,af,none⟩::rest) ⟨n,env,heap,nx,gl⟩ :=
 ao_gtr (st:=⟨n,env,heap,nx,gl⟩) hx hy hd h
theorem r_geq [W:Walk P X] {x y:Operand} {t t2:TypeId} {k:IntKind} {a b:Int} (hx:St.ev ⟨n,env,heap,nx,gl⟩ x=some (.c (.v (.int k a)))) (hy:St.ev ⟨n,env,heap,nx,gl⟩ y=some (.c (.v (.int k b)))) (hd:Nat.blt d n=true) (h:X rest ⟨n,(d,(.c (.v (.bool (decide (a≥b))))))::env,heap,nx,gl⟩):X (⟨some d,.binOp .geq t x y t2,ty,pos,af,none⟩::rest) ⟨n,env,heap,nx,gl⟩ :=
 ao_geq (st:=⟨n,env,heap,nx,gl⟩) hx hy hd h
theorem r_eql [W:Walk P X] {x y:Operand} {t t2:TypeId} {k:IntKind} {a b:Int} (hx:St.ev ⟨n,env,heap,nx,gl⟩ x=some (.c (.v (.int k a)))) (hy:St.ev ⟨n,env,heap,nx,gl⟩ y=some (.c (.v (.int k b)))) (hd:Nat.blt d n=true) (h:X rest ⟨n,(d,(.c (.v (.bool (decide (a=b))))))::env,heap,nx,gl⟩):X (⟨some d,.binOp .eql t x y t2,ty,pos,af,none⟩::rest) ⟨n,env,heap,nx,gl⟩ :=
 ao_eql (st:=⟨n,env,heap,nx,gl⟩) hx hy hd h
theorem r_neq [W:Walk P X] {x y:Operand} {t t2:TypeId} {k:IntKind} {a b:Int} (hx:St.ev ⟨n,env,heap,nx,gl⟩ x=some (.c (.v (.int k a)))) (hy:St.ev ⟨n,env,heap,nx,gl⟩ y=some (.c (.v (.int k b)))) (hd:Nat.blt d n=true) (h:X rest ⟨n,(d,(.c (.v (.bool (!decide (a=b))))))::env,heap,nx,gl⟩):X (⟨some d,.binOp .neq t x y t2,ty,pos,af,none⟩::rest) ⟨n,env,heap,nx,gl⟩ :=
 ao_neq (st:=⟨n,env,heap,nx,gl⟩) hx hy hd h
theorem r_add [W:Walk P X] {x y:Operand} {t t2:TypeId} {a b:Int} (hx:St.ev ⟨n,env,heap,nx,gl⟩ x=some (.c (.v (.int .i64 a)))) (hy:St.ev ⟨n,env,heap,nx,gl⟩ y=some (.c (.v (.int .i64 b)))) (hf:aQ (a+b)) (hd:Nat.blt d n=true) (h:X rest ⟨n,(d,(.c (.v (.int .i64 (a+b)))))::env,heap,nx,gl⟩):X (⟨some d,.binOp .add t x y t2,ty,pos,af,none⟩::rest) ⟨n,env,heap,nx,gl⟩ :=
 ao_add (st:=⟨n,env,heap,nx,gl⟩) hx hy hf hd h
theorem r_sub [W:Walk P X] {x y:Operand} {t t2:TypeId} {a b:Int} (hx:St.ev ⟨n,env,heap,nx,gl⟩ x=some (.c (.v (.int .i64 a)))) (hy:St.ev ⟨n,env,heap,nx,gl⟩ y=some (.c (.v (.int .i64 b)))) (hf:aQ (a - b)) (hd:Nat.blt d n=true) (h:X rest ⟨n,(d,(.c (.v (.int .i64 (a - b)))))::env,heap,nx,gl⟩):X (⟨some d,.binOp .sub t x y t2,ty,pos,af,none⟩::rest) ⟨n,env,heap,nx,gl⟩ :=
 ao_sub (st:=⟨n,env,heap,nx,gl⟩) hx hy hf hd h
theorem r_sub_w [W:Walk P X] {x y:Operand} {t t2:TypeId} {k:IntKind} {a b:Int} (hx:St.ev ⟨n,env,heap,nx,gl⟩ x=some (.c (.v (.int k a)))) (hy:St.ev ⟨n,env,heap,nx,gl⟩ y=some (.c (.v (.int k b)))) (hd:Nat.blt d n=true) (h:X rest ⟨n,(d,(.c (.v (.int k (k.wrap (a - b))))))::env,heap,nx,gl⟩):X (⟨some d,.binOp .sub t x y t2,ty,pos,af,none⟩::rest) ⟨n,env,heap,nx,gl⟩ :=
 ao_sub_w (st:=⟨n,env,heap,nx,gl⟩) hx hy hd h
theorem r_mul [W:Walk P X] {x y:Operand} {t t2:TypeId} {a b:Int} (hx:St.ev ⟨n,env,heap,nx,gl⟩ x=some (.c (.v (.int .i64 a)))) (hy:St.ev ⟨n,env,heap,nx,gl⟩ y=some (.c (.v (.int .i64 b)))) (hf:aQ (a * b)) (hd:Nat.blt d n=true) (h:X rest ⟨n,(d,(.c (.v (.int .i64 (a * b)))))::env,heap,nx,gl⟩):X (⟨some d,.binOp .mul t x y t2,ty,pos,af,none⟩::rest) ⟨n,env,heap,nx,gl⟩ :=
 ao_mul (st:=⟨n,env,heap,nx,gl⟩) hx hy hf hd h
theorem r_quo [W:Walk P X] {x y:Operand} {t t2:TypeId} {a b:Int} (hx:St.ev ⟨n,env,heap,nx,gl⟩ x=some (.c (.v (.int .i64 a)))) (hy:St.ev ⟨n,env,heap,nx,gl⟩ y=some (.c (.v (.int .i64 b)))) (h0:b≠0) (hf:aQ (a.tdiv b)) (hd:Nat.blt d n=true) (h:X rest ⟨n,(d,(.c (.v (.int .i64 (a.tdiv b)))))::env,heap,nx,gl⟩):X (⟨some d,.binOp .quo t x y t2,ty,pos,af,none⟩::rest) ⟨n,env,heap,nx,gl⟩ :=
 ao_quo (st:=⟨n,env,heap,nx,gl⟩) hx hy h0 hf hd h
theorem r_rem [W:Walk P X] {x y:Operand} {t t2:TypeId} {a b:Int} (hx:St.ev ⟨n,env,heap,nx,gl⟩ x=some (.c (.v (.int .i64 a)))) (hy:St.ev ⟨n,env,heap,nx,gl⟩ y=some (.c (.v (.int .i64 b)))) (h0:b≠0) (hd:Nat.blt d n=true) (h:X rest ⟨n,(d,(.c (.v (.int .i64 (a.tmod b)))))::env,heap,nx,gl⟩):X (⟨some d,.binOp .rem t x y t2,ty,pos,af,none⟩::rest) ⟨n,env,heap,nx,gl⟩ :=
 ao_rem (st:=⟨n,env,heap,nx,gl⟩) hx hy h0 hd h
theorem r_max [W:Walk P X] {x y:Operand} {ts:Array TypeId} {k:IntKind} {a b:Int} (hx:St.ev ⟨n,env,heap,nx,gl⟩ x=some (.c (.v (.int k a)))) (hy:St.ev ⟨n,env,heap,nx,gl⟩ y=some (.c (.v (.int k b)))) (hd:Nat.blt d n=true) (h:X rest ⟨n,(d,(.c (.v (.int k (max a b)))))::env,heap,nx,gl⟩):X (⟨some d,.call ⟨.builtin .max,#[x,y],ts⟩,ty,pos,af,none⟩::rest) ⟨n,env,heap,nx,gl⟩ :=
 ao_max (st:=⟨n,env,heap,nx,gl⟩) hx hy hd h
theorem r_min [W:Walk P X] {x y:Operand} {ts:Array TypeId} {k:IntKind} {a b:Int} (hx:St.ev ⟨n,env,heap,nx,gl⟩ x=some (.c (.v (.int k a)))) (hy:St.ev ⟨n,env,heap,nx,gl⟩ y=some (.c (.v (.int k b)))) (hd:Nat.blt d n=true) (h:X rest ⟨n,(d,(.c (.v (.int k (min a b)))))::env,heap,nx,gl⟩):X (⟨some d,.call ⟨.builtin .min,#[x,y],ts⟩,ty,pos,af,none⟩::rest) ⟨n,env,heap,nx,gl⟩ :=
 ao_min (st:=⟨n,env,heap,nx,gl⟩) hx hy hd h
theorem aj {dst:Option Tmp} {op:Op} {j t:Nat} {want b:Bool} (hj:(ops[j]?).bind (·.dst)=some t) (hb:bf t env=some (.c (.v (.bool b)))) (hdst:dst=some d) (hd:Nat.blt d n=true) (h:b=want→aP P ops Q (⟨dst,op,ty,pos,af,none⟩::rest) ⟨n,(t,(.c (.v (.bool want))))::env,heap,nx,gl⟩) (h':b=!want→aP P ops Q rest ⟨n,(d,(.c (.v undef)))::(t,(.c (.v (.bool !want))))::env,heap,nx,gl⟩):aP P ops Q (⟨dst,op,ty,pos,af,some (j,want)⟩::rest) ⟨n,env,heap,nx,gl⟩ :=
 ao_guard (st:=⟨n,env,heap,nx,gl⟩) hj hb hdst hd h h'
theorem r_guard_none {dst:Option Tmp} {op:Op} {j t:Nat} {want:Bool} (hj:(ops[j]?).bind (·.dst)=some t) (hb:bf t env=some (.c (.v undef))) (hdst:dst=some d) (hd:Nat.blt d n=true) (h:aP P ops Q rest ⟨n,(d,(.c (.v undef)))::env,heap,nx,gl⟩):aP P ops Q (⟨dst,op,ty,pos,af,some (j,want)⟩::rest) ⟨n,env,heap,nx,gl⟩ :=
 ao_guard_none (st:=⟨n,env,heap,nx,gl⟩) hj hb hdst hd h
theorem r_field_p [W:Walk P X] {x:Operand} {s i k b off:Nat} [I:FieldAt P s i k] (hx:St.ev ⟨n,env,heap,nx,gl⟩ x=some (.ptr b off)) (hd:Nat.blt d n=true) (h:X rest ⟨n,(d,(.ptr b (off+k)))::env,heap,nx,gl⟩):X (⟨some d,.fieldAddr s x i,ty,pos,af,none⟩::rest) ⟨n,env,heap,nx,gl⟩ :=
 ao_field_p (st:=⟨n,env,heap,nx,gl⟩) hx hd h
theorem r_field_e [W:Walk P X] {x:Operand} {s i k off:Nat} {xs:List CV} [I:FieldAt P s i k] (hx:St.ev ⟨n,env,heap,nx,gl⟩ x=some (.eptr xs off)) (hd:Nat.blt d n=true) (h:X rest ⟨n,(d,(.eptr xs (off+k)))::env,heap,nx,gl⟩):X (⟨some d,.fieldAddr s x i,ty,pos,af,none⟩::rest) ⟨n,env,heap,nx,gl⟩ :=
 ao_field_e (st:=⟨n,env,heap,nx,gl⟩) hx hd h
theorem gm [W:Walk P X] {x:Operand} {t b off n':Nat} {t':TypeId} {l:List AV} {y:AV} [I:TyC P t false n'] (hx:St.ev ⟨n,env,heap,nx,gl⟩ x=some (.ptr b off)) (hH:St.H ⟨n,env,heap,nx,gl⟩ b=some (.cells t' l)) (hy:l[off]?=some y) (hd:Nat.blt d n=true) (h:X rest ⟨n,(d,y)::env,heap,nx,gl⟩):X (⟨some d,.load t x,ty,pos,af,none⟩::rest) ⟨n,env,heap,nx,gl⟩ :=
 ao_load_p (st:=⟨n,env,heap,nx,gl⟩) hx hH hy hd h
theorem r_load_pa [W:Walk P X] {x:Operand} {t b off n':Nat} {t':TypeId} {l:List AV} [I:TyC P t true n'] (ys:List AV) (hx:St.ev ⟨n,env,heap,nx,gl⟩ x=some (.ptr b off)) (hH:St.H ⟨n,env,heap,nx,gl⟩ b=some (.cells t' l)) (hy:(l.drop off).take n'=ys) (hn:ys.length=n') (hd:Nat.blt d n=true) (h:X rest ⟨n,(d,(.agg ys))::env,heap,nx,gl⟩):X (⟨some d,.load t x,ty,pos,af,none⟩::rest) ⟨n,env,heap,nx,gl⟩ :=
 ao_load_pa (st:=⟨n,env,heap,nx,gl⟩) ys hx hH hy hn hd h
theorem dT [W:Walk P X] {x:Operand} {t off n':Nat} {xs:List CV} (zs:List CV) {ys:List CV} [I:TyC P t true n'] (hx:St.ev ⟨n,env,heap,nx,gl⟩ x=some (.eptr xs off)) (hy:xs.drop off=zs++ys) (hn:zs.length=n') (hd:Nat.blt d n=true) (h:X rest ⟨n,(d,(.agg (zs.map .c)))::env,heap,nx,gl⟩):X (⟨some d,.load t x,ty,pos,af,none⟩::rest) ⟨n,env,heap,nx,gl⟩ :=
 ao_load_ea (st:=⟨n,env,heap,nx,gl⟩) zs hx hy hn hd h
theorem r_box {x:Operand} {t:TypeId} {y:AV} (hx:St.ev ⟨n,env,heap,nx,gl⟩ x=some y) (hc:y.cellB=true) (hd:Nat.blt d n=true) (h:aP P ops Q rest ⟨n,(d,(.ptr nx 0))::env,(nx,some (.cells t [y]))::heap,nx+1,gl⟩):aP P ops Q (⟨some d,.box t x,ty,pos,af,none⟩::rest) ⟨n,env,heap,nx,gl⟩ :=
 ao_box (st:=⟨n,env,heap,nx,gl⟩) hx hc hd h
theorem r_box_a {x:Operand} {t:TypeId} {ys:List AV} (hx:St.ev ⟨n,env,heap,nx,gl⟩ x=some (.agg ys)) (hd:Nat.blt d n=true) (h:aP P ops Q rest ⟨n,(d,(.ptr nx 0))::env,(nx,some (.cells t ys))::heap,nx+1,gl⟩):aP P ops Q (⟨some d,.box t x,ty,pos,af,none⟩::rest) ⟨n,env,heap,nx,gl⟩ :=
 ao_box_a (st:=⟨n,env,heap,nx,gl⟩) hx hd h
theorem r_alloc {t:TypeId} {zs:List Value} [I:ZeroT P t zs] (hd:Nat.blt d n=true) (h:aP P ops Q rest ⟨n,(d,(.ptr nx 0))::env,(nx,some (.cells t (zs.map fun z=>.c (.v z))))::heap,nx+1,gl⟩):aP P ops Q (⟨some d,.alloc t,ty,pos,af,none⟩::rest) ⟨n,env,heap,nx,gl⟩ :=
 ao_alloc (st:=⟨n,env,heap,nx,gl⟩) hd h
theorem ip {x z:Operand} {t n' b off:Nat} {ag:Bool} {t':TypeId} {l:List AV} {y:AV} [I:TyC P t ag n'] (hx:St.ev ⟨n,env,heap,nx,gl⟩ x=some (.ptr b off)) (hz:St.ev ⟨n,env,heap,nx,gl⟩ z=some y) (hc:y.cellB=true) (h1:n'=1) (hH:St.H ⟨n,env,heap,nx,gl⟩ b=some (.cells t' l)) (hl:Nat.blt off l.length=true) (h:aP P ops Q rest ⟨n,env,(b,some (.cells t' (l.set off y)))::heap,nx,gl⟩):aP P ops Q (⟨none,.store t x z,ty,pos,af,none⟩::rest) ⟨n,env,heap,nx,gl⟩ :=
 iN (st:=⟨n,env,heap,nx,gl⟩) hx hz hc h1 hH hl h
theorem r_store_pa {x z:Operand} {t n' b off:Nat} {ag:Bool} {t':TypeId} {l ys:List AV} [I:TyC P t ag n'] (hx:St.ev ⟨n,env,heap,nx,gl⟩ x=some (.ptr b off)) (hz:St.ev ⟨n,env,heap,nx,gl⟩ z=some (.agg ys)) (hc:ys.all AV.cellB=true) (h1:ys.length=n') (hH:St.H ⟨n,env,heap,nx,gl⟩ b=some (.cells t' l)) (hl:Nat.ble (off+n') l.length=true) (h:aP P ops Q rest ⟨n,env,(b,some (.cells t' (bA l ys off)))::heap,nx,gl⟩):aP P ops Q (⟨none,.store t x z,ty,pos,af,none⟩::rest) ⟨n,env,heap,nx,gl⟩ :=
 gF (st:=⟨n,env,heap,nx,gl⟩) hx hz hc h1 hH hl h
theorem ah {X:List Oper→St→Prop} [W:Walk P X] {f:FuncId} {args:List Operand} {tys:Array TypeId} {ys:List AV} {zs:List CV} {r:CV} {y:AV} (hys:evs ⟨n,env,heap,nx,gl⟩ args=some ys) (hz0:clF.clFL ys=some zs) (hcon:bm P gl f zs r) (hy:ofC r=y) (hd:Nat.blt d n=true) (h:X rest ⟨n,(d,y)::env,heap,nx,gl⟩):X (⟨some d,.call ⟨.value (.func f),args.toArray,tys⟩,ty,pos,af,none⟩::rest) ⟨n,env,heap,nx,gl⟩ :=
 ao_call (st:=⟨n,env,heap,nx,gl⟩) hys hz0 hcon hy hd h
theorem bD [W:Walk P X] {α:Type} {enc:α→List CV} {x i:Operand} {t E size bytes:Nat} [I:SlT P t E size bytes] {l:List α} {kk:IntKind} {idx:Int} (k:Nat) (hx:St.ev ⟨n,env,heap,nx,gl⟩ x=some (.c (.lst size (l.flatMap enc)))) (J:EncL enc size) (hi:St.ev ⟨n,env,heap,nx,gl⟩ i=some (.c (.v (.int kk idx)))) (hk:idx=(k:Int)) (hlt:k < l.length) (hd:Nat.blt d n=true) (h:X rest ⟨n,(d,(.eptr (l.flatMap enc) (k * size)))::env,heap,nx,gl⟩):X (⟨some d,.indexAddr t x i,ty,pos,af,none⟩::rest) ⟨n,env,heap,nx,gl⟩ :=
 ao_index_f (st:=⟨n,env,heap,nx,gl⟩) k hx J hi hk hlt hd h
theorem r_load_f0 [W:Walk P X] {α:Type} {enc:α→List CV} {x:Operand} {t n' size k:Nat} {l:List α} {r:α} {y:CV} {ys:List CV} [I:TyC P t false n'] (hx:St.ev ⟨n,env,heap,nx,gl⟩ x=some (.eptr (l.flatMap enc) (k * size))) (J:EncL enc size) (hr:l[k]?=some r) (hy:enc r=y::ys) (hd:Nat.blt d n=true) (h:X rest ⟨n,(d,(.c y))::env,heap,nx,gl⟩):X (⟨some d,.load t x,ty,pos,af,none⟩::rest) ⟨n,env,heap,nx,gl⟩ :=
 ao_load_f0 (st:=⟨n,env,heap,nx,gl⟩) hx J hr hy hd h
theorem r_load_f [W:Walk P X] {α:Type} {enc:α→List CV} {x:Operand} {t n' size k j:Nat} {l:List α} {r:α} {y:CV} {ys:List CV} [I:TyC P t false n'] (hx:St.ev ⟨n,env,heap,nx,gl⟩ x=some (.eptr (l.flatMap enc) (k * size+j))) (J:EncL enc size) (hr:l[k]?=some r) (hj:Nat.ble j size=true) (hy:(enc r).drop j=y::ys) (hd:Nat.blt d n=true) (h:X rest ⟨n,(d,(.c y))::env,heap,nx,gl⟩):X (⟨some d,.load t x,ty,pos,af,none⟩::rest) ⟨n,env,heap,nx,gl⟩ :=
 ao_load_f (st:=⟨n,env,heap,nx,gl⟩) hx J hr hj hy hd h
theorem r_load_fa0 [W:Walk P X] {α:Type} {enc:α→List CV} {x:Operand} {t n' size k:Nat} {l:List α} {r:α} {zs:List AV} [I:TyC P t true n'] (hx:St.ev ⟨n,env,heap,nx,gl⟩ x=some (.eptr (l.flatMap enc) (k * size))) (J:EncL enc size) (hr:l[k]?=some r) (hn:Nat.beq n' size=true) (hz:(enc r).map .c=zs) (hd:Nat.blt d n=true) (h:X rest ⟨n,(d,(.agg zs))::env,heap,nx,gl⟩):X (⟨some d,.load t x,ty,pos,af,none⟩::rest) ⟨n,env,heap,nx,gl⟩ :=
 ao_load_fa0 (st:=⟨n,env,heap,nx,gl⟩) hx J hr hn hz hd h
theorem r_load_fa [W:Walk P X] {α:Type} {enc:α→List CV} {x:Operand} {t n' size k j:Nat} {l:List α} {r:α} {zs:List AV} [I:TyC P t true n'] (hx:St.ev ⟨n,env,heap,nx,gl⟩ x=some (.eptr (l.flatMap enc) (k * size+j))) (J:EncL enc size) (hr:l[k]?=some r) (hj:Nat.ble (j+n') size=true) (hz:(((enc r).drop j).take n').map .c=zs) (hd:Nat.blt d n=true) (h:X rest ⟨n,(d,(.agg zs))::env,heap,nx,gl⟩):X (⟨some d,.load t x,ty,pos,af,none⟩::rest) ⟨n,env,heap,nx,gl⟩ :=
 ao_load_fa (st:=⟨n,env,heap,nx,gl⟩) hx J hr hj hz hd h
theorem r_len_f [W:Walk P X] {α:Type} {enc:α→List CV} {x:Operand} {t E size bytes:Nat} [I:SlT P t E size bytes] {l:List α} (hx:St.ev ⟨n,env,heap,nx,gl⟩ x=some (.c (.lst size (l.flatMap enc)))) (J:EncL enc size) (hd:Nat.blt d n=true) (h:X rest ⟨n,(d,(.c (.v (.int .i64 (l.length:Int)))))::env,heap,nx,gl⟩):X (⟨some d,.call ⟨.builtin .len,#[x],#[t]⟩,ty,pos,af,none⟩::rest) ⟨n,env,heap,nx,gl⟩ :=
 ao_len_f (st:=⟨n,env,heap,nx,gl⟩) hx J hd h
theorem r_len_nil [W:Walk P X] {x:Operand} {t E size bytes:Nat} [I:SlT P t E size bytes] (hx:St.ev ⟨n,env,heap,nx,gl⟩ x=some (.c (.v (.slice none 0 0)))) (hd:Nat.blt d n=true) (h:X rest ⟨n,(d,(.c (.v (.int .i64 0))))::env,heap,nx,gl⟩):X (⟨some d,.call ⟨.builtin .len,#[x],#[t]⟩,ty,pos,af,none⟩::rest) ⟨n,env,heap,nx,gl⟩ :=
 ao_len_nil (st:=⟨n,env,heap,nx,gl⟩) hx hd h
theorem r_len_v [W:Walk P X] {x:Operand} {t E E' size size' bytes b n':Nat} [I:SlT P t E size bytes] {xs:List CV} (hx:St.ev ⟨n,env,heap,nx,gl⟩ x=some (.vec b n')) (hH:St.H ⟨n,env,heap,nx,gl⟩ b=some (.vec E' size' xs)) (hn:xs.length=n' * size') (hd:Nat.blt d n=true) (h:X rest ⟨n,(d,(.c (.v (.int .i64 (n':Int)))))::env,heap,nx,gl⟩):X (⟨some d,.call ⟨.builtin .len,#[x],#[t]⟩,ty,pos,af,none⟩::rest) ⟨n,env,heap,nx,gl⟩ :=
 ao_len_v (st:=⟨n,env,heap,nx,gl⟩) hx hH hn hd h
theorem r_slice_f [W:Walk P X] {α:Type} {enc:α→List CV} {x p q:Operand} {t E size bytes:Nat} [I:SlT P t E size bytes] {l:List α} {k1 k2:IntKind} {i1 i2:Int} (lo hi:Nat) (hx:St.ev ⟨n,env,heap,nx,gl⟩ x=some (.c (.lst size (l.flatMap enc)))) (J:EncL enc size) (hp:St.ev ⟨n,env,heap,nx,gl⟩ p=some (.c (.v (.int k1 i1)))) (hq:St.ev ⟨n,env,heap,nx,gl⟩ q=some (.c (.v (.int k2 i2)))) (h1:i1=(lo:Int)) (h2:i2=(hi:Int)) (hlo:lo≤hi) (hhi:hi≤l.length) (hd:Nat.blt d n=true) (h:X rest ⟨n,(d,(.c (.lst size (((l.take hi).drop lo).flatMap enc))))::env,heap,nx,gl⟩):X (⟨some d,.slice t x (some p) (some q) none,ty,pos,af,none⟩::rest) ⟨n,env,heap,nx,gl⟩ :=
 ao_slice_f (st:=⟨n,env,heap,nx,gl⟩) lo hi hx J hp hq h1 h2 hlo hhi hd h
theorem r_build [W:Walk P X] {t:TypeId} {parts:List (Nat×Operand)} {pl:List (Nat×Nat)} {zs:List Value} {ps:List (Nat×AV)} {out:List AV} [I:StrT P t pl zs] (hp:evp ⟨n,env,heap,nx,gl⟩ parts=some ps) (hf:fillA pl (zs.map fun z=>.c (.v z)) ps=some out) (hd:Nat.blt d n=true) (h:X rest ⟨n,(d,(.agg out))::env,heap,nx,gl⟩):X (⟨some d,.build t parts.toArray,ty,pos,af,none⟩::rest) ⟨n,env,heap,nx,gl⟩ :=
 ao_build (st:=⟨n,env,heap,nx,gl⟩) hp hf hd h
theorem r_fieldv_s [W:Walk P X] {x:Operand} {s i off n':Nat} {xs:List AV} {y:AV} [I:FieldV P s i off false n'] (hx:St.ev ⟨n,env,heap,nx,gl⟩ x=some (.agg xs)) (hy:xs[off]?=some y) (hd:Nat.blt d n=true) (h:X rest ⟨n,(d,y)::env,heap,nx,gl⟩):X (⟨some d,.field s x i,ty,pos,af,none⟩::rest) ⟨n,env,heap,nx,gl⟩ :=
 ao_fieldv_s (st:=⟨n,env,heap,nx,gl⟩) hx hy hd h
theorem r_fieldv_a [W:Walk P X] {x:Operand} {s i off n':Nat} {xs:List AV} [I:FieldV P s i off true n'] (hx:St.ev ⟨n,env,heap,nx,gl⟩ x=some (.agg xs)) (hle:Nat.ble (off+n') xs.length=true) (hd:Nat.blt d n=true) (h:X rest ⟨n,(d,(.agg ((xs.drop off).take n')))::env,heap,nx,gl⟩):X (⟨some d,.field s x i,ty,pos,af,none⟩::rest) ⟨n,env,heap,nx,gl⟩ :=
 ao_fieldv_a (st:=⟨n,env,heap,nx,gl⟩) hx hle hd h
theorem bL {L:St→Prop} {rest:List Oper} {d:Nat} {op:Op} {ty:TypeId} {pos:String} {af:Array Edge} {j t:Nat} {want b:Bool} (hj:(ops[j]?).bind (·.dst)=some t) (hb:bf t env=some (.c (.v (.bool b)))) (hd:Nat.blt d n=true) (h:b=want→bW P ops L (⟨some d,op,ty,pos,af,none⟩::rest) ⟨n,env,heap,nx,gl⟩) (h':b=!want→bW P ops L rest ⟨n,(d,(.c (.v undef)))::env,heap,nx,gl⟩):bW P ops L (⟨some d,op,ty,pos,af,some (j,want)⟩::rest) ⟨n,env,heap,nx,gl⟩ :=
 ds_guard (st:=⟨n,env,heap,nx,gl⟩) hj hb hd h h'
theorem rd_guard_n {L:St→Prop} {rest:List Oper} {d:Nat} {op:Op} {ty:TypeId} {pos:String} {af:Array Edge} {j t:Nat} {want:Bool} (hj:(ops[j]?).bind (·.dst)=some t) (hb:bf t env=some (.c (.v undef))) (hd:Nat.blt d n=true) (h:bW P ops L rest ⟨n,(d,(.c (.v undef)))::env,heap,nx,gl⟩):bW P ops L (⟨some d,op,ty,pos,af,some (j,want)⟩::rest) ⟨n,env,heap,nx,gl⟩ :=
 ds_guard_n (st:=⟨n,env,heap,nx,gl⟩) hj hb hd h
theorem dq {α:Type} {enc:α→List CV} {s x:Operand} {t E E2 size bytes b b2 n':Nat} [I:SlT P t E size bytes] {l:List α} {ys:List CV} (x0:α) (hs0:St.ev ⟨n,env,heap,nx,gl⟩ s=some (.vec b n')) (hH:St.H ⟨n,env,heap,nx,gl⟩ b=some (.vec E size (l.flatMap enc))) (J:EncL enc size) (hn:l.length=n') (hx:St.ev ⟨n,env,heap,nx,gl⟩ x=some (.vec b2 1)) (hH2:St.H ⟨n,env,heap,nx,gl⟩ b2=some (.vec E2 size ys)) (hy:ys=enc x0) (hb1:n' < 1000000000000) (hb2:(n'+1) * bytes≤140737488355328) (hd:Nat.blt d n=true) (h:aP P ops Q rest ⟨n,(d,(.vec b (n'+1)))::env,(b,some (.vec E size ((l++[x0]).flatMap enc)))::heap,nx,gl⟩):aP P ops Q (⟨some d,.call ⟨.builtin .append,#[s,x],#[t,t]⟩,ty,pos,af,none⟩::rest) ⟨n,env,heap,nx,gl⟩ :=
 ao_push (st:=⟨n,env,heap,nx,gl⟩) x0 hs0 hH J hn hx hH2 hy hb1 hb2 hd h
theorem aH {α:Type} {enc:α→List CV} {s x:Operand} {t E size bytes b n':Nat} [I:SlT P t E size bytes] {l l2:List α} (hs0:St.ev ⟨n,env,heap,nx,gl⟩ s=some (.vec b n')) (hH:St.H ⟨n,env,heap,nx,gl⟩ b=some (.vec E size (l.flatMap enc))) (J:EncL enc size) (hn:l.length=n') (hx:St.ev ⟨n,env,heap,nx,gl⟩ x=some (.c (.lst size (l2.flatMap enc)))) (hb1:n'+l2.length < 1000000000000) (hb2:(n'+l2.length) * bytes≤140737488355328) (hd:Nat.blt d n=true) (h:aP P ops Q rest ⟨n,(d,(.vec b (n'+l2.length)))::env,(b,some (.vec E size ((l++l2).flatMap enc)))::heap,nx,gl⟩):aP P ops Q (⟨some d,.call ⟨.builtin .append,#[s,x],#[t,t]⟩,ty,pos,af,none⟩::rest) ⟨n,env,heap,nx,gl⟩ :=
 ao_appendl (st:=⟨n,env,heap,nx,gl⟩) hs0 hH J hn hx hb1 hb2 hd h
theorem r_lit {t E size bytes len:Nat} [I:SlT P t E size bytes] {parts:List (Nat×Operand)} {ps:List (Nat×AV)} {zs:List CV} (hp:evp ⟨n,env,heap,nx,gl⟩ parts=some ps) (hi:ps.map (·.1)=List.range len) (hz:lits (ps.map (·.2))=some zs) (hb:litB size (ps.map (·.2))=true) (hl:Nat.ble 1 len=true) (hs2:Nat.ble (len * size) 100000=true) (hd:Nat.blt d n=true) (h:aP P ops Q rest ⟨n,(d,(.vec nx len))::env,(nx,some (.vec E size zs))::heap,nx+1,gl⟩):aP P ops Q (⟨some d,.buildSlice t len parts.toArray,ty,pos,af,none⟩::rest) ⟨n,env,heap,nx,gl⟩ :=
 ao_lit (st:=⟨n,env,heap,nx,gl⟩) hp hi hz hb hl hs2 hd h
theorem r_lit0 {t E size bytes:Nat} [I:SlT P t E size bytes] (hd:Nat.blt d n=true) (h:aP P ops Q rest ⟨n,(d,(.vec nx 0))::env,(nx,some (.vec E size []))::heap,nx+1,gl⟩):aP P ops Q (⟨some d,.buildSlice t 0 #[],ty,pos,af,none⟩::rest) ⟨n,env,heap,nx,gl⟩ :=
 ao_lit0 (st:=⟨n,env,heap,nx,gl⟩) hd h
theorem r_make {α:Type} {enc:α→List CV} {t E size bytes:Nat} {zs:List Value} [I:SlT P t E size bytes] [Z:ZeroT P E zs] {x y:Operand} {k1 k2:IntKind} {i1 i2:Int} (z0:α) (n':Nat) (J:EncL enc size) (hz:enc z0=zs.map .v) (hx:St.ev ⟨n,env,heap,nx,gl⟩ x=some (.c (.v (.int k1 i1)))) (hy:St.ev ⟨n,env,heap,nx,gl⟩ y=some (.c (.v (.int k2 i2)))) (h1:i1=(n':Int)) (h2:i2=(n':Int)) (hb1:n' < 1000000000000) (hb2:bytes * n'≤281474976710656) (hd:Nat.blt d n=true) (h:aP P ops Q rest ⟨n,(d,(.vec nx n'))::env,(nx,some (.vec E size ((List.replicate n' z0).flatMap enc)))::heap,nx+1,gl⟩):aP P ops Q (⟨some d,.makeSlice t x y,ty,pos,af,none⟩::rest) ⟨n,env,heap,nx,gl⟩ :=
 ao_make (st:=⟨n,env,heap,nx,gl⟩) z0 n' J hz hx hy h1 h2 hb1 hb2 hd h
theorem fS {α:Type} {enc:α→List CV} {x z:Operand} {t m b n' k E size:Nat} {ag:Bool} {l:List α} {y:AV} {ys:List CV} [I:TyC P t ag m] (x0:α) (hx:St.ev ⟨n,env,heap,nx,gl⟩ x=some (.vptr b n' (k * size))) (hH:St.H ⟨n,env,heap,nx,gl⟩ b=some (.vec E size (l.flatMap enc))) (J:EncL enc size) (hn:l.length=n') (hk:k < l.length) (hz:St.ev ⟨n,env,heap,nx,gl⟩ z=some y) (hy:cvL y=some ys) (hm:ys.length=m) (hxe:enc x0=ys) (h:aP P ops Q rest ⟨n,env,(b,some (.vec E size ((l.set k x0).flatMap enc)))::heap,nx,gl⟩):aP P ops Q (⟨none,.store t x z,ty,pos,af,none⟩::rest) ⟨n,env,heap,nx,gl⟩ :=
 ao_store_v (st:=⟨n,env,heap,nx,gl⟩) x0 hx hH J hn hk hz hy hm hxe h
theorem ck {l:List Oper} (i:Nat) {b n' E size:Nat} {xs:List CV} (hi:bf i env=some (.vec b n')) (hH:St.H ⟨n,env,heap,nx,gl⟩ b=some (.vec E size xs)) (hn:xs.length=n' * size) (h:aP P ops Q l ⟨n,(i,(.c (.lst size xs)))::env,(b,none)::heap,nx,gl⟩):aP P ops Q l ⟨n,env,heap,nx,gl⟩ :=
 ao_freeze (st:=⟨n,env,heap,nx,gl⟩) i hi hH hn h
theorem r_callv {f:FuncId} {args:List Operand} {tys:Array TypeId} {ys:List AV} {zs:List CV} {r:CV} (hcon:bm P gl f zs r) (hys:evs ⟨n,env,heap,nx,gl⟩ args=some ys) (hz:cl.clL (St.H ⟨n,env,heap,nx,gl⟩) ys zs) (hr:r.plain=true) (hd:Nat.blt d n=true) (h:aP P ops Q rest ⟨n,(d,(ofC r))::env,heap,nx,gl⟩):aP P ops Q (⟨some d,.call ⟨.value (.func f),args.toArray,tys⟩,ty,pos,af,none⟩::rest) ⟨n,env,heap,nx,gl⟩ :=
 ao_callv (st:=⟨n,env,heap,nx,gl⟩) hcon hys hz hr hd h
theorem r_eqs {X:List Oper→St→Prop} [W:Walk P X] {x y:Operand} {t t2 n':Nat} {xs ys:List AV} {as bs:List Int} [I:EqInts P t n'] (hx:St.ev ⟨n,env,heap,nx,gl⟩ x=some (.agg xs)) (hy:St.ev ⟨n,env,heap,nx,gl⟩ y=some (.agg ys)) (ha:ints xs=some as) (hb:ints ys=some bs) (hn:as.length=n') (hn2:bs.length=n') (hd:Nat.blt d n=true) (h:X rest ⟨n,(d,(.c (.v (.bool (decide (as=bs))))))::env,heap,nx,gl⟩):X (⟨some d,.binOp .eql t x y t2,ty,pos,af,none⟩::rest) ⟨n,env,heap,nx,gl⟩ :=
 ao_eqs (st:=⟨n,env,heap,nx,gl⟩) hx hy ha hb hn hn2 hd h
theorem r_neqs {X:List Oper→St→Prop} [W:Walk P X] {x y:Operand} {t t2 n':Nat} {xs ys:List AV} {as bs:List Int} [I:EqInts P t n'] (hx:St.ev ⟨n,env,heap,nx,gl⟩ x=some (.agg xs)) (hy:St.ev ⟨n,env,heap,nx,gl⟩ y=some (.agg ys)) (ha:ints xs=some as) (hb:ints ys=some bs) (hn:as.length=n') (hn2:bs.length=n') (hd:Nat.blt d n=true) (h:X rest ⟨n,(d,(.c (.v (.bool (!decide (as=bs))))))::env,heap,nx,gl⟩):X (⟨some d,.binOp .neq t x y t2,ty,pos,af,none⟩::rest) ⟨n,env,heap,nx,gl⟩ :=
 ao_neqs (st:=⟨n,env,heap,nx,gl⟩) hx hy ha hb hn hn2 hd h
theorem cN [W:Walk P X] {α:Type} {enc:α→List CV} {x i:Operand} {t E E2 size bytes b m:Nat} [I:SlT P t E size bytes] {l:List α} {kk:IntKind} {idx:Int} (k:Nat) (hx:St.ev ⟨n,env,heap,nx,gl⟩ x=some (.vec b m)) (hH:St.H ⟨n,env,heap,nx,gl⟩ b=some (.vec E2 size (l.flatMap enc))) (J:EncL enc size) (hn:l.length=m) (hi:St.ev ⟨n,env,heap,nx,gl⟩ i=some (.c (.v (.int kk idx)))) (hk:idx=(k:Int)) (hlt:k < m) (hd:Nat.blt d n=true) (h:X rest ⟨n,(d,(.vptr b m (k * size)))::env,heap,nx,gl⟩):X (⟨some d,.indexAddr t x i,ty,pos,af,none⟩::rest) ⟨n,env,heap,nx,gl⟩ :=
 ao_index_vf (st:=⟨n,env,heap,nx,gl⟩) k hx hH J hn hi hk hlt hd h
theorem r_load_vf0 [W:Walk P X] {α:Type} {enc:α→List CV} {x:Operand} {t b m q k E size:Nat} {l:List α} {r:α} {y:CV} {ys:List CV} [I:TyC P t false q] (hx:St.ev ⟨n,env,heap,nx,gl⟩ x=some (.vptr b m (k * size))) (hH:St.H ⟨n,env,heap,nx,gl⟩ b=some (.vec E size (l.flatMap enc))) (J:EncL enc size) (hn:l.length=m) (hr:l[k]?=some r) (hy:enc r=y::ys) (hd:Nat.blt d n=true) (h:X rest ⟨n,(d,(.c y))::env,heap,nx,gl⟩):X (⟨some d,.load t x,ty,pos,af,none⟩::rest) ⟨n,env,heap,nx,gl⟩ :=
 ao_load_vf0 (st:=⟨n,env,heap,nx,gl⟩) hx hH J hn hr hy hd h
theorem cK [W:Walk P X] {α:Type} {enc:α→List CV} {x:Operand} {t b m q k E size:Nat} {l:List α} {r:α} {zs:List AV} [I:TyC P t true q] (hx:St.ev ⟨n,env,heap,nx,gl⟩ x=some (.vptr b m (k * size))) (hH:St.H ⟨n,env,heap,nx,gl⟩ b=some (.vec E size (l.flatMap enc))) (J:EncL enc size) (hn:l.length=m) (hr:l[k]?=some r) (hq:Nat.beq q size=true) (hz:(enc r).map .c=zs) (hd:Nat.blt d n=true) (h:X rest ⟨n,(d,(.agg zs))::env,heap,nx,gl⟩):X (⟨some d,.load t x,ty,pos,af,none⟩::rest) ⟨n,env,heap,nx,gl⟩ :=
 ao_load_vfa0 (st:=⟨n,env,heap,nx,gl⟩) hx hH J hn hr hq hz hd h
theorem bg [W:Walk P X] {t E size bytes len:Nat} [I:SlT P t E size bytes] {parts:List (Nat×Operand)} {ps:List (Nat×AV)} {zs:List CV} (hp:evp ⟨n,env,heap,nx,gl⟩ parts=some ps) (hi:ps.map (·.1)=List.range len) (hz:lits (ps.map (·.2))=some zs) (hb:litB size (ps.map (·.2))=true) (hl:Nat.ble 1 len=true) (hs2:Nat.ble (len * size) 100000=true) (hd:Nat.blt d n=true) (h:X rest ⟨n,(d,(.c (.lst size zs)))::env,heap,nx,gl⟩):X (⟨some d,.buildSlice t len parts.toArray,ty,pos,af,none⟩::rest) ⟨n,env,heap,nx,gl⟩ :=
 ao_litq (st:=⟨n,env,heap,nx,gl⟩) hp hi hz hb hl hs2 hd h
theorem r_in {f:FuncId} {fn:Func} {c:Code} {t nt:Nat} {args:List Operand} {tys:Array TypeId} {ys:List AV} {env':List (Nat×AV)} (hf:P.funcs[f]?=some fn) (hb:fn.body=some c) (hr:fn.results=#[.tmp t]) (hcall:bB P f=true) (hnt:fn.ntmps=nt) (hys:evs ⟨n,env,heap,nx,gl⟩ args=some ys) (hn:Nat.ble ys.length nt=true) (he:dl 0 ys=env') (hd:Nat.blt d n=true)
  (h:gf P c (Back t gl (fun y heap nx=>aP P ops Q rest ⟨n,(d,y)::env,heap,nx,gl⟩)) ⟨nt,env',heap,nx,gl⟩):aP P ops Q (⟨some d,.call ⟨.value (.func f),args.toArray,tys⟩,ty,pos,af,none⟩::rest) ⟨n,env,heap,nx,gl⟩:=by
 subst hnt;subst he
 exact ao_in (st:=⟨n,env,heap,nx,gl⟩) hf hb hr hcall hys hn hd h
end
end Go.Proofs.YtdndfncpglfdeaaGreatDoor.Ev

namespace Go.Proofs.YtdndfncpglfdeaaGreatDoor.Ev
set_option linter.unusedVariables false
set_option linter.unusedSimpArgs false
open Go.RowKit
section
variable {P:Program} {ops:Array Oper} {Q:Exit→St→Prop} {rest:List Oper} {d:Nat} {ty:TypeId} {pos:String} {af:Array Edge} {n:Nat} {env:List (Nat×AV)} {heap:List (Nat×Option AB)} {nx:Nat} {gl:List (Nat×List CV)}
theorem bO {c:Code} (b k E size:Nat) {t:TypeId} {l l':List AV} (hH:St.H ⟨n,env,heap,nx,gl⟩ b=some (.cells t l)) (hk:l[k]?=some (.c (.v (.slice none 0 0)))) (hl':l.set k (.vec nx 0)=l') (hpos:Nat.blt 0 size=true)
  (h:gf P c Q ⟨n,env,(b,some (.cells t l'))::(nx,some (.vec E size []))::heap,nx+1,gl⟩):gf P c Q ⟨n,env,heap,nx,gl⟩:=by
 intro base w0 M a hs
 obtain ⟨M',m1,m2,m3,m4⟩:=hs.newNil E size (ba hpos)
 have hbn:b≠nx:=by
  have:=hs.heap.lt b (by rw [hs.H,hH];simp)
  rw [hs.nx] at this
  exact Nat.ne_of_lt this
 have hH':M'.H b=some (.cells t l):=by rw [m3.H,fq,if_neg (Ne.symm hbn)];exact hH
 have hnx:M'.H nx=some (.vec E size []):=by rw [m3.H,fq,if_pos rfl]
 obtain ⟨g,arr,e1,e2,e3,e4,e5,e6⟩:=m3.heap.cells b t l hH'
 have hch:=m3.change (b:=b) (x:=.cells t l') (c:=M'.m b) (w':=M'.w) (by rw [hH'];simp) (fun _ _ _=>rfl) (Nat.le_refl _) rfl rfl rfl
  (fun k hk=>by rw [e1] at hk;simp only [Conc.block,Option.some.injEq] at hk;omega) (fun k hk=>Or.inl hk)
  (fun k hk=>by rw [e1] at hk;simp only [Conc.block,Option.some.injEq] at hk;subst hk;exact e3) (fun g hg=>hg)
  (fun E size l' hx=>by cases hx)
  (fun M'' hext hw hF t2 l2 hx=>by
   simp only [AB.cells.injEq] at hx
   obtain ⟨rfl,rfl⟩:=hx
   refine ⟨g,arr,e1,e2,by exact e4,by rw [← hl',List.length_set];exact e5,fun i y u hy hu=>?_⟩
   rw [← hl',List.getElem?_set] at hy
   split at hy
   ·rename_i hik
    subst hik
    split at hy
    ·simp only [Option.some.injEq] at hy;subst hy
     have hu':=(e6 k _ u hk hu).bool
     subst hu'
     refine RA.mono hext (.vec (by rw [m3.nx];exact Nat.lt_succ_self _) rfl (fun E' s' l'' hl=>?_))
     have hl2:some (AB.vec E size [])=some (.vec E' s' l''):=by rw [← hnx];exact hl
     simp only [Option.some.injEq,AB.vec.injEq] at hl2
     obtain ⟨rfl,rfl,rfl⟩:=hl2
     exact ⟨by simp,fun _=>by rw [← show M.nx=nx from hs.nx];exact m2⟩
    ·cases hy
   ·exact (e6 i y u hy hu).mono hext)
  (fun E size l hx=>by cases hx)
 have hgo:=h base w0 _ a hch.1
 have hw:((M'.set (St.new ⟨n,env,heap,nx,gl⟩ (.vec E size [])) b (.cells t l') (M'.m b) M'.w)).w=M.w:=m1
 rw [hw] at hgo
 exact wp_mono hgo fun e a w=>bN.ext (m4.trans hch.2)
theorem ao_eqnil {st:St} {x y:Operand} {t t2 E sz by':Nat} [I:SlT P t E sz by'] {size:Nat} {xs:List CV} (hx:st.ev x=some (.c (.lst size xs))) (hy:st.ev y=some (.c (.v (.slice none 0 0)))) (hd:Nat.blt d st.n=true)
  (h:∀ b:Bool,(xs≠[]→b=false)→aP P ops Q rest (st.put d (.c (.v (.bool b))))):aP P ops Q (⟨some d,.binOp .eql t x y t2,ty,pos,af,none⟩::rest) st:=by
 intro base w0 M a hs
 have key:∃ b:Bool,(xs≠[]→b=false)∧(execOp a.eval ⟨some d,.binOp .eql t x y t2,ty,pos,af,none⟩).run P M.w=.ok (.value (.bool b)) M.w:=by
  have hI:=I.h
  have ht:P.underlying t=some (.slice E):=by
   unfold slB at hI
   split at hI
   ·rename_i E' he
    split at hI
    ·split at hI
     ·simp only [Option.some.injEq,Prod.mk.injEq] at hI;rw [he,hI.1]
     ·cases hI
    ·cases hI
   ·cases hI
  have h1:=hs.ev hx
  have h2:=(hs.ev hy).bool
  cases h1 with
  | c h1 =>
   generalize hv:a.eval x=v at h1
   simp only [execOp,hv,h2]
   cases h1 with
   | nil =>
    rename_i cap ad
    cases ad with
    | none=>exact ⟨true,fun hh=>absurd rfl hh,by simp [go_sem,eqGuard,Lib.run_eql_slice_nil M.w t E _ _ _ _ _ ht]⟩
    | some ad=>exact ⟨false,fun _=>rfl,by simp [go_sem,eqGuard,Lib.run_eql_slice_nil M.w t E _ _ _ _ _ ht]⟩
   | lst cs hn hc hF hcell hr=>exact ⟨false,fun _=>rfl,by simp [go_sem,eqGuard,Lib.run_eql_slice_nil M.w t E _ _ _ _ _ ht]⟩
 obtain ⟨b,hb,hrun⟩:=key
 exact wl_value rfl hrun (h b hb base w0 M _ (hs.put hd (.c (.v _))))
theorem r_eqnil {x y:Operand} {t t2 E sz by':Nat} [I:SlT P t E sz by'] {size:Nat} {xs:List CV} (hx:St.ev ⟨n,env,heap,nx,gl⟩ x=some (.c (.lst size xs))) (hy:St.ev ⟨n,env,heap,nx,gl⟩ y=some (.c (.v (.slice none 0 0)))) (hd:Nat.blt d n=true)
  (h:∀ b:Bool,(xs≠[]→b=false)→aP P ops Q rest ⟨n,(d,(.c (.v (.bool b))))::env,heap,nx,gl⟩):aP P ops Q (⟨some d,.binOp .eql t x y t2,ty,pos,af,none⟩::rest) ⟨n,env,heap,nx,gl⟩ :=
 ao_eqnil (st:=⟨n,env,heap,nx,gl⟩) hx hy hd h
end
end Go.Proofs.YtdndfncpglfdeaaGreatDoor.Ev

namespace Go.Proofs.YtdndfncpglfdeaaGreatDoor.Ev
set_option linter.unusedVariables false
set_option linter.unusedSimpArgs false
open Go.RowKit
section
variable {P:Program} {X:List Oper→St→Prop} {rest:List Oper} {d:Nat} {ty:TypeId} {pos:String} {af:Array Edge} {n:Nat} {env:List (Nat×AV)} {heap:List (Nat×Option AB)} {nx:Nat} {gl:List (Nat×List CV)}
variable {ops:Array Oper} {Q:Exit→St→Prop}
theorem aw_freezecell {c:Code} (b0 k:Nat) {t:TypeId} {l l':List AV} {b m E size:Nat} {xs:List CV} (hH0:St.H ⟨n,env,heap,nx,gl⟩ b0=some (.cells t l)) (hk:l[k]?=some (.vec b m)) (hH:St.H ⟨n,env,heap,nx,gl⟩ b=some (.vec E size xs)) (hn:xs.length=m * size) (hl':l.set k (.c (.lst size xs))=l')
  (h:gf P c Q ⟨n,env,(b0,some (.cells t l'))::(b,none)::heap,nx,gl⟩):gf P c Q ⟨n,env,heap,nx,gl⟩:=by
 intro base w0 M a hs
 obtain ⟨M',h1,h2,h3,h4⟩:=hs.freeze hH
 have hbn:b0≠b:=by
  rintro rfl
  rw [hH] at hH0;cases hH0
 have hH':M'.H b0=some (.cells t l):=by
  rw [h2.H]
  show St.H ⟨n,env,(b,none)::heap,nx,gl⟩ b0=_
  unfold St.H at hH0 ⊢
  dsimp only at hH0 ⊢
  rw [az,if_neg (Ne.symm hbn)];exact hH0
 obtain ⟨g,arr,e1,e2,e3,e4,e5,e6⟩:=h2.heap.cells b0 t l hH'
 obtain ⟨g',arr',d1,d2,d3,d4,d5,d6⟩:=hs.heap.cells b0 t l (by rw [hs.H];exact hH0)
 have hgg:g'=g:=by
  have:=h3.m b0 g' d1
  rw [e1] at this;cases this;rfl
 subst hgg
 have harr:arr'=arr:=by rw [h1,d4] at e4;cases e4;rfl
 subst harr
 have hch:=h2.change (b:=b0) (x:=.cells t l') (c:=M'.m b0) (w':=M'.w) (by rw [hH'];simp) (fun _ _ _=>rfl) (Nat.le_refl _) rfl rfl rfl
  (fun k hk=>by rw [e1] at hk;simp only [Conc.block,Option.some.injEq] at hk;omega) (fun k hk=>Or.inl hk)
  (fun k hk=>by rw [e1] at hk;simp only [Conc.block,Option.some.injEq] at hk;subst hk;exact e3) (fun g hg=>hg)
  (fun E size l' hx=>by cases hx)
  (fun M'' hext hw hF t2 l2 hx=>by
   simp only [AB.cells.injEq] at hx
   obtain ⟨rfl,rfl⟩:=hx
   refine ⟨g',arr',e1,e2,by exact e4,by rw [← hl',List.length_set];exact e5,fun i y u hy hu=>?_⟩
   rw [← hl',List.getElem?_set] at hy
   split at hy
   ·rename_i hik
    subst hik
    split at hy
    ·simp only [Option.some.injEq] at hy;subst hy
     exact RA.mono hext (.c (h4 m u hn (d6 k _ u hk hu)))
    ·cases hy
   ·exact (e6 i y u hy hu).mono hext)
  (fun E size l hx=>by cases hx)
 have hgo:=h base w0 _ a hch.1
 have hw:(M'.set (St.drop ⟨n,env,heap,nx,gl⟩ b) b0 (.cells t l') (M'.m b0) M'.w).w=M.w:=h1
 rw [hw] at hgo
 exact wp_mono hgo fun e a w=>bN.ext (h3.trans hch.2)
end
end Go.Proofs.YtdndfncpglfdeaaGreatDoor.Ev

namespace Go.Proofs.YtdndfncpglfdeaaGreatDoor.Ev
set_option linter.unusedVariables false
set_option linter.unusedSimpArgs false
open Go.RowKit
class IntT (P:Program) (t:Nat) (k:outParam IntKind):Prop where
 h:P.underlying t=some (.int k)
section
variable {P:Program} {ops:Array Oper} {Q:Exit→St→Prop} {X:List Oper→St→Prop} {rest:List Oper} {d:Nat} {ty:TypeId} {pos:String} {af:Array Edge} {n:Nat} {env:List (Nat×AV)} {heap:List (Nat×Option AB)} {nx:Nat} {gl:List (Nat×List CV)}
theorem r_conv [W:Walk P X] {x:Operand} {t t2:Nat} {k1 k2 k:IntKind} {a b:Int} [I1:IntT P t k1] [I2:IntT P t2 k2] (hx:St.ev ⟨n,env,heap,nx,gl⟩ x=some (.c (.v (.int k a)))) (he:k2.wrap a=b) (hd:Nat.blt d n=true)
  (h:X rest ⟨n,(d,.c (.v (.int k2 b)))::env,heap,nx,gl⟩):X (⟨some d,.convert t t2 x,ty,pos,af,none⟩::rest) ⟨n,env,heap,nx,gl⟩:=by
 refine aY (st:=⟨n,env,heap,nx,gl⟩) rfl rfl hd (fun _ _ M e hs=>⟨.int k2 b,?_,.c (.v _)⟩) h
 have hv:=(hs.ev (by simp [Op.operands]) hx).bool
 simp only [execOp,hv]
 have hk:P.intKind t2=k2:=by unfold Program.intKind;rw [I2.h]
 have:=run_convert_int (P:=P) M.w t t2 k a (by rw [I1.h];rfl) (by rw [hk];exact I2.h)
 rw [hk,he] at this
 rw [Sem.run_bind,this];rfl
theorem gb [W:Walk P X] {f:FuncId} {caps:List Operand} {ys:List AV} (hys:evs ⟨n,env,heap,nx,gl⟩ caps=some ys) (hd:Nat.blt d n=true)
  (h:X rest ⟨n,(d,.fn f ys)::env,heap,nx,gl⟩):X (⟨some d,.makeFunc (.func f) #[] caps.toArray,ty,pos,af,none⟩::rest) ⟨n,env,heap,nx,gl⟩:=by
 refine aY (st:=⟨n,env,heap,nx,gl⟩) rfl rfl hd (fun _ _ M e hs=>⟨.func (.func f) #[] (caps.map e.eval).toArray,?_,?_⟩) h
 ·simp [execOp,Instr.makeFunc]
 ·obtain ⟨e1,e2⟩:=dN hys
  refine .fn (by simp;omega) (fun i x u hx hu=>?_)
  have hi:i < caps.length:=by have:=(List.getElem?_eq_some_iff.1 hx).1;omega
  have:u=e.eval caps[i]:=by simpa [hi] using hu.symm
  subst this
  exact hs.ev (by simp [Op.operands]) (e2 i caps[i] x (by simp [hi]) hx)
theorem run_callf {f:FuncId} {c:Operand} {args:List Operand} {tys:Array TypeId} {dst:Option Tmp} {vs:Array Value} (hc:bB P f=true) (a:Act) (w:World) (hv:a.eval c=.func (.func f) #[] vs) :
  (execOp a.eval ⟨dst,.call ⟨.value c,args.toArray,tys⟩,ty,pos,af,none⟩).run P w=.ok (.enter f ((args.map a.eval).toArray++vs)) w:=by
 unfold bB at hc
 split at hc
 ·rename_i fn hf
  simp only [Bool.and_eq_true,Bool.not_eq_true'] at hc
  obtain ⟨h1,h2⟩:=hc
  cases hb:fn.body with
  | none=>rw [hb] at h2;cases h2
  | some c =>
   simp only [execOp,resolve,hv,Deferred.ofValue]
   have h1':¬ fn.name= "runtime.NumGoroutine":=by simpa using h1
   simp [invoke,callFunc,hf,h1',hb]
 ·cases hc
theorem r_field_e2 [W:Walk P X] {x:Operand} {s i k o j:Nat} {xs:List CV} [I:FieldAt P s i k] (hx:St.ev ⟨n,env,heap,nx,gl⟩ x=some (.eptr xs (o+j))) (hd:Nat.blt d n=true) (h:X rest ⟨n,(d,(.eptr xs (o+(j+k))))::env,heap,nx,gl⟩):X (⟨some d,.fieldAddr s x i,ty,pos,af,none⟩::rest) ⟨n,env,heap,nx,gl⟩ :=
 r_field_e hx hd (by rw [Nat.add_assoc];exact h)
theorem slice_core [W:Walk P X] {α:Type} {enc:α→List CV} {x:Operand} {op:Op} {size:Nat} {l:List α} (lo hi:Nat) (hop:x∈op.operands) (hx:St.ev ⟨n,env,heap,nx,gl⟩ x=some (.c (.lst size (l.flatMap enc)))) (J:EncL enc size) (hlo:lo≤hi) (hhi:hi≤l.length) (hd:Nat.blt d n=true)
  (hrun:∀ base w0 M a,SimO base w0 ⟨n,env,heap,nx,gl⟩ ⟨some d,op,ty,pos,af,none⟩ M a→∀ (ad:Option Addr) (n cap:Nat),n≤cap→n=l.length→a.eval x=.slice ad n cap→(execOp a.eval ⟨some d,op,ty,pos,af,none⟩).run P M.w=.ok (.value (.slice (if cap=lo then ad else ad.map (·.add (lo * size))) (hi - lo) (cap - lo))) M.w)
  (h:X rest ⟨n,(d,(.c (.lst size (((l.take hi).drop lo).flatMap enc))))::env,heap,nx,gl⟩):X (⟨some d,op,ty,pos,af,none⟩::rest) ⟨n,env,heap,nx,gl⟩:=by
 refine aY (st:=⟨n,env,heap,nx,gl⟩) rfl rfl hd (fun base w0 M a hs=>?_) h
 have hv:=hs.ev hop hx
 generalize hxs:l.flatMap enc=xs at hv
 have hlen:=av J.len l
 rw [hxs] at hlen
 have hrun:=hrun base w0 M a hs
 generalize he:a.eval x=u at hv hrun
 have hsub:∀ (j:Nat) (y:CV),(((l.take hi).drop lo).flatMap enc)[j]?=some y→xs[lo * size+j]?=some y:=by
  intro j y hy
  rw [← ij J.len,← flat_take J.len,hxs,List.getElem?_drop] at hy
  have:lo * size+j < hi * size:=by
   have:=(List.getElem?_eq_some_iff.1 hy).1
   simp only [List.length_take] at this;omega
  rwa [List.getElem?_take_of_lt this] at hy
 have hslen:(((l.take hi).drop lo).flatMap enc).length=(hi - lo) * size:=by
  rw [av J.len];simp only [List.length_drop,List.length_take];rw [Nat.min_eq_left hhi]
 cases hv with
 | c hv =>
  cases hv with
  | nil =>
   rename_i cap ad
   have h0:l.length=0:=by
    simp only [List.length_nil] at hlen
    rcases Nat.mul_eq_zero.1 hlen.symm with h|h
    ·exact h
    ·exact absurd h (by have:=J.pos;omega)
   refine ⟨_,hrun ad 0 cap (Nat.zero_le _) h0.symm rfl,?_⟩
   have hl0:l=[]:=List.eq_nil_of_length_eq_zero h0
   subst hl0
   have:hi - lo=0:=by simp at hhi;omega
   rw [this]
   simp only [List.take_nil,List.drop_nil,List.flatMap_nil]
   exact .c .nil
  | lst cs hn hc hF hcell hr =>
   rename_i blk off n cap
   have hnl:n=l.length:=Nat.eq_of_mul_eq_mul_right J.pos (by rw [← hn,hlen])
   refine ⟨_,hrun _ n cap hc hnl rfl,?_⟩
   have hadd:(Addr.add ⟨blk,off,none⟩ (lo * size))=⟨blk,off+lo * size,none⟩:=Kit.addr_add _ _ _
   by_cases hcl:cap=lo
   ·have:hi - lo=0:=by omega
    have hnil:((l.take hi).drop lo).flatMap enc=[]:=List.eq_nil_of_length_eq_zero (by rw [hslen,this];simp)
    rw [hnil,this]
    exact .c .nil
   ·rw [if_neg hcl]
    simp only [Option.map_some,hadd]
    refine .c (.lst (fun j=>cs (lo * size+j)) hslen (by omega) hF (fun j y hy=>?_) (fun j y hy=>hr _ y (hsub j y hy)))
    have:=hcell _ y (hsub j y hy)
    rw [Nat.add_assoc];exact this
theorem r_slice_hi [W:Walk P X] {α:Type} {enc:α→List CV} {x q:Operand} {t E size bytes:Nat} [I:SlT P t E size bytes] {l:List α} {k2:IntKind} {i2:Int} (hi:Nat) (hx:St.ev ⟨n,env,heap,nx,gl⟩ x=some (.c (.lst size (l.flatMap enc)))) (J:EncL enc size) (hq:St.ev ⟨n,env,heap,nx,gl⟩ q=some (.c (.v (.int k2 i2)))) (h2:i2=(hi:Int)) (hhi:hi≤l.length) (hd:Nat.blt d n=true) (h:X rest ⟨n,(d,(.c (.lst size ((l.take hi).flatMap enc))))::env,heap,nx,gl⟩):X (⟨some d,.slice t x none (some q) none,ty,pos,af,none⟩::rest) ⟨n,env,heap,nx,gl⟩:=by
 obtain ⟨i,z,f1,f2,f3,f4,f5,f6⟩:=I.out
 subst h2
 refine slice_core (op:=.slice t x none (some q) none) 0 hi (by simp [Op.operands]) hx J (Nat.zero_le _) hhi hd (fun base w0 M a hs ad n' cap hc hn hu=>?_) (by rw [List.drop_zero];exact h)
 have e2:=(hs.ev (by simp [Op.operands]) hq).bool
 simp only [execOp,hu,Option.map_some,e2]
 simp [Instr.sliceAt,run_underlying f1,Instr.slice,Instr.sliceBounds,Instr.sliceBound,asIntOf,sizeOf,typeInfo,f2,f4,show hi≤cap by omega]
end
end Go.Proofs.YtdndfncpglfdeaaGreatDoor.Ev

namespace Go.Proofs.YtdndfncpglfdeaaGreatDoor.Ev
set_option linter.unusedVariables false
set_option linter.unusedSimpArgs false
open Go.RowKit
section
variable {P:Program} {ops:Array Oper} {md:Region.Mode} {n:Nat} {L:Array Bool→St→Prop}
def two (da db:Nat) (xa xb:AB) (s:St):St:=(((s.new xa).put da (.ptr s.nx 0)).new xb).put db (.ptr (s.nx+1) 0)
end
end Go.Proofs.YtdndfncpglfdeaaGreatDoor.Ev

namespace Go.Proofs.YtdndfncpglfdeaaGreatDoor.Ev
set_option linter.unusedVariables false
set_option linter.unusedSimpArgs false
open Go.RowKit
section
variable {P:Program} {ops:Array Oper} {md:Region.Mode} {n:Nat}
def i0 (md:Region.Mode) (ops:Array Oper) (fin:Array Bool→Bool):List Nat→Array Bool→Bool
 | [],listed=>fin listed
 | i::is,listed=>(Region.ready md ops listed).contains i && Region.free md ops listed i && i0 md ops fin is (listed.setIfInBounds i true)
def pk:List Oper→List Nat→List Oper
 | _,[]=>[]
 | l,i::is=>match l.drop i with
  | o::_=>o::pk l is
  | []=>pk l is
theorem iJ {l:List Oper} {i:Nat} {is:List Nat} {o:Oper} (h:l[i]?=some o):pk l (i::is)=o::pk l is:=by
 have hi:=(List.getElem?_eq_some_iff.1 h)
 obtain ⟨hi,he⟩:=hi
 show (match l.drop i with|o::_=>o::pk l is|[]=>pk l is)=_
 rw [List.drop_eq_getElem_cons hi,he]
end
end Go.Proofs.YtdndfncpglfdeaaGreatDoor.Ev

namespace Go.Proofs.YtdndfncpglfdeaaGreatDoor.Ev
set_option linter.unusedVariables false
set_option linter.unusedSimpArgs false
open Go.RowKit
section
variable {P:Program} {ops:Array Oper}
theorem eY {o:Oper} {a:Act} {K K':Act→World→Prop} {Q Q':Exit→Act→World→Prop} (hk:∀ a w,K a w→K' a w) (hq:∀ e a w,e≠.normal→Q e a w→Q' e a w) {r:Result Next} (h:o.upon P a K Q r):o.upon P a K' Q' r:=by
 cases r with
 | ok n w' =>
  cases n<;>simp only [Oper.upon] at h ⊢ <;>
   first
    | exact hk _ _ h
    | exact Calls.mono h (fun e w'' he=>by cases e<;>first|exact hk _ _ he|exact hq _ _ _ (by intro h;cases h) he|exact (he.elim fun a h=>h.elim fun w h=>⟨a,w,hq _ _ _ (by intro h;cases h) h⟩))
    | exact Rows.mono h (fun _ _ he=>hk _ _ he)
 | halt x w'=>cases x<;>simp only [Oper.upon] at h ⊢<;>exact hq _ _ _ (by intro h;cases h) h
def only (K:St→Prop):Exit→St→Prop
 | .normal,st=>K st
 | _,_=>False
theorem dI {K:St→Prop} {st:St} (h:K st):only K .normal st:=h
end
end Go.Proofs.YtdndfncpglfdeaaGreatDoor.Ev

namespace Go.Proofs.YtdndfncpglfdeaaGreatDoor.Ev
set_option linter.unusedVariables false
set_option linter.unusedSimpArgs false
open Go.RowKit
section
variable {P:Program} {ops:Array Oper} {n:Nat}
structure StEq2 (s t:St):Prop where
 n:s.n=t.n
 H:∀ b,s.H b=t.H b
 nx:s.nx=t.nx
 gl:s.gl=t.gl
 env:∀ i,bf i s.env=bf i t.env
theorem StEq2.refl (s:St):StEq2 s s:=⟨rfl,fun _=>rfl,rfl,rfl,fun _=>rfl⟩
theorem StEq2.symm {s t:St} (h:StEq2 s t):StEq2 t s:=⟨h.n.symm,fun b=>(h.H b).symm,h.nx.symm,h.gl.symm,fun i=>(h.env i).symm⟩
theorem StEq2.put {s t:St} (h:StEq2 s t) (d:Nat) (y:AV):StEq2 (s.put d y) (t.put d y) :=
 ⟨h.n,h.H,h.nx,h.gl,fun i=>by simp only [St.put,az];rw [h.env i]⟩
theorem StEq2.set {s t:St} (h:StEq2 s t) (b:Nat) (x:AB):StEq2 (s.set b x) (t.set b x) :=
 ⟨h.n,fun b'=>by rw [H_set,H_set,h.H b'],h.nx,h.gl,h.env⟩
theorem StEq2.ev {s t:St} (h:StEq2 s t) (x:Operand):s.ev x=t.ev x:=by
 cases x with
 | tmp i=>exact h.env i
 | const v=>rfl
 | global g=>simp only [St.ev];rw [h.gl]
 | func f=>rfl
theorem StEq2.sim {s t:St} (h:StEq2 s t) {base:Nat} {w0:W0} {M:Wd} {a:Act} (hs:Sim base w0 s M a):Sim base w0 t M a :=
 ⟨hs.H.trans (funext h.H),hs.nx.trans h.nx,hs.n.trans h.n,fun i x hx=>hs.env i x (by rw [h.env i];exact hx),fun g xs hg=>hs.gl g xs (by rw [h.gl];exact hg),hs.heap,hs.below,hs.base,hs.defs,hs.old⟩
def St.hide (bs:List Nat) (st:St):St:={ st with heap:=bs.map (fun b=>(b,none))++st.heap }
theorem look_hide (bs:List Nat) (heap:List (Nat×Option AB)) (b:Nat):bf b (bs.map (fun b=>(b,none))++heap)=if b∈bs then some none else bf b heap:=by
 induction bs with
 | nil=>simp
 | cons c bs ih =>
  rw [List.map_cons,List.cons_append,az,ih]
  by_cases h:c=b
  ·subst h;simp
  ·rw [if_neg h]
   by_cases h2:b∈bs
   ·rw [if_pos h2,if_pos (by simp [h2])]
   ·rw [if_neg h2,if_neg (by simp [h2,Ne.symm h])]
theorem f9 (bs:List Nat) (st:St) (b:Nat):(st.hide bs).H b=if b∈bs then none else st.H b:=by
 unfold St.H St.hide
 simp only [look_hide]
 by_cases h:b∈bs
 ·rw [if_pos h,if_pos h]
 ·rw [if_neg h,if_neg h]
def SStep (P:Program) (ops:Array Oper) (o:Oper) (st:St) (b:Nat) (x:AB):Prop :=
 o.guard=none∧o.dst=none∧∀ s:St,s.n=st.n→s.gl=st.gl→s.H b=st.H b→(∀ z∈o.op.operands,s.ev z=st.ev z)→aP P ops (only (fun s'=>s'=s.set b x)) [o] s
theorem SStep.of {o:Oper} {s t:St} {b:Nat} {x:AB} (h:SStep P ops o s b x) (hn:s.n=t.n) (hg:s.gl=t.gl) (hH:s.H b=t.H b) (hev:∀ z∈o.op.operands,s.ev z=t.ev z):SStep P ops o t b x :=
 ⟨h.1,h.2.1,fun u e1 e2 e3 e4=>h.2.2 u (e1.trans hn.symm) (e2.trans hg.symm) (e3.trans hH.symm) (fun z hz=>(e4 z hz).trans (hev z hz).symm)⟩
inductive DG3 (P:Program) (ops:Array Oper) (bs:List Nat) (o:Oper) (st:St):St→Prop
 | q {d:Nat} {y:AV} (h:DY P ops o (st.hide bs) d y):DG3 P ops bs o st (st.put d y)
 | s {b:Nat} {x:AB} (hb:b∈bs) (hlt:b < st.nx) (h:SStep P ops o st b x):DG3 P ops bs o st (st.set b x)
 | a {d:Nat} {x:AB} (h:AOp P o d x) (hd:Nat.blt d st.n=true):DG3 P ops bs o st ((st.new x).put d (.ptr st.nx 0))
theorem StEq2.new {s t:St} (h:StEq2 s t) (x:AB):StEq2 (s.new x) (t.new x) :=
 ⟨h.n,fun b'=>by rw [fq,fq,h.H b',h.nx],by simp only [St.new];rw [h.nx],h.gl,h.env⟩
theorem Fr.set {st:St} (h:Fr st) {b:Nat} (hb:b < st.nx) (x:AB):Fr (st.set b x):=fun b' hb'=>by
 have:st.nx≤b':=hb'
 rw [H_set,if_neg (by omega)];exact h b' this
variable {bs:List Nat}
theorem StEq2.hide {s t:St} (h:StEq2 s t) (bs:List Nat):StEq2 (s.hide bs) (t.hide bs) :=
 ⟨h.n,fun b=>by rw [f9,f9,h.H b],h.nx,h.gl,h.env⟩
theorem DY.eq2 {o:Oper} {s t:St} {d:Nat} {y:AV} (h:DY P ops o s d y) (e:StEq2 s t):DY P ops o t d y :=
 h.of e.n (fun b x hx=>by rw [← e.H];exact hx) e.gl (fun x _=>e.ev x) (fun _ _ q _ _=>e.env q)
theorem DG3.eq {o:Oper} {s t s':St} (h:DG3 P ops bs o s s') (e:StEq2 s t):∃ t',DG3 P ops bs o t t'∧StEq2 s' t':=by
 cases h with
 | q h=>exact ⟨_,.q (h.eq2 (e.hide bs)),e.put _ _⟩
 | s hb hlt h=>exact ⟨_,.s hb (by rw [← e.nx];exact hlt) (h.of e.n e.gl (e.H _) (fun z _=>e.ev z)),e.set _ _⟩
 | a h hd=>exact ⟨_,.a h (by rw [← e.n];exact hd),by rw [e.nx];exact (e.new _).put _ _⟩
def dX (P:Program) (ops:Array Oper) (bs:List Nat) (L:Array Bool→St→Prop):Nat→Array Bool→St→Prop
 | 0,listed,st=>L listed st
 | f+1,listed,st=>Region.ready .any ops listed≠[]∧∀ i∈Region.ready .any ops listed,∃ o st',ops[i]?=some o∧DG3 P ops bs o st st'∧dX P ops bs L f (listed.setIfInBounds i true) st'
variable {L:Array Bool→St→Prop}
theorem dX.eq (hL:∀ listed s t,StEq2 s t→L listed s→L listed t):∀ (f:Nat) (listed:Array Bool) (s t:St),StEq2 s t→dX P ops bs L f listed s→dX P ops bs L f listed t
 | 0,listed,s,t,e,h=>hL listed s t e h
 | f+1,listed,s,t,e,h=>⟨h.1,fun i hi=>by
  obtain ⟨o,s',h2,h3,h4⟩:=h.2 i hi
  obtain ⟨t',h5,h6⟩:=h3.eq e
  exact ⟨o,t',h2,h5,dX.eq hL f _ _ _ h6 h4⟩⟩
theorem StEq2.comm (st:St) {d d':Nat} (h:d≠d') (y y':AV):StEq2 ((st.put d y).put d' y') ((st.put d' y').put d y) :=
 ⟨rfl,fun _=>rfl,rfl,rfl,fun i=>by simp only [St.put,az];by_cases h1:d'=i<;>by_cases h2:d=i<;>simp_all⟩
theorem DAny3_first {i:Nat} {oi:Oper} (hi:ops[i]?=some oi) (hL:∀ listed s t,StEq2 s t→L listed s→L listed t) (hdone:∀ listed st,L listed st→Region.ready .any ops listed=[]) :
  ∀ (f:Nat) (listed:Array Bool) (st:St) (d:Nat) (y:AV),Fr st →
   (∀ j oj,ops[j]?=some oj→j≠i→listed.getD j true=false→(∀ e∈oj.after,Region.binds .any e=true→e.on≠i)→oi.apart ops oj=true) →
   i∈Region.ready .any ops listed→DY P ops oi (st.hide bs) d y→dX P ops bs L f (listed.setIfInBounds i true) (st.put d y)→dX P ops bs L (f+1) listed st:=by
 intro f
 induction f with
 | zero =>
  intro listed st d y fr hfree hr hy H
  refine ⟨fun h0=>(by rw [h0] at hr;cases hr),fun j hj=>?_⟩
  by_cases hji:j=i
  ·subst hji;exact ⟨oi,_,hi,.q hy,H⟩
  ·have:=ready_mono hj hji
   rw [hdone _ _ H] at this;cases this
 | succ f ih =>
  intro listed st d y fr hfree hr hy H
  refine ⟨fun h0=>(by rw [h0] at hr;cases hr),fun j hj=>?_⟩
  by_cases hji:j=i
  ·subst hji;exact ⟨oi,_,hi,.q hy,H⟩
  ·obtain ⟨oj,sj,h2,h3,h4⟩:=H.2 j (ready_mono hj hji)
   obtain ⟨hjun,oj',hoj,hall⟩:=mem_ready.1 hj
   have hoo:oj'=oj:=Option.some.inj (hoj.symm.trans h2)
   subst hoo
   have hnot:∀ e∈oj'.after,Region.binds .any e=true→e.on≠i:=fun e he hb heq=>by
    have h1:=hall e he hb
    have h0:=getD_both (mem_ready.1 hr).1
    rw [heq,h0] at h1
    cases h1
   obtain ⟨a1,a2,a3⟩:=Oper.apart_spec (hfree j oj' hoj hji hjun hnot)
   have hdi:oi.dst=some d:=hy.1
   have hfree':∀ k ok,ops[k]?=some ok→k≠i→(listed.setIfInBounds j true).getD k true=false→(∀ e∈ok.after,Region.binds .any e=true→e.on≠i)→oi.apart ops ok=true:=fun k ok hk hki hun hno=>by
    refine hfree k ok hk hki ?_ hno
    by_cases hjk:j=k
    ·subst hjk;exact hjun
    ·rw [getD_set_ne true hjk] at hun;exact hun
   cases h3 with
   | @q dj yj h3 =>
    have hdj:oj'.dst=some dj:=h3.1
    have hne:d≠dj:=fun e=>a2 d hdi (by rw [hdj,e])
    have h3':DY P ops oj' (st.hide bs) dj yj:=DY.unput (s:=st.hide bs) (d':=d) (y':=y) h3 (a1 d hdi)
    have hy':DY P ops oi ((st.put dj yj).hide bs) d y:=DY.put (s:=st.hide bs) hy yj (a3 dj hdj)
    refine ⟨oj',_,h2,.q h3',?_⟩
    refine ih (listed.setIfInBounds j true) (st.put dj yj) d y (fr.put _ _) hfree' (ready_mono hr (Ne.symm hji)) hy' ?_
    rw [Array.setIfInBounds_comm _ _ hji]
    exact dX.eq hL f _ _ _ (StEq2.comm st hne y yj) h4
   | @a dj x h3 hd3 =>
    have hdj:oj'.dst=some dj:=h3.2.1
    have hne:d≠dj:=fun e=>a2 d hdi (by rw [hdj,e])
    have hy1:DY P ops oi ((st.new x).hide bs) d y:=hy.of rfl (fun b' z hz=>by
     rw [f9] at hz ⊢
     by_cases hm:b'∈bs
     ·rw [if_pos hm] at hz;cases hz
     ·rw [if_neg hm] at hz ⊢
      rw [fq,if_neg]
      ·exact hz
      ·intro e;subst e;rw [fr _ (Nat.le_refl _)] at hz;cases hz) rfl (fun z _=>by cases z<;>rfl) (fun _ _ _ _ _=>rfl)
    have hy':DY P ops oi (((st.new x).put dj (.ptr st.nx 0)).hide bs) d y:=DY.put (s:=(st.new x).hide bs) hy1 _ (a3 dj hdj)
    refine ⟨oj',_,h2,.a h3 hd3,?_⟩
    refine ih (listed.setIfInBounds j true) ((st.new x).put dj (.ptr st.nx 0)) d y ((fr.new x).put _ _) hfree' (ready_mono hr (Ne.symm hji)) hy' ?_
    rw [Array.setIfInBounds_comm _ _ hji]
    exact dX.eq hL f _ _ _ (StEq2.comm (st.new x) hne y _) h4
   | @s b x hb hlt h3 =>
    obtain ⟨l1,l2⟩:=ix (a1 d hdi)
    refine ⟨oj',_,h2,.s hb hlt (h3.of rfl rfl rfl (fun z hz=>ev_put (l1 z hz))),?_⟩
    refine ih (listed.setIfInBounds j true) (st.set b x) d y (fr.set hlt x) hfree' (ready_mono hr (Ne.symm hji)) (hy.of rfl (fun b' z hz=>?_) rfl (fun z _=>by cases z<;>rfl) (fun _ _ _ _ _=>rfl)) ?_
    ·rw [f9] at hz ⊢
     by_cases hm:b'∈bs
     ·rw [if_pos hm] at hz;cases hz
     ·rw [if_neg hm] at hz ⊢
      rw [H_set,if_neg (fun e=>hm (by rw [← e];exact hb))];exact hz
    ·rw [Array.setIfInBounds_comm _ _ hji]
     exact h4
theorem DG3.wp {base:Nat} {w0:W0} {st st':St} {M:Wd} {a:Act} {i:Nat} {o:Oper} {K:Act→World→Prop} {Q':Exit→Act→World→Prop} (hi:ops[i]?=some o) (h:DG3 P ops bs o st st') (hs:Sim base w0 st M a)
  (hK:∀ M' a',Ext M M'→Sim base w0 st' M' a'→K a' M'.w):wpOp P ops Q' i K a M.w:=by
 cases h with
 | q h =>
  refine (h.of (t:=st) rfl (fun b z hz=>?_) rfl (fun z _=>by cases z<;>rfl) (fun _ _ _ _ _=>rfl)).wp hi hs hK
  rw [f9] at hz
  split at hz
  ·cases hz
  ·exact hz
 | @a d x h hd =>
  obtain ⟨g,hdst,hrun⟩:=h
  obtain ⟨u,c,arr,t,e1,e2,e3⟩:=hrun st base w0 M a hs
  unfold wpOp
  simp only [hi]
  rw [if_pos (by simp [Region.wanted,g])]
  refine .inl ?_
  unfold Oper.wp
  rw [e1]
  have:=hK (M.new st x c (.cells arr t)) (a.put o.dst u) (hs.extNew x c _) (by rw [hdst];exact e2.put hd e3)
  exact this
 | @s b x hb hlt h =>
  have hl:=h.2.2 st rfl rfl rfl (fun _ _=>rfl) base w0 M a hs
  have hw:Region.wanted o (yielded ops a.tmps)=true:=by simp [Region.wanted,h.1]
  unfold wpList at hl
  rw [if_pos hw] at hl
  unfold wpOp
  simp only [hi]
  rw [if_pos hw]
  rcases hl with hl|⟨_,a',w',M',st',_,_,_,hf⟩
  ·refine .inl (eY (fun a' w' hk=>?_) (fun e a' w' hne hq=>?_) hl)
   ·obtain ⟨M',st',e1,e2,e3,e4⟩:=hk
    subst e1
    have e4:st'=_:=e4
    subst e4
    exact hK M' a' e3 e2
   ·obtain ⟨M',st',e1,e2,e3,e4⟩:=hq
    cases e<;>first|exact absurd rfl hne|exact e4.elim
  ·exact hf.elim
theorem wpAny_of_DAny3 {base:Nat} {w0:W0} {M0:Wd} {Q:Exit→St→Prop} (hL:∀ listed st M a,L listed st→Sim base w0 st M a→Ext M0 M→wpAny P .any ops (bN base w0 M0 Q) 0 listed a M.w) :
  ∀ (f:Nat) (listed:Array Bool) (st:St) (M:Wd) (a:Act),Sim base w0 st M a→Ext M0 M→dX P ops bs L f listed st→wpAny P .any ops (bN base w0 M0 Q) f listed a M.w
 | 0,listed,st,M,a,hs,he,h=>hL _ _ _ _ h hs he
 | f+1,listed,st,M,a,hs,he,h=>by
  refine ⟨fun h0=>absurd h0 h.1,fun i hi=>?_⟩
  obtain ⟨o,st',h1,h2,h3⟩:=h.2 i hi
  exact h2.wp h1 hs fun M' a' hext hs'=>wpAny_of_DAny3 hL f _ _ M' a' hs' (he.trans hext) h3
def ends (P:Program) (ops:Array Oper) (Q:Exit→St→Prop):Array Bool→St→Prop:=fun listed st=>Region.ready .any ops listed=[]∧aP P ops Q [] st
def setAll:List Nat→Array Bool→Array Bool
 | [],listed=>listed
 | i::is,listed=>setAll is (listed.setIfInBounds i true)
theorem ends_eq {Q:Exit→St→Prop}:∀ listed s t,StEq2 s t→ends P ops Q listed s→ends P ops Q listed t:=fun _ _ _ e hh=>⟨hh.1,fun base w0 M a hs'=>hh.2 base w0 M a (e.symm.sim hs')⟩
theorem DAny3_ord {k:Nat} {Q:Exit→St→Prop} {hp:List (Nat×Option AB)}:∀ (is:List Nat) (listed:Array Bool) (st:St),st.heap=hp→Fr st→i0 .any ops (fun _=>true) is listed=true →
  bW P ops (fun s=>dX P ops bs (ends P ops Q) k (setAll is listed) { s with heap:=hp }) (pk ops.toList is) (st.hide bs)→dX P ops bs (ends P ops Q) (is.length+k) listed st
 | [],listed,st,hhp,_,_,h=>by
  rw [List.length_nil,Nat.zero_add]
  have h:dX P ops bs (ends P ops Q) k listed { st.hide bs with heap:=hp }:=h
  rw [← hhp] at h
  exact h
 | i::is,listed,st,hhp,fr,hB,h=>by
  unfold i0 at hB
  simp only [Bool.and_eq_true] at hB
  obtain ⟨⟨hr,hf⟩,hB'⟩:=hB
  have hr':i∈Region.ready .any ops listed:=by simpa using hr
  obtain ⟨_,o,h0,_⟩:=mem_ready.1 hr'
  rw [iJ (by simpa using h0)] at h
  obtain ⟨d,y,hy,hK⟩:=h
  have:=DAny3_first h0 ends_eq (fun listed' st' hL=>hL.1) (is.length+k) listed st d y fr (Region.free_spec h0 hf) hr' hy
   (DAny3_ord is _ (st.put d y) hhp (fr.put _ _) hB' hK)
  rw [List.length_cons,show is.length+1+k=is.length+k+1 by omega]
  exact this
def drawSB (ops:Array Oper) (is:List Nat) (k:Nat):Bool:=Region.noSelect ops && Nat.beq (is.length+k) ops.size && i0 .any ops (fun _=>true) is (Array.replicate ops.size false)
theorem aw_drawS {id:Nat} {l:List Oper} {Q:Exit→St→Prop} {nn nx:Nat} {env:List (Nat×AV)} {heap:List (Nat×Option AB)} {gl:List (Nat×List CV)} [m:Mixed P] (bs is:List Nat) (k:Nat) (hB:drawSB l.toArray is k=true) (hf:frB heap nx=true)
  (h:bW P l.toArray (fun s=>dX P l.toArray bs (ends P l.toArray Q) k (setAll is (Array.replicate (is.length+k) false)) { s with heap:=heap }) (pk l is) ⟨nn,env,bs.map (fun b=>(b,none))++heap,nx,gl⟩):gf P (.region id l.toArray true) Q ⟨nn,env,heap,nx,gl⟩:=by
 simp only [drawSB,Bool.and_eq_true] at hB
 obtain ⟨⟨hsel,hlen⟩,hord⟩:=hB
 have hlen:=cu hlen
 intro base w0 M a hs
 rw [hlen] at h
 have H:=DAny3_ord (P:=P) (ops:=l.toArray) (bs:=bs) (k:=k) (Q:=Q) (hp:=heap) is _ ⟨nn,env,heap,nx,gl⟩ rfl (fr_of hf) hord h
 refine wp_region_any m.h ?_
 have:=wpAny_of_DAny3 (P:=P) (ops:=l.toArray) (bs:=bs) (base:=base) (w0:=w0) (M0:=M) (Q:=Q) (fun listed st' M' a' hL hs' he=>by
  have h1:=aM (fun e a w=>bN.ext he) _ _ _ (hL.2 base w0 M' a' hs')
  exact ⟨hL.1,h1⟩) (is.length+k) (Array.replicate l.toArray.size false) _ M.drew a hs.drew (Ext.drew M) H
 rw [hlen] at this
 exact this
section
variable {i nn nx k:Nat} {env:List (Nat×AV)} {heap:List (Nat×Option AB)} {gl:List (Nat×List CV)} {listed:Array Bool} {ty:TypeId} {pos:String} {af:Array Edge}
def D3 (P:Program) (ops:Array Oper) (bs:List Nat) (L:Array Bool→St→Prop) (k i:Nat) (listed:Array Bool) (st:St):Prop :=
 ∃ o st',ops[i]?=some o∧DG3 P ops bs o st st'∧dX P ops bs L k (listed.setIfInBounds i true) st'
theorem ds_nilS {heap':List (Nat×Option AB)} (h:dX P ops bs L k listed ⟨nn,env,heap,nx,gl⟩):bW P ops (fun s=>dX P ops bs L k listed { s with heap:=heap }) [] ⟨nn,env,heap',nx,gl⟩:=h
theorem bE {st:St} (is:List Nat) (hr:Region.ready .any ops listed=is) (hne:is.isEmpty=false) (h:∀ i∈is,D3 P ops bs L k i listed st):dX P ops bs L (k+1) listed st :=
 ⟨fun h0=>(by rw [hr] at h0;subst h0;cases hne),fun i hi=>h i (by rw [← hr];exact hi)⟩
theorem d3_none {st:St}:∀ i∈([]:List Nat),D3 P ops bs L k i listed st:=fun _ h=>by cases h
theorem d3_nil {Q:Exit→St→Prop} {st:St} (hr:Region.ready .any ops listed=[]) (h:aP P ops Q [] st):dX P ops bs (ends P ops Q) 0 listed st:=⟨hr,h⟩
theorem d3_a {d:Nat} {t:TypeId} {zs:List Value} (hi:ops[i]?=some ⟨some d,.alloc t,ty,pos,af,none⟩) (I:ZeroT P t zs) (hd:Nat.blt d nn=true) (h:dX P ops bs L k (listed.setIfInBounds i true) ⟨nn,(d,.ptr nx 0)::env,(nx,some (.cells t (zs.map fun z=>.c (.v z))))::heap,nx+1,gl⟩):D3 P ops bs L k i listed ⟨nn,env,heap,nx,gl⟩ :=
 ⟨_,_,hi,.a (d:=d) (x:=.cells t (zs.map fun z=>.c (.v z))) (br (I:=I)) hd,h⟩
theorem d3_pa {x z:Operand} {t n' b off:Nat} {ag:Bool} {t':TypeId} {l ys:List AV} (hi:ops[i]?=some ⟨none,.store t x z,ty,pos,af,none⟩) (I:TyC P t ag n') (hx:St.ev ⟨nn,env,heap,nx,gl⟩ x=some (.ptr b off)) (hz:St.ev ⟨nn,env,heap,nx,gl⟩ z=some (.agg ys)) (hc:ys.all AV.cellB=true) (h1:ys.length=n') (hH:St.H ⟨nn,env,heap,nx,gl⟩ b=some (.cells t' l)) (hl:Nat.ble (off+n') l.length=true) (hb:bs.contains b=true) (hlt:Nat.blt b nx=true)
  (h:dX P ops bs L k (listed.setIfInBounds i true) ⟨nn,env,(b,some (.cells t' (bA l ys off)))::heap,nx,gl⟩):D3 P ops bs L k i listed ⟨nn,env,heap,nx,gl⟩ :=
 ⟨_,_,hi,.s (b:=b) (x:=.cells t' (bA l ys off)) (by simpa using hb) (ba hlt) ⟨rfl,rfl,fun s e1 e2 e3 e4=>gF (l:=l) (t':=t') (st:=s) ((e4 x (by simp [Op.operands])).trans hx) ((e4 z (by simp [Op.operands])).trans hz) hc h1 (e3.trans hH) hl (ao_nil (dI rfl))⟩,h⟩
theorem d3_p {x z:Operand} {t n' b off:Nat} {ag:Bool} {t':TypeId} {l:List AV} {y:AV} (hi:ops[i]?=some ⟨none,.store t x z,ty,pos,af,none⟩) (I:TyC P t ag n') (hx:St.ev ⟨nn,env,heap,nx,gl⟩ x=some (.ptr b off)) (hz:St.ev ⟨nn,env,heap,nx,gl⟩ z=some y) (hc:y.cellB=true) (h1:n'=1) (hH:St.H ⟨nn,env,heap,nx,gl⟩ b=some (.cells t' l)) (hl:Nat.blt off l.length=true) (hb:bs.contains b=true) (hlt:Nat.blt b nx=true)
  (h:dX P ops bs L k (listed.setIfInBounds i true) ⟨nn,env,(b,some (.cells t' (l.set off y)))::heap,nx,gl⟩):D3 P ops bs L k i listed ⟨nn,env,heap,nx,gl⟩ :=
 ⟨_,_,hi,.s (b:=b) (x:=.cells t' (l.set off y)) (by simpa using hb) (ba hlt) ⟨rfl,rfl,fun s e1 e2 e3 e4=>iN (l:=l) (t':=t') (st:=s) ((e4 x (by simp [Op.operands])).trans hx) ((e4 z (by simp [Op.operands])).trans hz) hc h1 (e3.trans hH) hl (ao_nil (dI rfl))⟩,h⟩
end
end
end Go.Proofs.YtdndfncpglfdeaaGreatDoor.Ev

namespace Go.Proofs.YtdndfncpglfdeaaGreatDoor.Ev
set_option linter.unusedVariables false
set_option linter.unusedSimpArgs false
open Go.RowKit
section
variable {P:Program} {ops:Array Oper} {Q:Exit→St→Prop} {X:List Oper→St→Prop} {rest:List Oper} {d:Nat} {ty:TypeId} {pos:String} {af:Array Edge} {n:Nat} {env:List (Nat×AV)} {heap:List (Nat×Option AB)} {nx:Nat} {gl:List (Nat×List CV)}
abbrev fnV (f:FuncId):CV:=.v (.func (.func f) #[] #[])
theorem r_callfv [W:Walk P X] {f:FuncId} {cf:Operand} {args:List Operand} {tys:Array TypeId} {ys:List AV} {zs:List CV} {r:CV} {y:AV} (hcf:St.ev ⟨n,env,heap,nx,gl⟩ cf=some (.c (fnV f))) (hys:evs ⟨n,env,heap,nx,gl⟩ args=some ys) (hz0:clF.clFL ys=some zs) (hcon:bm P gl f zs r) (hy:ofC r=y) (hd:Nat.blt d n=true)
  (h:X rest ⟨n,(d,y)::env,heap,nx,gl⟩):X (⟨some d,.call ⟨.value cf,args.toArray,tys⟩,ty,pos,af,none⟩::rest) ⟨n,env,heap,nx,gl⟩:=by
 subst hy
 have hz:cl.clL (fun _=>none) ys zs:=iM hz0
 refine W.step rfl rfl hd (fun base w0 M a hs K Q hK=>?_) h
 obtain ⟨e1,e2⟩:=dN hys
 obtain ⟨e3,e4⟩:=gG hz
 have hfv:=(hs.ev (by simp [Op.operands,Call.operands]) hcf).bool
 unfold Oper.wp
 rw [run_callf (vs:=#[]) hcon.1 a M.w hfv]
 refine Calls.mono (hcon.2 M.w M.F _ hs.sim.heap.frz (fun g xs hg=>?_) (by simp;omega) (fun i x u hx hu=>?_)) (fun e w'' hR=>?_)
 ·have:=hs.sim.gl g xs hg
  generalize hq:Value.pointer (some ⟨g,0,none⟩)=q at this ⊢
  cases this with
  | eptr cs hF hcell hr=>exact .eptr cs hF hcell hr
 ·have hi:i < args.length:=by have:=(List.getElem?_eq_some_iff.1 hx).1;omega
  obtain ⟨y,hy⟩:∃ y,ys[i]?=some y:=⟨_,List.getElem?_eq_getElem (by omega)⟩
  have hev:=hs.ev (by simp [Op.operands,Call.operands];exact Or.inr (List.getElem_mem hi)) (e2 i args[i] y (by simp [hi]) hy)
  have hu':a.eval args[i]=u:=by simpa [hi] using hu
  rw [hu'] at hev
  exact il hs.sim.heap (F':=M.F) (fun _ h=>h) (fun b E s l h=>by cases h) hev (e4 i y x hy hx)
 ·obtain ⟨v,rfl,hb,hrc⟩:=hR
  exact hK v (M.after w'') (Ext.after hb hs.sim.heap.frz) (fun s hs'=>hs'.after hb) (RA.ofC (M:=M.after w'') hrc)
def fnc:AV→AV
 | .fn f []=>.c (fnV f)
 | x=>x
theorem RA.fnc {M:Wd} {x:AV} {u:Value} (h:RA M x u):RA M (fnc x) u:=by
 cases h with
 | @fn f xs vs hl hh =>
  cases xs with
  | nil =>
   have:vs=#[]:=Array.eq_empty_of_size_eq_zero (by simpa using hl.symm)
   subst this;exact .c (.v _)
  | cons x xs=>exact .fn hl hh
 | c h=>exact .c h
 | agg hl hh=>exact .agg hl hh
 | tup hl hh=>exact .tup hl hh
 | ptr h=>exact .ptr h
 | vec hb ho hh=>exact .vec hb ho hh
 | vptr hb ho hh=>exact .vptr hb ho hh
 | eptr cs hF hc hr=>exact .eptr cs hF hc hr
 | ghost hb ho hh=>exact .ghost hb ho hh
 | ref hb ho=>exact .ref hb ho
end
end Go.Proofs.YtdndfncpglfdeaaGreatDoor.Ev
