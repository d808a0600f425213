/- Rules of a walk over abstract states: lists. Nothing here names a program. -/
import Derived.Test.YtokkpocccgdilaaEv6
import Derived.Great.FillDense
import Derived.Great.BuildSlice
namespace Go.Proofs.Ytokkpocccgdilaa.Ev
set_option linter.unusedVariables false
set_option linter.unusedSimpArgs false
open Go.RowKit

theorem flat_len {α : Type} {enc : α → List CV} {size : Nat} (henc : ∀ x, (enc x).length = size) : ∀ l : List α, (l.flatMap enc).length = l.length * size
  | [] => by simp
  | x :: l => by rw [List.flatMap_cons, List.length_append, henc, flat_len henc l, List.length_cons, Nat.add_mul]; omega
theorem flat_drop {α : Type} {enc : α → List CV} {size : Nat} (henc : ∀ x, (enc x).length = size) : ∀ (l : List α) (k : Nat), (l.flatMap enc).drop (k * size) = (l.drop k).flatMap enc
  | [], k => by simp
  | x :: l, 0 => by simp
  | x :: l, k + 1 => by
    rw [List.flatMap_cons, List.drop_succ_cons, ← flat_drop henc l k, Nat.add_mul, Nat.add_comm, Nat.one_mul, ← List.drop_drop, List.drop_append_of_le_length (by rw [henc]; exact Nat.le_refl _), ← henc x, List.drop_length, List.nil_append, henc]
theorem flat_take {α : Type} {enc : α → List CV} {size : Nat} (henc : ∀ x, (enc x).length = size) : ∀ (l : List α) (k : Nat), (l.flatMap enc).take (k * size) = (l.take k).flatMap enc
  | [], k => by simp
  | x :: l, 0 => by simp
  | x :: l, k + 1 => by
    rw [List.flatMap_cons, List.take_succ_cons, List.flatMap_cons, ← flat_take henc l k, Nat.add_mul, Nat.one_mul, List.take_append, henc, List.take_of_length_le (by rw [henc]; omega)]
    congr 2; omega
theorem drop_at {α : Type} {enc : α → List CV} {size : Nat} (I : EncL enc size) (l : List α) (k : Nat) (h : k < l.length) : (l.flatMap enc).drop (k * size) = enc l[k] ++ (l.drop (k + 1)).flatMap enc := by
  rw [flat_drop I.len, List.drop_eq_getElem_cons h, List.flatMap_cons]
theorem drop_atj {α : Type} {enc : α → List CV} {size : Nat} (I : EncL enc size) (l : List α) (k j : Nat) (h : k < l.length) (hj : j ≤ size) : (l.flatMap enc).drop (k * size + j) = (enc l[k]).drop j ++ (l.drop (k + 1)).flatMap enc := by
  rw [← List.drop_drop, drop_at I l k h, List.drop_append_of_le_length (by rw [I.len]; exact hj)]

section
variable {P : Program} {ops : Array Oper} {Q : Exit → St → Prop} {X : List Oper → St → Prop} {rest : List Oper} {st : St} {d : Nat} {ty : TypeId} {pos : String} {af : Array Edge}

theorem run_indexAt {t E size bytes : Nat} (I : SlT P t E size bytes) (w : World) (g o n cap k : Nat) (kk : IntKind) (h : k < n) : (Instr.indexAt t (.slice (some ⟨g, o, none⟩) n cap) (.int kk (k : Int))).run P w = .ok (.pointer (some ⟨g, o + k * size, none⟩)) w := by
  obtain ⟨i, z, h1, h2, h3, h4, h5, h6⟩ := I.out
  have e : (Addr.add ⟨g, o, none⟩ (k * size)) = ⟨g, o + k * size, none⟩ := Kit.addr_add g o _
  simp [Instr.indexAt, run_underlying h1, sizeOf, typeInfo, h2, h4, e, asIntOf, h]

theorem ao_index_l [W : Walk P X] {x i : Operand} {t E size bytes : Nat} [I : SlT P t E size bytes] {xs : List CV} {kk : IntKind} {idx : Int} (k : Nat) (hx : st.ev x = some (.c (.lst size xs))) (hi : st.ev i = some (.c (.v (.int kk idx)))) (hk : idx = (k : Int)) (hlt : k * size < xs.length) (hd : Nat.blt d st.n = true)
    (h : X rest (st.put d (.eptr xs (k * size)))) : X (⟨some d, .indexAddr t x i, ty, pos, af, none⟩ :: rest) st := by
  refine ao_val rfl rfl hd (fun _ _ M a hs => ?_) h
  have hv := hs.ev (by simp [Op.operands, Call.operands]) hx
  have hidx := (hs.ev (by simp [Op.operands, Call.operands]) hi).bool
  subst hk
  generalize he : a.eval x = u at hv
  cases hv with
  | c hv =>
    cases hv with
    | nil => simp at hlt
    | lst cs hn hc hF hcell hr =>
      rename_i blk off n cap
      have hkn : k < n := by rw [hn] at hlt; exact Nat.lt_of_mul_lt_mul_right hlt
      refine ⟨.pointer (some ⟨blk, off + k * size, none⟩), ?_, .eptr cs hF hcell hr⟩
      simp only [execOp, he, hidx]
      rw [Sem.run_bind, run_indexAt I M.w blk off n cap k kk hkn]; rfl
theorem ao_index_f [W : Walk P X] {α : Type} {enc : α → List CV} {x i : Operand} {t E size bytes : Nat} [I : SlT P t E size bytes] {l : List α} {kk : IntKind} {idx : Int} (k : Nat) (hx : st.ev x = some (.c (.lst size (l.flatMap enc)))) (J : EncL enc size) (hi : st.ev i = some (.c (.v (.int kk idx)))) (hk : idx = (k : Int)) (hlt : k < l.length) (hd : Nat.blt d st.n = true)
    (h : X rest (st.put d (.eptr (l.flatMap enc) (k * size)))) : X (⟨some d, .indexAddr t x i, ty, pos, af, none⟩ :: rest) st :=
  ao_index_l k hx hi hk (by rw [flat_len J.len]; exact Nat.mul_lt_mul_of_pos_right hlt J.pos) hd h
theorem ao_index_v [W : Walk P X] {x i : Operand} {t E E' size bytes b n : Nat} [I : SlT P t E size bytes] {xs : List CV} {kk : IntKind} {idx : Int} (k : Nat) (hx : st.ev x = some (.vec b n)) (hH : st.H b = some (.vec E' size xs)) (hn : xs.length = n * size) (hi : st.ev i = some (.c (.v (.int kk idx)))) (hk : idx = (k : Int)) (hlt : k < n) (hd : Nat.blt d st.n = true)
    (h : X rest (st.put d (.vptr b n (k * size)))) : X (⟨some d, .indexAddr t x i, ty, pos, af, none⟩ :: rest) st := by
  refine ao_val rfl rfl hd (fun _ _ M a hs => ?_) h
  have hv := hs.ev (by simp [Op.operands, Call.operands]) hx
  have hidx := (hs.ev (by simp [Op.operands, Call.operands]) hi).bool
  subst hk
  generalize he : a.eval x = u at hv
  cases hv with
  | vec hb ho hh =>
    have hM : M.H b = some (.vec E' size xs) := hs.H _ _ hH
    obtain ⟨h1, h2⟩ := hh E' size xs hM
    obtain ⟨v, n', cs, e1, e2, e3, e4, e5, e6⟩ := hs.sim.heap.vec b E' size xs hM
    rw [h2 hn] at e1; cases e1
    have hnn : n = n' := Nat.eq_of_mul_eq_mul_right e3 (by rw [← hn, e2])
    subst hnn
    rcases e4.2 with ⟨_, hn0⟩ | ⟨g, cap, cur, rfl, f1, f2, f3, f4, f5, f6⟩
    · omega
    · refine ⟨.pointer (some ⟨g, k * size, none⟩), ?_, .vptr hb rfl (fun E2 size2 l2 hl2 => ?_)⟩
      · simp only [execOp, he, hidx]
        have := run_indexAt I M.w g 0 n cap k kk hlt
        rw [Nat.zero_add] at this
        rw [Sem.run_bind, this]; rfl
      · rw [hM] at hl2
        simp only [Option.some.injEq, AB.vec.injEq] at hl2
        obtain ⟨rfl, rfl, rfl⟩ := hl2
        exact ⟨h1, fun _ => ⟨g, cap, h2 hn, rfl⟩⟩

theorem ao_load_f0 [W : Walk P X] {α : Type} {enc : α → List CV} {x : Operand} {t n size k : Nat} {l : List α} {r : α} {y : CV} {ys : List CV} [I : TyC P t false n] (hx : st.ev x = some (.eptr (l.flatMap enc) (k * size))) (J : EncL enc size) (hr : l[k]? = some r) (hy : enc r = y :: ys) (hd : Nat.blt d st.n = true) (h : X rest (st.put d (.c y))) : X (⟨some d, .load t x, ty, pos, af, none⟩ :: rest) st := by
  obtain ⟨hk, rfl⟩ := List.getElem?_eq_some_iff.1 hr
  exact ao_load_e hx (by rw [drop_at J l k hk, hy]; rfl) hd h
theorem ao_load_f [W : Walk P X] {α : Type} {enc : α → List CV} {x : Operand} {t n size k j : Nat} {l : List α} {r : α} {y : CV} {ys : List CV} [I : TyC P t false n] (hx : st.ev x = some (.eptr (l.flatMap enc) (k * size + j))) (J : EncL enc size) (hr : l[k]? = some r) (hj : Nat.ble j size = true) (hy : (enc r).drop j = y :: ys) (hd : Nat.blt d st.n = true) (h : X rest (st.put d (.c y))) : X (⟨some d, .load t x, ty, pos, af, none⟩ :: rest) st := by
  obtain ⟨hk, rfl⟩ := List.getElem?_eq_some_iff.1 hr
  exact ao_load_e hx (by rw [drop_atj J l k j hk (Nat.le_of_ble_eq_true hj), hy]; rfl) hd h
theorem ao_load_fa0 [W : Walk P X] {α : Type} {enc : α → List CV} {x : Operand} {t n size k : Nat} {l : List α} {r : α} {zs : List AV} [I : TyC P t true n] (hx : st.ev x = some (.eptr (l.flatMap enc) (k * size))) (J : EncL enc size) (hr : l[k]? = some r) (hn : Nat.beq n size = true) (hz : (enc r).map .c = zs) (hd : Nat.blt d st.n = true) (h : X rest (st.put d (.agg zs))) : X (⟨some d, .load t x, ty, pos, af, none⟩ :: rest) st := by
  obtain ⟨hk, rfl⟩ := List.getElem?_eq_some_iff.1 hr
  subst hz
  exact ao_load_ea (enc l[k]) hx (drop_at J l k hk) (by rw [J.len, beq_true hn]) hd h
theorem ao_load_fa [W : Walk P X] {α : Type} {enc : α → List CV} {x : Operand} {t n size k j : Nat} {l : List α} {r : α} {zs : List AV} [I : TyC P t true n] (hx : st.ev x = some (.eptr (l.flatMap enc) (k * size + j))) (J : EncL enc size) (hr : l[k]? = some r) (hj : Nat.ble (j + n) size = true) (hz : (((enc r).drop j).take n).map .c = zs) (hd : Nat.blt d st.n = true) (h : X rest (st.put d (.agg zs))) : X (⟨some d, .load t x, ty, pos, af, none⟩ :: rest) st := by
  obtain ⟨hk, rfl⟩ := List.getElem?_eq_some_iff.1 hr
  subst hz
  have hle := Nat.le_of_ble_eq_true hj
  refine ao_load_ea (((enc l[k]).drop j).take n) (ys := ((enc l[k]).drop j).drop n ++ (l.drop (k + 1)).flatMap enc) hx ?_ ?_ hd h
  · rw [drop_atj J l k j hk (by omega), ← List.append_assoc, List.take_append_drop]
  · rw [List.length_take, List.length_drop, J.len]; omega

theorem run_len {t E size bytes : Nat} (I : SlT P t E size bytes) (w : World) (ad : Option Addr) (n cap : Nat) (ty : TypeId) : (Builtin.len_ #[t] ty #[.slice ad n cap]).run P w = .ok (.int .i64 (n : Int)) w := by
  obtain ⟨i, z, h1, h2, h3, h4, h5, h6⟩ := I.out
  simp [Builtin.len_, run_underlying h1, goInt]
theorem ex_len {t E size bytes : Nat} (I : SlT P t E size bytes) {a : Act} {w : World} {ad : Option Addr} {n cap : Nat} {x : Operand} {dst : Option Tmp} (hx : a.eval x = .slice ad n cap) : (execOp a.eval ⟨dst, .call ⟨.builtin .len, #[x], #[t]⟩, ty, pos, af, none⟩).run P w = .ok (.value (.int .i64 (n : Int))) w := by
  simp only [execOp, resolve, List.map_toArray, List.map_cons, List.map_nil, hx]
  simp [invoke, builtin, run_len I w ad n cap]
theorem ao_len_f [W : Walk P X] {α : Type} {enc : α → List CV} {x : Operand} {t E size bytes : Nat} [I : SlT P t E size bytes] {l : List α} (hx : st.ev x = some (.c (.lst size (l.flatMap enc)))) (J : EncL enc size) (hd : Nat.blt d st.n = true) (h : X rest (st.put d (.c (.v (.int .i64 (l.length : Int)))))) : X (⟨some d, .call ⟨.builtin .len, #[x], #[t]⟩, ty, pos, af, none⟩ :: rest) st := by
  refine ao_val rfl rfl hd (fun _ _ M a hs => ?_) h
  have hv := hs.ev (by simp [Op.operands, Call.operands]) hx
  generalize hxs : l.flatMap enc = xs at hv
  have hlen := flat_len J.len l
  rw [hxs] at hlen
  generalize he : a.eval x = u at hv
  cases hv with
  | c hv =>
    cases hv with
    | nil =>
      have h0 : l.length = 0 := by
        simp only [List.length_nil] at hlen
        rcases Nat.mul_eq_zero.1 hlen.symm with h | h
        · exact h
        · exact absurd h (by have := J.pos; omega)
      exact ⟨_, ex_len I he, by rw [h0]; exact .c (.v _)⟩
    | lst cs hn hc hF hcell hr =>
      rename_i n cap
      have : n = l.length := Nat.eq_of_mul_eq_mul_right J.pos (by rw [← hn, hlen])
      subst this
      exact ⟨_, ex_len I he, .c (.v _)⟩
theorem ao_len_nil [W : Walk P X] {x : Operand} {t E size bytes : Nat} [I : SlT P t E size bytes] (hx : st.ev x = some (.c (.v (.slice none 0 0)))) (hd : Nat.blt d st.n = true) (h : X rest (st.put d (.c (.v (.int .i64 0))))) : X (⟨some d, .call ⟨.builtin .len, #[x], #[t]⟩, ty, pos, af, none⟩ :: rest) st :=
  ao_val rfl rfl hd (fun _ _ M a hs => ⟨_, ex_len I (hs.ev (by simp [Op.operands, Call.operands]) hx).bool, .c (.v _)⟩) h
theorem ao_len_v [W : Walk P X] {x : Operand} {t E E' size size' bytes b n : Nat} [I : SlT P t E size bytes] {xs : List CV} (hx : st.ev x = some (.vec b n)) (hH : st.H b = some (.vec E' size' xs)) (hn : xs.length = n * size') (hd : Nat.blt d st.n = true) (h : X rest (st.put d (.c (.v (.int .i64 (n : Int)))))) : X (⟨some d, .call ⟨.builtin .len, #[x], #[t]⟩, ty, pos, af, none⟩ :: rest) st := by
  refine ao_val rfl rfl hd (fun _ _ M a hs => ?_) h
  have hv := hs.ev (by simp [Op.operands, Call.operands]) hx
  generalize he : a.eval x = u at hv
  cases hv with
  | vec hb ho hh =>
    have hM : M.H b = some (.vec E' size' xs) := hs.H _ _ hH
    obtain ⟨h1, h2⟩ := hh E' size' xs hM
    obtain ⟨v, n', cs, e1, e2, e3, e4, e5, e6⟩ := hs.sim.heap.vec b E' size' xs hM
    rw [h2 hn] at e1; cases e1
    have hnn : n = n' := Nat.eq_of_mul_eq_mul_right e3 (by rw [← hn, e2])
    subst hnn
    rcases e4.2 with ⟨rfl, rfl⟩ | ⟨g, cap, cur, rfl, _⟩
    · exact ⟨_, ex_len I he, .c (.v _)⟩
    · exact ⟨_, ex_len I he, .c (.v _)⟩

/-- v[lo:hi] of a list that stands. -/
theorem ao_slice_f [W : Walk P X] {α : Type} {enc : α → List CV} {x p q : Operand} {t E size bytes : Nat} [I : SlT P t E size bytes] {l : List α} {k1 k2 : IntKind} {i1 i2 : Int} (lo hi : Nat) (hx : st.ev x = some (.c (.lst size (l.flatMap enc)))) (J : EncL enc size) (hp : st.ev p = some (.c (.v (.int k1 i1)))) (hq : st.ev q = some (.c (.v (.int k2 i2)))) (h1 : i1 = (lo : Int)) (h2 : i2 = (hi : Int)) (hlo : lo ≤ hi) (hhi : hi ≤ l.length) (hd : Nat.blt d st.n = true)
    (h : X rest (st.put d (.c (.lst size (((l.take hi).drop lo).flatMap enc))))) : X (⟨some d, .slice t x (some p) (some q) none, ty, pos, af, none⟩ :: rest) st := by
  refine ao_val rfl rfl hd (fun _ _ M a hs => ?_) h
  have hv := hs.ev (by simp [Op.operands, Call.operands]) hx
  have e1 := (hs.ev (by simp [Op.operands, Call.operands]) hp).bool
  have e2 := (hs.ev (by simp [Op.operands, Call.operands]) hq).bool
  subst h1; subst h2
  obtain ⟨i, z, f1, f2, f3, f4, f5, f6⟩ := I.out
  generalize hxs : l.flatMap enc = xs at hv
  have hlen := flat_len J.len l
  rw [hxs] at hlen
  generalize he : a.eval x = u at hv
  have hrun : ∀ (ad : Option Addr) (n cap : Nat), n ≤ cap → n = l.length → u = .slice ad n cap → (execOp a.eval ⟨some d, .slice t x (some p) (some q) none, ty, pos, af, none⟩).run P M.w = .ok (.value (.slice (if cap = lo then ad else ad.map (·.add (lo * size))) (hi - lo) (cap - lo))) M.w := by
    intro ad n cap hc hn hu
    subst hu
    simp only [execOp, he, Option.map_some, e1, e2]
    simp [Instr.sliceAt, run_underlying f1, Instr.slice, Instr.sliceBounds, Instr.sliceBound, asIntOf, sizeOf, typeInfo, f2, f4, hlo, show hi ≤ cap by omega]
  have hsub : ∀ (j : Nat) (y : CV), (((l.take hi).drop lo).flatMap enc)[j]? = some y → xs[lo * size + j]? = some y := by
    intro j y hy
    rw [← flat_drop J.len, ← flat_take J.len, hxs, List.getElem?_drop] at hy
    have : lo * size + j < hi * size := by
      have := (List.getElem?_eq_some_iff.1 hy).1
      simp only [List.length_take] at this; omega
    rwa [List.getElem?_take_of_lt this] at hy
  have hslen : (((l.take hi).drop lo).flatMap enc).length = (hi - lo) * size := by
    rw [flat_len J.len]; simp only [List.length_drop, List.length_take]; rw [Nat.min_eq_left hhi]
  cases hv with
  | c hv =>
    cases hv with
    | nil =>
      rename_i cap ad
      have h0 : l.length = 0 := by
        simp only [List.length_nil] at hlen
        rcases Nat.mul_eq_zero.1 hlen.symm with h | h
        · exact h
        · exact absurd h (by have := J.pos; omega)
      refine ⟨_, hrun ad 0 cap (Nat.zero_le _) h0.symm rfl, ?_⟩
      have hl0 : l = [] := List.eq_nil_of_length_eq_zero h0
      subst hl0
      have : hi - lo = 0 := by simp at hhi; omega
      rw [this]
      simp only [List.take_nil, List.drop_nil, List.flatMap_nil]
      exact .c .nil
    | lst cs hn hc hF hcell hr =>
      rename_i blk off n cap
      have hnl : n = l.length := Nat.eq_of_mul_eq_mul_right J.pos (by rw [← hn, hlen])
      refine ⟨_, hrun _ n cap hc hnl rfl, ?_⟩
      have hadd : (Addr.add ⟨blk, off, none⟩ (lo * size)) = ⟨blk, off + lo * size, none⟩ := Kit.addr_add _ _ _
      by_cases hcl : cap = lo
      · have : hi - lo = 0 := by omega
        have hnil : ((l.take hi).drop lo).flatMap enc = [] := List.eq_nil_of_length_eq_zero (by rw [hslen, this]; simp)
        rw [hnil, this]
        exact .c .nil
      · rw [if_neg hcl]
        simp only [Option.map_some, hadd]
        refine .c (.lst (fun j => cs (lo * size + j)) hslen (by omega) hF (fun j y hy => ?_) (fun j y hy => hr _ y (hsub j y hy)))
        have := hcell _ y (hsub j y hy)
        rw [Nat.add_assoc]; exact this
end
end Go.Proofs.Ytokkpocccgdilaa.Ev
