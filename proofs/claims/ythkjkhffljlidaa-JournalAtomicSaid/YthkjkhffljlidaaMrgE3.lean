/- Ev27 Ev28 Ev29 Ev30 Ev31 Ev32 Ev33 Ev34 Ev35 Ev36 Ev37: texts laid together. -/
import Derived.Test.YthkjkhffljlidaaMrgE2
import Derived.Laws.Concat
import Derived.Laws.Strings2
import Derived.Laws.Strings3
import Derived.Laws.IdiomStrings
import Derived.Laws.Build
import Derived.Laws.Slices
/- Rules of a walk: strings, arrays as values, closures with a result in a slot. Nothing here names a program. -/
namespace Go.Proofs.Ythkjkhffljlidaa.Ev
set_option linter.unusedVariables false
set_option linter.unusedSimpArgs false
open Go.RowKit
section
variable {P : Program} {ops : Array Oper} {Q : Exit → St → Prop} {X : List Oper → St → Prop} {rest : List Oper} {d : Nat} {ty : TypeId} {pos : String} {af : Array Edge} {n : Nat} {env : List (Nat × AV)} {heap : List (Nat × Option AB)} {nx : Nat} {gl : List (Nat × List CV)}
class StrTy (P : Program) (t : Nat) : Prop where
  h : P.underlying t = some .string
def bt (s : ByteArray) (k : Nat) : Int := ((s.data.toList.getD k 0).toNat : Int)
theorem str_get (s : ByteArray) (k : Nat) (h : k < s.size) : ∃ b, s[k]? = some b ∧ (b.toNat : Int) = bt s k := by
  refine ⟨s[k], getElem?_pos s k h, ?_⟩
  unfold bt
  have h2 : k < s.data.toList.length := by simpa using h
  rw [List.getD_eq_getElem?_getD, List.getElem?_eq_getElem h2]
  rfl
theorem r_len_s [W : Walk P X] {x : Operand} {t : TypeId} {s : ByteArray} [I : StrTy P t] (hx : St.ev ⟨n, env, heap, nx, gl⟩ x = some (.c (.v (.string s)))) (hd : Nat.blt d n = true) (h : X rest ⟨n, (d, .c (.v (.int .i64 (s.size : Int)))) :: env, heap, nx, gl⟩) : X (⟨some d, .call ⟨.builtin .len, #[x], #[t]⟩, ty, pos, af, none⟩ :: rest) ⟨n, env, heap, nx, gl⟩ := by
  refine ao_val (st := ⟨n, env, heap, nx, gl⟩) rfl rfl hd (fun _ _ M e hs => ⟨.int .i64 (s.size : Int), ?_, .c (.v _)⟩) h
  have hv := (hs.ev (by simp [Op.operands, Call.operands]) hx).bool
  simp only [execOp, resolve, List.map_toArray, List.map_cons, List.map_nil, hv]
  simp [invoke, builtin, Builtin.len_, run_underlying I.h, goInt]
theorem r_index_s [W : Walk P X] {x y : Operand} {t : TypeId} {s : ByteArray} {kk : IntKind} {idx : Int} [I : StrTy P t] (k : Nat) (hx : St.ev ⟨n, env, heap, nx, gl⟩ x = some (.c (.v (.string s)))) (hy : St.ev ⟨n, env, heap, nx, gl⟩ y = some (.c (.v (.int kk idx)))) (hk : idx = (k : Int)) (hlt : k < s.size) (hd : Nat.blt d n = true) (h : X rest ⟨n, (d, .c (.v (.int .u8 (bt s k)))) :: env, heap, nx, gl⟩) : X (⟨some d, .index t x y, ty, pos, af, none⟩ :: rest) ⟨n, env, heap, nx, gl⟩ := by
  obtain ⟨b, h1, h2⟩ := str_get s k hlt
  refine ao_val (st := ⟨n, env, heap, nx, gl⟩) rfl rfl hd (fun _ _ M e hs => ⟨.int .u8 (bt s k), ?_, .c (.v _)⟩) h
  simp only [execOp, (hs.ev (by simp [Op.operands, Call.operands]) hx).bool, (hs.ev (by simp [Op.operands, Call.operands]) hy).bool]
  subst hk
  simp [Instr.index, asIntOf, run_underlying I.h, h1, h2]
theorem r_eqstr [W : Walk P X] {x y : Operand} {t t2 : TypeId} {a b : ByteArray} (hx : St.ev ⟨n, env, heap, nx, gl⟩ x = some (.c (.v (.string a)))) (hy : St.ev ⟨n, env, heap, nx, gl⟩ y = some (.c (.v (.string b)))) (hd : Nat.blt d n = true) (h : X rest ⟨n, (d, .c (.v (.bool (a.toList == b.toList)))) :: env, heap, nx, gl⟩) : X (⟨some d, .binOp .eql t x y t2, ty, pos, af, none⟩ :: rest) ⟨n, env, heap, nx, gl⟩ := by
  refine ao_val (st := ⟨n, env, heap, nx, gl⟩) rfl rfl hd (fun _ _ M e hs => ⟨.bool (a.toList == b.toList), ?_, .c (.v _)⟩) h
  simp only [execOp, (hs.ev (by simp [Op.operands, Call.operands]) hx).bool, (hs.ev (by simp [Op.operands, Call.operands]) hy).bool]
  rfl
end
end Go.Proofs.Ythkjkhffljlidaa.Ev
/- Rules of a walk: an array as a value. Nothing here names a program. -/
namespace Go.Proofs.Ythkjkhffljlidaa.Ev
set_option linter.unusedVariables false
set_option linter.unusedSimpArgs false
open Go.RowKit
section
variable {P : Program} {ops : Array Oper} {Q : Exit → St → Prop} {X : List Oper → St → Prop} {rest : List Oper} {d : Nat} {ty : TypeId} {pos : String} {af : Array Edge} {n : Nat} {env : List (Nat × AV)} {heap : List (Nat × Option AB)} {nx : Nat} {gl : List (Nat × List CV)}
def arrTB (P : Program) (t len : Nat) : Bool :=
  match P.underlying t with
  | some (.array l e) => match tyB P e with
    | some (false, s) => l == len && s == 1
    | _ => false
  | _ => false
class ArrT (P : Program) (t : Nat) (len : outParam Nat) : Prop where
  h : arrTB P t len = true
end
end Go.Proofs.Ythkjkhffljlidaa.Ev
/- Rules of a walk: the making of an array value. Nothing here names a program. -/
namespace Go.Proofs.Ythkjkhffljlidaa.Ev
set_option linter.unusedVariables false
set_option linter.unusedSimpArgs false
open Go.RowKit
section
variable {P : Program} {ops : Array Oper} {Q : Exit → St → Prop} {X : List Oper → St → Prop} {rest : List Oper} {d : Nat} {ty : TypeId} {pos : String} {af : Array Edge} {n : Nat} {env : List (Nat × AV)} {heap : List (Nat × Option AB)} {nx : Nat} {gl : List (Nat × List CV)}
def arrbB (P : Program) (t : Nat) : Option (List (Nat × Nat) × List Value) :=
  match P.info? t, P.underlying t with
  | some it, some (.array len e) => match it.zero, P.info? e with
    | some z, some ie => some ((List.range len).map (fun i => (i * ie.size, ie.size)), z.cells.toList)
    | _, _ => none
  | _, _ => none
class ArrB (P : Program) (t : Nat) (pl : outParam (List (Nat × Nat))) (zs : outParam (List Value)) : Prop where
  h : arrbB P t = some (pl, zs)
end
end Go.Proofs.Ythkjkhffljlidaa.Ev
/- Rules of a walk: make as a quiet step, its list taken as a closed one. Nothing here names a program. -/
namespace Go.Proofs.Ythkjkhffljlidaa.Ev
set_option linter.unusedVariables false
set_option linter.unusedSimpArgs false
open Go.RowKit
section
variable {P : Program} {X : List Oper → St → Prop} {rest : List Oper} {d : Nat} {ty : TypeId} {pos : String} {af : Array Edge} {n : Nat} {env : List (Nat × AV)} {heap : List (Nat × Option AB)} {nx : Nat} {gl : List (Nat × List CV)}
end
end Go.Proofs.Ythkjkhffljlidaa.Ev
/- Rules of a walk: a list of the call's own as an element of another one: its value is named, and a box (whose content is not needed any more) keeps which list has it. Nothing here names a program. -/
namespace Go.Proofs.Ythkjkhffljlidaa.Ev
set_option linter.unusedVariables false
set_option linter.unusedSimpArgs false
open Go.RowKit
section
variable {P : Program} {ops : Array Oper} {Q : Exit → St → Prop} {st : St}
end
section
variable {P : Program} {ops : Array Oper} {Q : Exit → St → Prop} {X : List Oper → St → Prop} {rest : List Oper} {d : Nat} {ty : TypeId} {pos : String} {af : Array Edge} {n : Nat} {env : List (Nat × AV)} {heap : List (Nat × Option AB)} {nx : Nat} {gl : List (Nat × List CV)}
end
end Go.Proofs.Ythkjkhffljlidaa.Ev
/- Rules of a walk: objects: calls that change one, boxes that become one, calls that make one. Nothing here names a program. -/
namespace Go.Proofs.Ythkjkhffljlidaa.Ev
set_option linter.unusedVariables false
set_option linter.unusedSimpArgs false
open Go.RowKit
def refP : Nat → Value := fun g => .pointer (some ⟨g, 0, none⟩)
inductive OA where
  | c (x : CV)
  | o (f : Nat → Value)
  | p
def OA.rel (F : Nat → Prop) (w : World) (g : Nat) : OA → Value → Prop
  | .c x, u => RC F w x u
  | .o f, u => u = f g
  | .p, u => u = refP g
def oaOf (b : Nat) : AV → Option OA
  | .ptr b' off => bif Nat.beq b b' && Nat.beq off 0 then some .p else none
  | .ref b' f => bif Nat.beq b b' then some (.o f) else none
  | x => (clF x).map .c
def oas (b : Nat) : List AV → Option (List OA)
  | [] => some []
  | x :: l => match oaOf b x, oas b l with | some y, some ys => some (y :: ys) | _, _ => none
theorem oas_get {b : Nat} : ∀ {xs : List AV} {ys : List OA}, oas b xs = some ys → xs.length = ys.length ∧ ∀ (i : Nat) (x : AV) (y : OA), xs[i]? = some x → ys[i]? = some y → oaOf b x = some y
  | [], ys, h => by simp only [oas, Option.some.injEq] at h; subst h; exact ⟨rfl, fun i x y h => by simp at h⟩
  | x :: l, ys, h => by
    simp only [oas] at h
    split at h
    · rename_i y ys' h1 h2
      simp only [Option.some.injEq] at h; subst h
      obtain ⟨e1, e2⟩ := oas_get h2
      refine ⟨by simp [e1], fun i x' y' h3 h4 => ?_⟩
      cases i with
      | zero => simp at h3 h4; subst h3; subst h4; exact h1
      | succ i => exact e2 i x' y' (by simpa using h3) (by simpa using h4)
    · cases h
theorem clF_rc {M : Wd} {base : Nat} (hok : HeapOK M base) {y : AV} {u : Value} {z : CV} (h : RA M y u) (hz : clF y = some z) : RC M.F M.w z u :=
  cl_rc hok (F' := M.F) (fun _ h => h) (H := fun _ => none) (fun b E s l h => by cases h) h (clF_cl hz)
theorem oaOf_rel {M : Wd} {base : Nat} (hok : HeapOK M base) {b g : Nat} (hb : M.m b = .blk g) {x : AV} {u : Value} {y : OA} (h : RA M x u) (hy : oaOf b x = some y) : y.rel M.F M.w g u := by
  cases x with
  | ptr b' off =>
    simp only [oaOf] at hy
    cases hc : (Nat.beq b b' && Nat.beq off 0) with
    | false => rw [hc] at hy; cases hy
    | true =>
      rw [hc] at hy
      simp only [cond_true, Option.some.injEq] at hy; subst hy
      simp only [Bool.and_eq_true] at hc
      obtain rfl := beq_true hc.1
      obtain rfl := beq_true hc.2
      cases h with
      | ptr h => rw [hb] at h; cases h; rfl
  | ref b' f =>
    simp only [oaOf] at hy
    cases hc : Nat.beq b b' with
    | false => rw [hc] at hy; cases hy
    | true =>
      rw [hc] at hy
      simp only [cond_true, Option.some.injEq] at hy; subst hy
      obtain rfl := beq_true hc
      cases h with
      | ref h _ => rw [hb] at h; cases h; rfl
  | c x => simp only [oaOf, clF, Option.map_some, Option.some.injEq] at hy; subst hy; exact clF_rc hok h rfl
  | agg xs =>
    simp only [oaOf, Option.map_eq_some_iff] at hy
    obtain ⟨z, hz, rfl⟩ := hy
    exact clF_rc hok h hz
  | tup xs =>
    simp only [oaOf, Option.map_eq_some_iff] at hy
    obtain ⟨z, hz, rfl⟩ := hy
    exact clF_rc hok h hz
  | vec b n => simp [oaOf, clF] at hy
  | vptr b n off => simp [oaOf, clF] at hy
  | eptr xs off => simp [oaOf, clF] at hy
  | fn f xs => simp [oaOf, clF] at hy
  | ghost b n v => simp [oaOf, clF] at hy
structure OPost (w : World) (F fp : Nat → Prop) (g : Nat) (p' : ObjP) (fp' : Nat → Prop) (w' : World) : Prop where
  os : w'.os = w.os
  tape : w'.tape = w.tape
  output : w'.output = w.output
  size : w.heap.size ≤ w'.heap.size
  block : ∀ k, k < w.heap.size → ¬ fp k → w'.heap[k]? = w.heap[k]?
  holds : p'.holds w' g fp'
  root : fp' g
  lt : ∀ k, fp' k → k < w'.heap.size ∧ (fp k ∨ w.heap.size ≤ k)
def oF (w : World) (F fp fp' : Nat → Prop) (w' : World) : Nat → Prop := fun b => F b ∨ (b < w'.heap.size ∧ ¬ fp' b ∧ (fp b ∨ w.heap.size ≤ b))
def OCon (P : Program) (gl : List (Nat × List CV)) (f : FuncId) (args : List OA) (p : ObjP) (r : CV) (p' : ObjP) : Prop :=
  callableB P f = true ∧ ∀ (w : World) (F fp : Nat → Prop) (g : Nat) (vals : Array Value), (∀ b, F b → b < w.heap.size) → GlOK gl F w → p.holds w g fp → fp g → (∀ k, fp k → k < w.heap.size ∧ ¬ F k) → args.length = vals.size → (∀ (i : Nat) (x : OA) (u : Value), args[i]? = some x → vals[i]? = some u → x.rel F w g u) →
    Calls P f vals w fun e w' => ∃ v fp', e = .returned v ∧ OPost w F fp g p' fp' w' ∧ RC (oF w F fp fp' w') w' r v
section
variable {base : Nat} {w0 : W0} {st : St} {M : Wd} {a : Act}
def Wd.chg (M : Wd) (b : Nat) (p' : ObjP) (fp' : Nat → Prop) (w' : World) : Wd :=
  { m := M.m, H := fun k => if b = k then some (.obj p') else M.H k, nx := M.nx, F := oF M.w M.F (M.fp b) fp' w', w := w', fp := fun k => if k = b then fp' else M.fp k }
theorem Sim.chg (hs : Sim base w0 st M a) {b : Nat} {p p' : ObjP} (hb : M.H b = some (.obj p)) {g : Nat} (hm : M.m b = .blk g) {fp' : Nat → Prop} {w' : World} (h : OPost M.w M.F (M.fp b) g p' fp' w') :
    Sim base w0 (st.set b (.obj p')) (M.chg b p' fp' w') a ∧ Ext M (M.chg b p' fp' w') := by
  obtain ⟨g0, o1, o2, o3, o4, o5⟩ := hs.heap.obj b p hb
  rw [hm] at o1; cases o1
  let M' : Wd := M.chg b p' fp' w'
  have hH : ∀ k, M'.H k = if b = k then some (.obj p') else M.H k := fun k => rfl
  have hne : ∀ k, M'.H k ≠ none → M.H k ≠ none := fun k hk => by
    rw [hH] at hk
    by_cases h : b = k
    · subst h; rw [hb]; simp
    · rwa [if_neg h] at hk
  have hold : ∀ k, b ≠ k → ∀ x, M'.H k = some x → M.H k = some x := fun k hk x hx => by rwa [hH, if_neg hk] at hx
  have hF : ∀ k, M.F k → oF M.w M.F (M.fp b) fp' w' k ∧ w'.heap[k]? = M.w.heap[k]? := fun k hk => ⟨Or.inl hk, h.block k (hs.heap.frz k hk) (fun hf => (o4 k hf).2.2 hk)⟩
  have hext : Ext M M' := ⟨fun _ _ h => h, fun k E size' l' _ hl => by
    rw [hH] at hl
    by_cases h : b = k
    · rw [if_pos h] at hl; cases hl
    · rw [if_neg h] at hl; exact ⟨l', hl, Nat.le_refl _, fun _ => rfl⟩, Nat.le_refl _, hF⟩
  have hblk : ∀ k, b ≠ k → M.H k ≠ none → ∀ q, (M.m k).block = some q → w'.heap[q]? = M.w.heap[q]? ∧ ¬ oF M.w M.F (M.fp b) fp' w' q ∨ M.F q := fun k hk hn q hq => by
    by_cases hf : M.F q
    · exact Or.inr hf
    · have hlt := conc_lt hs.heap hn hq
      refine Or.inl ⟨h.block q hlt (fun hfp => (o5 k q (Ne.symm hk) hfp).1 hn hq), fun hh => ?_⟩
      rcases hh with hh | hh
      · exact hf hh
      · rcases hh.2.2 with hh | hh
        · exact (o5 k q (Ne.symm hk) hh).1 hn hq
        · omega
  have hfpb : M'.fp b = fp' := by simp [M', Wd.chg]
  have hfpk : ∀ k, b ≠ k → M'.fp k = M.fp k := fun k hk => by simp [M', Wd.chg, Ne.symm hk]
  refine ⟨⟨funext fun k => by rw [H_set, ← hs.H]; exact hH k, hs.nx, hs.n, fun i y hy => ?_, fun g xs hg => (hs.gl g xs hg).mono hext, ⟨?_, ?_, ?_, ?_, hs.heap.fresh, ?_, ?_⟩, ?_, Nat.le_trans hs.base h.size, hs.defs, fun k hk hlt => ?_⟩, hext⟩
  · obtain ⟨u, h1, h2⟩ := hs.env i y hy
    exact ⟨u, h1, h2.mono hext⟩
  · intro k t l hl
    have hk : b ≠ k := fun e => by rw [hH, if_pos e] at hl; cases hl
    have hl := hold k hk _ hl
    obtain ⟨g', arr, e1, e2, e3, e4, e5, e6⟩ := hs.heap.cells k t l hl
    rcases hblk k hk (by rw [hl]; simp) g' (by rw [e1]; rfl) with ⟨h1, h2⟩ | h1
    · exact ⟨g', arr, e1, e2, h2, h1.trans e4, e5, fun i x u hx hu => (e6 i x u hx hu).mono hext⟩
    · exact absurd h1 e3
  · intro k E size l hl
    have hk : b ≠ k := fun e => by rw [hH, if_pos e] at hl; cases hl
    have hl := hold k hk _ hl
    obtain ⟨v, n, cs, e1, e2, e3, e4, e5, e6⟩ := hs.heap.vec k E size l hl
    have hq : ∀ q, v.ownBlock = some q → w'.heap[q]? = M.w.heap[q]? ∧ ¬ oF M.w M.F (M.fp b) fp' w' q := fun q hq => by
      rcases hblk k hk (by rw [hl]; simp) q (by rw [e1]; exact hq) with h1 | h1
      · exact h1
      · exact absurd h1 (e6 q hq)
    refine ⟨v, n, cs, e1, e2, e3, ?_, fun i y u h1 h2 => (e5 i y u h1 h2).mono hF, fun q hv => (hq q hv).2⟩
    obtain ⟨f1, f2⟩ := e4
    refine ⟨f1, ?_⟩
    rcases f2 with f2 | ⟨g', cap, cur, rfl, g1, g2, g3⟩
    · exact Or.inl f2
    · exact Or.inr ⟨g', cap, cur, rfl, g1, (hq g' rfl).1.trans g2, g3⟩
  · intro k k' g hkk hk hk'
    exact hs.heap.sep k k' g hkk (hne k hk) (hne k' hk')
  · exact fun k hk => hs.heap.lt k (hne k hk)
  · intro k hk
    show k < w'.heap.size
    rcases hk with hk | hk
    · have := hs.heap.frz k hk; have := h.size; omega
    · exact hk.1
  · intro k q hq
    by_cases hk : b = k
    · subst hk
      rw [hH, if_pos rfl] at hq
      simp only [Option.some.injEq, AB.obj.injEq] at hq; subst hq
      refine ⟨g, hm, by rw [hfpb]; exact h.root, by rw [hfpb]; exact h.holds, fun k hk => ?_, fun b' k hbb hk => ⟨fun hb' => ?_, fun p2 hp2 => ?_⟩⟩
      · rw [hfpb] at hk
        obtain ⟨h1, h2⟩ := h.lt k hk
        refine ⟨?_, h1, fun hf => ?_⟩
        · rcases h2 with h2 | h2
          · exact (o4 k h2).1
          · exact Nat.le_trans hs.base h2
        · rcases hf with hf | hf
          · rcases h2 with h2 | h2
            · exact (o4 k h2).2.2 hf
            · have := hs.heap.frz k hf; omega
          · exact hf.2.1 hk
      · rw [hfpb] at hk
        obtain ⟨_, h2⟩ := h.lt k hk
        intro hc
        rcases h2 with h2 | h2
        · exact (o5 b' k hbb h2).1 (hne b' hb') hc
        · have := conc_lt hs.heap (hne b' hb') hc; omega
      · rw [hfpb] at hk
        rw [hfpk b' (Ne.symm hbb)]
        have hp2 := hold b' (Ne.symm hbb) _ hp2
        obtain ⟨_, h2⟩ := h.lt k hk
        intro hc
        rcases h2 with h2 | h2
        · exact (o5 b' k hbb h2).2 p2 hp2 hc
        · obtain ⟨_, _, _, _, r4, _⟩ := hs.heap.obj b' p2 hp2
          have := (r4 k hc).2.1; omega
    · have hq := hold k hk _ hq
      obtain ⟨g', e1, e2, e3, e4, e5⟩ := hs.heap.obj k q hq
      have hnfp : ∀ c, M.fp k c → ¬ M.fp b c := fun c hc => (e5 b c hk hc).2 p hb
      rw [hfpk k hk]
      refine ⟨g', e1, e2, q.stable _ _ _ _ e3 (fun c hc => h.block c (e4 c hc).2.1 (hnfp c hc)), fun c hc => ⟨(e4 c hc).1, Nat.lt_of_lt_of_le (e4 c hc).2.1 h.size, fun hf => ?_⟩, fun b' c hbb hc => ⟨fun hb' => (e5 b' c hbb hc).1 (hne b' hb'), fun p2 hp2 => ?_⟩⟩
      · rcases hf with hf | hf
        · exact (e4 c hc).2.2 hf
        · rcases hf.2.2 with hf | hf
          · exact hnfp c hc hf
          · have := (e4 c hc).2.1; omega
      · by_cases hb' : b = b'
        · subst hb'
          rw [hfpb]
          intro hf
          rcases (h.lt c hf).2 with h2 | h2
          · exact hnfp c hc h2
          · have := (e4 c hc).2.1; omega
        · rw [hfpk b' hb']
          exact (e5 b' c hbb hc).2 p2 (hold b' hb' _ hp2)
  · refine ⟨h.os.trans hs.below.os, h.tape.trans hs.below.tape, h.output.trans hs.below.output, Nat.le_trans hs.below.size h.size, fun k hk => ?_⟩
    show w'.heap[k]? = _
    have hb1 := hs.base
    rw [h.block k (by omega) (fun hf => by have := (o4 k hf).1; omega)]
    exact hs.below.block k hk
  · rcases hk with hk | hk
    · exact hs.old k hk hlt
    · rcases hk.2.2 with hk | hk
      · have := (o4 k hk).1; omega
      · have := hs.base; omega
theorem Sim.changeO (hs : Sim base w0 st M a) {b : Nat} {p p' : ObjP} (hb : M.H b = some (.obj p)) {g : Nat} (hm : M.m b = .blk g) {fp' : Nat → Prop} {w' : World} (h : OPost M.w M.F (M.fp b) g p' fp' w') :
    ∃ M', M'.w = w' ∧ M'.F = oF M.w M.F (M.fp b) fp' w' ∧ Sim base w0 (st.set b (.obj p')) M' a ∧ Ext M M' :=
  ⟨_, rfl, rfl, (hs.chg hb hm h).1, (hs.chg hb hm h).2⟩
end
section
variable {P : Program} {ops : Array Oper} {Q : Exit → St → Prop} {rest : List Oper} {st : St} {d : Nat} {ty : TypeId} {pos : String} {af : Array Edge}
theorem ao_callO {f : FuncId} {args : List Operand} {tys : Array TypeId} {ys : List AV} {zs : List OA} {r : CV} {p p' : ObjP} (b : Nat) (hcon : OCon P st.gl f zs p r p') (hys : evs st args = some ys) (hz : oas b ys = some zs) (hb : st.H b = some (.obj p)) (hd : Nat.blt d st.n = true)
    (h : AOps P ops Q rest ((st.set b (.obj p')).put d (ofC r))) : AOps P ops Q (⟨some d, .call ⟨.value (.func f), args.toArray, tys⟩, ty, pos, af, none⟩ :: rest) st := by
  intro base w0 M a hs
  have hbM : M.H b = some (.obj p) := by rw [hs.H]; exact hb
  obtain ⟨e1, e2⟩ := evs_get hys
  obtain ⟨e3, e4⟩ := oas_get hz
  obtain ⟨g, o1, o2, o3, o4, o5⟩ := hs.heap.obj b p hbM
  refine wl_enter rfl (run_call hcon.1 a M.w) (R := fun v w'' => ∃ fp', OPost M.w M.F (M.fp b) g p' fp' w'' ∧ RC (oF M.w M.F (M.fp b) fp' w'') w'' r v) (Calls.mono (hcon.2 M.w M.F (M.fp b) g _ hs.heap.frz (fun g xs hg => ?_) o3 o2 (fun k hk => (o4 k hk).2) (by simp; omega) (fun i x u hx hu => ?_)) (fun e w'' ⟨v, fp', he, hp, hrc⟩ => ⟨v, he, fp', hp, hrc⟩)) (fun v w'' hR => ?_)
  · have := hs.gl g xs hg
    generalize hq : Value.pointer (some ⟨g, 0, none⟩) = q at this ⊢
    cases this with
    | eptr cs hF hcell hr => exact .eptr cs hF hcell hr
  · have hi : i < args.length := by have := (List.getElem?_eq_some_iff.1 hx).1; omega
    obtain ⟨y, hy⟩ : ∃ y, ys[i]? = some y := ⟨_, List.getElem?_eq_getElem (by omega)⟩
    have hev := hs.ev (e2 i args[i] y (by simp [hi]) hy)
    have hu' : a.eval args[i] = u := by simpa [hi] using hu
    rw [hu'] at hev
    exact oaOf_rel hs.heap o1 hev (e4 i y x hy hx)
  · obtain ⟨fp', hp, hrc⟩ := hR
    obtain ⟨M', h1, h2, h3, h4⟩ := hs.changeO hbM o1 hp
    have := h base w0 M' _ (h3.put hd (RA.ofC (M := M') (by rw [h2, h1]; exact hrc)))
    rw [← h1]
    exact wpList_monoQ (fun e a w => Lift.ext h4) _ _ _ this
end
end Go.Proofs.Ythkjkhffljlidaa.Ev
/- Rules of a walk: a box that becomes an object, and calls that make one. Nothing here names a program. -/
namespace Go.Proofs.Ythkjkhffljlidaa.Ev
set_option linter.unusedVariables false
set_option linter.unusedSimpArgs false
open Go.RowKit
def avOf (b : Nat) : OA → AV
  | .c x => of1 x
  | .o f => .ref b f
  | .p => .ptr b 0
structure NPost (w : World) (g : Nat) (p : ObjP) (fp : Nat → Prop) (w' : World) : Prop where
  below : Below w.heap.size w w'
  holds : p.holds w' g fp
  root : fp g
  lt : ∀ k, fp k → w.heap.size ≤ k ∧ k < w'.heap.size
def nF (w : World) (F fp : Nat → Prop) (w' : World) : Nat → Prop := fun b => F b ∨ (w.heap.size ≤ b ∧ b < w'.heap.size ∧ ¬ fp b)
def NCon (P : Program) (gl : List (Nat × List CV)) (f : FuncId) (args : List CV) (rs : List OA) (p : ObjP) : Prop :=
  callableB P f = true ∧ ∀ (w : World) (F : Nat → Prop) (vals : Array Value), (∀ b, F b → b < w.heap.size) → GlOK gl F w → args.length = vals.size → (∀ (i : Nat) (x : CV) (u : Value), args[i]? = some x → vals[i]? = some u → RC F w x u) →
    Calls P f vals w fun e w' => ∃ vs g fp, e = .returned (.tuple vs) ∧ NPost w g p fp w' ∧ rs.length = vs.size ∧ ∀ (i : Nat) (x : OA) (u : Value), rs[i]? = some x → vs[i]? = some u → x.rel (nF w F fp w') w' g u ∧ (∀ fn, x = .o fn → u.oneCell' = true)
section
variable {base : Nat} {w0 : W0} {st : St} {M : Wd} {a : Act}
theorem Sim.newO (hs : Sim base w0 st M a) {g : Nat} {p : ObjP} {fp : Nat → Prop} {w' : World} (h : NPost M.w g p fp w') :
    ∃ M', M'.w = w' ∧ M'.F = nF M.w M.F fp w' ∧ M'.m M.nx = .blk g ∧ Sim base w0 (st.new (.obj p)) M' a ∧ Ext M M' := by
  let M' : Wd := { m := fun k => if k = M.nx then .blk g else M.m k, H := (st.new (.obj p)).H, nx := M.nx + 1, F := nF M.w M.F fp w', w := w', fp := fun k => if k = M.nx then fp else M.fp k }
  have hH : ∀ k, M'.H k = if M.nx = k then some (.obj p) else M.H k := fun k => by
    show (st.new _).H k = _
    rw [H_new, hs.nx, hs.H]
  have hm : M'.m M.nx = .blk g := by simp [M']
  have hm' : ∀ k, M.nx ≠ k → M'.m k = M.m k := fun k hk => by simp [M', Ne.symm hk]
  have hfp : M'.fp M.nx = fp := by simp [M']
  have hfp' : ∀ k, M.nx ≠ k → M'.fp k = M.fp k := fun k hk => by simp [M', Ne.symm hk]
  have hF : ∀ k, M.F k → nF M.w M.F fp w' k ∧ w'.heap[k]? = M.w.heap[k]? := fun k hk => ⟨Or.inl hk, h.below.block k (hs.heap.frz k hk)⟩
  have hext : Ext M M' := by
    refine ⟨fun b g' hb => ?_, fun k E size' l' hk hl => ?_, by simp [M'], hF⟩
    · rw [hm' b (fun he => hs.heap.fresh b (by omega) g' hb)]; exact hb
    · rw [hH, if_neg (by omega)] at hl
      exact ⟨l', hl, Nat.le_refl _, fun _ => hm' k (by omega)⟩
  have hnF : ∀ k, k < M.w.heap.size → nF M.w M.F fp w' k → M.F k := fun k hk hf => by
    rcases hf with hf | hf
    · exact hf
    · omega
  refine ⟨M', rfl, rfl, hm, ⟨rfl, by show M.nx + 1 = st.nx + 1; rw [hs.nx], hs.n, fun i y hy => ?_, fun g xs hg => (hs.gl g xs hg).mono hext, ⟨?_, ?_, ?_, ?_, ?_, ?_, ?_⟩, hs.below.trans (h.below.mono hs.base), Nat.le_trans hs.base h.below.size, hs.defs, fun k hk hlt => ?_⟩, hext⟩
  · obtain ⟨u, h1, h2⟩ := hs.env i y hy
    exact ⟨u, h1, h2.mono hext⟩
  · intro k t l hl
    have hk : M.nx ≠ k := fun e => by rw [hH, if_pos e] at hl; cases hl
    rw [hH, if_neg hk] at hl
    obtain ⟨g', arr, e1, e2, e3, e4, e5, e6⟩ := hs.heap.cells k t l hl
    have hlt := (Array.getElem?_eq_some_iff.1 e4).1
    exact ⟨g', arr, by rw [hm' k hk]; exact e1, e2, fun hf => e3 (hnF _ hlt hf), (h.below.block g' hlt).trans e4, e5, fun i x u hx hu => (e6 i x u hx hu).mono hext⟩
  · intro k E size l hl
    have hk : M.nx ≠ k := fun e => by rw [hH, if_pos e] at hl; cases hl
    rw [hH, if_neg hk] at hl
    obtain ⟨v, n, cs, e1, e2, e3, e4, e5, e6⟩ := hs.heap.vec k E size l hl
    have hlt : ∀ q, v.ownBlock = some q → q < M.w.heap.size := fun q hq => (World.ownsRow.lt e4 q hq).2
    refine ⟨v, n, cs, by rw [hm' k hk]; exact e1, e2, e3, ?_, fun i y u h1 h2 => (e5 i y u h1 h2).mono hF, fun q hq hf => e6 q hq (hnF _ (hlt q hq) hf)⟩
    obtain ⟨f1, f2⟩ := e4
    refine ⟨f1, ?_⟩
    rcases f2 with f2 | ⟨g', cap, cur, rfl, g1, g2, g3⟩
    · exact Or.inl f2
    · exact Or.inr ⟨g', cap, cur, rfl, g1, (h.below.block g' (hlt g' rfl)).trans g2, g3⟩
  · intro k k' q hkk hk hk' hq hq'
    rw [hH] at hk hk'
    by_cases h1 : M.nx = k
    · subst h1
      rw [hm] at hq
      simp only [Conc.block, Option.some.injEq] at hq; subst hq
      rw [if_neg hkk] at hk'
      rw [hm' k' hkk] at hq'
      have := conc_lt hs.heap hk' hq'
      have := (h.lt _ h.root).1; omega
    · rw [if_neg h1] at hk
      rw [hm' k h1] at hq
      by_cases h2 : M.nx = k'
      · subst h2
        rw [hm] at hq'
        simp only [Conc.block, Option.some.injEq] at hq'; subst hq'
        have := conc_lt hs.heap hk hq
        have := (h.lt _ h.root).1; omega
      · rw [if_neg h2] at hk'
        rw [hm' k' h2] at hq'
        exact hs.heap.sep k k' q hkk hk hk' hq hq'
  · intro k hk
    rw [hH] at hk
    show k < M.nx + 1
    by_cases h1 : M.nx = k
    · omega
    · rw [if_neg h1] at hk
      have := hs.heap.lt k hk; omega
  · intro k hk g'
    have hk : M.nx + 1 ≤ k := hk
    rw [hm' k (by omega)]
    exact hs.heap.fresh k (by omega) g'
  · intro k hk
    show k < w'.heap.size
    rcases hk with hk | hk
    · have := hs.heap.frz k hk; have := h.below.size; omega
    · exact hk.2.1
  · intro k q hq
    rw [hH] at hq
    by_cases hk : M.nx = k
    · subst hk
      rw [if_pos rfl] at hq
      simp only [Option.some.injEq, AB.obj.injEq] at hq; subst hq
      refine ⟨g, hm, by rw [hfp]; exact h.root, by rw [hfp]; exact h.holds, fun c hc => ?_, fun b' c hbb hc => ⟨fun hb' => ?_, fun p2 hp2 => ?_⟩⟩
      · rw [hfp] at hc
        obtain ⟨h1, h2⟩ := h.lt c hc
        refine ⟨Nat.le_trans hs.base h1, h2, fun hf => ?_⟩
        rcases hf with hf | hf
        · have := hs.heap.frz c hf; omega
        · exact hf.2.2 hc
      · rw [hfp] at hc
        rw [hH, if_neg (Ne.symm hbb)] at hb'
        rw [hm' b' (Ne.symm hbb)]
        intro hq
        have := conc_lt hs.heap hb' hq
        have := (h.lt c hc).1; omega
      · rw [hfp] at hc
        rw [hH, if_neg (Ne.symm hbb)] at hp2
        rw [hfp' b' (Ne.symm hbb)]
        intro hf
        obtain ⟨_, _, _, _, r4, _⟩ := hs.heap.obj b' p2 hp2
        have := (r4 c hf).2.1
        have := (h.lt c hc).1; omega
    · rw [if_neg hk] at hq
      obtain ⟨g', e1, e2, e3, e4, e5⟩ := hs.heap.obj k q hq
      rw [hfp' k hk]
      refine ⟨g', by rw [hm' k hk]; exact e1, e2, q.stable _ _ _ _ e3 (fun c hc => h.below.block c (e4 c hc).2.1), fun c hc => ⟨(e4 c hc).1, Nat.lt_of_lt_of_le (e4 c hc).2.1 h.below.size, fun hf => (e4 c hc).2.2 (hnF _ (e4 c hc).2.1 hf)⟩, fun b' c hbb hc => ⟨fun hb' => ?_, fun p2 hp2 => ?_⟩⟩
      · by_cases h2 : M.nx = b'
        · subst h2
          rw [hm]
          intro hg
          simp only [Conc.block, Option.some.injEq] at hg; subst hg
          have := (h.lt _ h.root).1
          have := (e4 _ hc).2.1; omega
        · rw [hH, if_neg h2] at hb'
          rw [hm' b' h2]
          exact (e5 b' c hbb hc).1 hb'
      · by_cases h2 : M.nx = b'
        · subst h2
          rw [hfp]
          intro hf
          have := (h.lt c hf).1
          have := (e4 c hc).2.1; omega
        · rw [hfp' b' h2]
          rw [hH, if_neg h2] at hp2
          exact (e5 b' c hbb hc).2 p2 hp2
  · rcases hk with hk | hk
    · exact hs.old k hk hlt
    · have := hs.base; omega
theorem Sim.boxObjG (hs : Sim base w0 st M a) {b t : Nat} {l : List AV} {vs : List Value} (hb : st.H b = some (.cells t l)) (hv : ∀ arr : Array Value, l.length = arr.size → (∀ (i : Nat) (x : AV) (u : Value), l[i]? = some x → arr[i]? = some u → RA M x u) → arr = vs.toArray) {p : ObjP} (hp : ∀ (w : World) (g : Nat), w.heap[g]? = some (.cells vs.toArray t (0, 0)) → p.holds w g (fun k => k = g)) :
    ∃ M', M'.w = M.w ∧ Sim base w0 (st.set b (.obj p)) M' a ∧ Ext M M' := by
  have hbM : M.H b = some (.cells t l) := by rw [hs.H]; exact hb
  obtain ⟨g, arr, g1, g2, g3, g4, g5, g6⟩ := hs.heap.cells b t _ hbM
  have harr : arr = vs.toArray := hv arr g5 g6
  subst harr
  let M' : Wd := { M with H := (st.set b (.obj p)).H, fp := fun k => if k = b then (fun c => c = g) else M.fp k }
  have hH : ∀ k, M'.H k = if b = k then some (.obj p) else M.H k := fun k => by
    show (st.set b _).H k = _
    rw [H_set, hs.H]
  have hne : ∀ k, M'.H k ≠ none → M.H k ≠ none := fun k hk => by
    rw [hH] at hk
    by_cases h : b = k
    · subst h; rw [hbM]; simp
    · rwa [if_neg h] at hk
  have hfpb : M'.fp b = (fun c => c = g) := by simp [M']
  have hfpk : ∀ k, b ≠ k → M'.fp k = M.fp k := fun k hk => by simp [M', Ne.symm hk]
  have hext : Ext M M' := ⟨fun _ _ h => h, fun k E size' l' _ hl => by
    rw [hH] at hl
    by_cases h : b = k
    · rw [if_pos h] at hl; cases hl
    · rw [if_neg h] at hl; exact ⟨l', hl, Nat.le_refl _, fun _ => rfl⟩, Nat.le_refl _, fun k hk => ⟨hk, rfl⟩⟩
  refine ⟨M', rfl, ⟨rfl, hs.nx, hs.n, fun i y hy => ?_, fun g xs hg => (hs.gl g xs hg).mono hext, ⟨?_, ?_, ?_, ?_, hs.heap.fresh, hs.heap.frz, ?_⟩, hs.below, hs.base, hs.defs, hs.old⟩, hext⟩
  · obtain ⟨u, h1, h2⟩ := hs.env i y hy
    exact ⟨u, h1, h2.mono hext⟩
  · intro k t l hl
    rw [hH] at hl
    by_cases h : b = k
    · rw [if_pos h] at hl; cases hl
    · rw [if_neg h] at hl
      obtain ⟨g, arr, g1, g2, g3, g4, g5, g6⟩ := hs.heap.cells k t l hl
      exact ⟨g, arr, g1, g2, g3, g4, g5, fun i x u hx hu => (g6 i x u hx hu).mono hext⟩
  · intro k E size l hl
    rw [hH] at hl
    by_cases h : b = k
    · rw [if_pos h] at hl; cases hl
    · rw [if_neg h] at hl
      exact hs.heap.vec k E size l hl
  · intro k k' g hkk hk hk'
    exact hs.heap.sep k k' g hkk (hne k hk) (hne k' hk')
  · exact fun k hk => hs.heap.lt k (hne k hk)
  · intro k q hq
    rw [hH] at hq
    by_cases hk : b = k
    · subst hk
      rw [if_pos rfl] at hq
      simp only [Option.some.injEq, AB.obj.injEq] at hq; subst hq
      refine ⟨g, g1, by rw [hfpb], by rw [hfpb]; exact hp _ _ g4, fun c hc => ?_, fun b' c hbb hc => ⟨fun hb' => ?_, fun p2 hp2 => ?_⟩⟩
      · rw [hfpb] at hc; subst hc
        exact ⟨g2, (Array.getElem?_eq_some_iff.1 g4).1, g3⟩
      · rw [hfpb] at hc; subst hc
        exact hs.heap.sep b b' _ (Ne.symm hbb) (by rw [hbM]; simp) (hne b' hb') (by rw [g1]; rfl)
      · rw [hfpb] at hc; subst hc
        rw [hfpk b' (Ne.symm hbb)]
        rw [hH, if_neg (Ne.symm hbb)] at hp2
        obtain ⟨_, _, _, _, _, r5⟩ := hs.heap.obj b' p2 hp2
        intro hf
        exact (r5 b _ (Ne.symm hbb) hf).1 (by rw [hbM]; simp) (by rw [g1]; rfl)
    · rw [if_neg hk] at hq
      obtain ⟨g', e1, e2, e3, e4, e5⟩ := hs.heap.obj k q hq
      rw [hfpk k hk]
      refine ⟨g', e1, e2, e3, e4, fun b' c hbb hc => ⟨fun hb' => (e5 b' c hbb hc).1 (hne b' hb'), fun p2 hp2 => ?_⟩⟩
      by_cases h2 : b = b'
      · subst h2
        rw [hfpb]
        rintro rfl
        exact (e5 b _ hbb hc).1 (by rw [hbM]; simp) (by rw [g1]; rfl)
      · rw [hfpk b' h2]
        rw [hH, if_neg h2] at hp2
        exact (e5 b' c hbb hc).2 p2 hp2
theorem Sim.boxObj (hs : Sim base w0 st M a) {b t : Nat} {vs : List Value} (hb : st.H b = some (.cells t (vs.map (fun v => .c (.v v))))) {p : ObjP} (hp : ∀ (w : World) (g : Nat), w.heap[g]? = some (.cells vs.toArray t (0, 0)) → p.holds w g (fun k => k = g)) :
    ∃ M', M'.w = M.w ∧ Sim base w0 (st.set b (.obj p)) M' a ∧ Ext M M' := by
  refine hs.boxObjG hb (fun arr g5 g6 => ?_) hp
  apply Array.ext_getElem?
  intro i
  by_cases hi : i < vs.length
  · have hia : i < arr.size := by rw [← g5]; simpa using hi
    have := (g6 i (.c (.v vs[i])) arr[i] (by simp [hi]) (by simp [hia])).bool
    simp [hia, hi, this]
  · rw [Array.getElem?_eq_none (by rw [← g5]; simp; omega), Array.getElem?_eq_none (by simp; omega)]
end
section
variable {P : Program} {ops : Array Oper} {Q : Exit → St → Prop} {rest : List Oper} {st : St} {d : Nat} {ty : TypeId} {pos : String} {af : Array Edge}
theorem avOf_ra {M : Wd} {g b : Nat} (hm : M.m b = .blk g) {x : OA} {u : Value} (h : x.rel M.F M.w g u) (ho : ∀ fn, x = .o fn → u.oneCell' = true) : RA M (avOf b x) u := by
  cases x with
  | c x =>
    have h : RC M.F M.w x u := h
    cases x with
    | agg xs => exact RA.ofC (x := .agg xs) h
    | _ => exact .c h
  | o f => cases (show u = f g from h); exact .ref hm (ho f rfl)
  | p => cases (show u = refP g from h); exact .ptr hm
theorem ao_callN {f : FuncId} {args : List Operand} {tys : Array TypeId} {ys : List AV} {zs : List CV} {rs : List OA} {p : ObjP} (hcon : NCon P st.gl f zs rs p) (hys : evs st args = some ys) (hz : cl.clL (fun _ => none) ys zs) (hd : Nat.blt d st.n = true)
    (h : AOps P ops Q rest ((st.new (.obj p)).put d (.tup (rs.map (avOf st.nx))))) : AOps P ops Q (⟨some d, .call ⟨.value (.func f), args.toArray, tys⟩, ty, pos, af, none⟩ :: rest) st := by
  intro base w0 M a hs
  obtain ⟨e1, e2⟩ := evs_get hys
  obtain ⟨e3, e4⟩ := clL_get hz
  refine wl_enter rfl (run_call hcon.1 a M.w) (R := fun v w'' => ∃ vs g fp, v = .tuple vs ∧ NPost M.w g p fp w'' ∧ rs.length = vs.size ∧ ∀ (i : Nat) (x : OA) (u : Value), rs[i]? = some x → vs[i]? = some u → x.rel (nF M.w M.F fp w'') w'' g u ∧ (∀ fn, x = .o fn → u.oneCell' = true)) (Calls.mono (hcon.2 M.w M.F _ hs.heap.frz (fun g xs hg => ?_) (by simp; omega) (fun i x u hx hu => ?_)) (fun e w'' ⟨vs, g, fp, he, hp, hrc⟩ => ⟨_, he, vs, g, fp, rfl, hp, hrc⟩)) (fun v w'' hR => ?_)
  · have := hs.gl g xs hg
    generalize hq : Value.pointer (some ⟨g, 0, none⟩) = q at this ⊢
    cases this with
    | eptr cs hF hcell hr => exact .eptr cs hF hcell hr
  · have hi : i < args.length := by have := (List.getElem?_eq_some_iff.1 hx).1; omega
    obtain ⟨y, hy⟩ : ∃ y, ys[i]? = some y := ⟨_, List.getElem?_eq_getElem (by omega)⟩
    have hev := hs.ev (e2 i args[i] y (by simp [hi]) hy)
    have hu' : a.eval args[i] = u := by simpa [hi] using hu
    rw [hu'] at hev
    exact cl_rc hs.heap (F' := M.F) (fun _ h => h) (H := fun _ => none) (fun b E s l hb => by cases hb) hev (e4 i y x hy hx)
  · obtain ⟨vs, g, fp, rfl, hp, hlen, hrel⟩ := hR
    obtain ⟨M', h1, h2, h3, h4, h5⟩ := hs.newO hp
    have hra : RA M' (.tup (rs.map (avOf st.nx))) (.tuple vs) := by
      refine .tup (by simpa using hlen) (fun i x u hx hu => ?_)
      rw [List.getElem?_map, Option.map_eq_some_iff] at hx
      obtain ⟨y, hy, rfl⟩ := hx
      obtain ⟨r1, r2⟩ := hrel i y u hy hu
      rw [← hs.nx]
      exact avOf_ra h3 (by rw [h2, h1]; exact r1) r2
    have := h base w0 M' _ (h4.put hd hra)
    rw [← h1]
    exact wpList_monoQ (fun e a w => Lift.ext h5) _ _ _ this
theorem aw_boxObj {c : Code} {n : Nat} {env : List (Nat × AV)} {heap : List (Nat × Option AB)} {nx : Nat} {gl : List (Nat × List CV)} (b : Nat) {t : Nat} {vs : List Value} {p : ObjP} (hb : St.H ⟨n, env, heap, nx, gl⟩ b = some (.cells t (vs.map (fun v => .c (.v v))))) (hp : ∀ (w : World) (g : Nat), w.heap[g]? = some (.cells vs.toArray t (0, 0)) → p.holds w g (fun k => k = g))
    (h : Awp P c Q ⟨n, env, (b, some (.obj p)) :: heap, nx, gl⟩) : Awp P c Q ⟨n, env, heap, nx, gl⟩ := by
  intro base w0 M a hs
  obtain ⟨M', h1, h2, h3⟩ := hs.boxObj hb hp
  rw [← h1]
  exact wp_mono (h base w0 M' a h2) fun e a w => Lift.ext h3
end
end Go.Proofs.Ythkjkhffljlidaa.Ev
/- Rules of a walk: strings that are joined, cut and made of bytes; calls through an interface. Nothing here names a program. -/
namespace Go.Proofs.Ythkjkhffljlidaa.Ev
set_option linter.unusedVariables false
set_option linter.unusedSimpArgs false
open Go.RowKit
section
variable {P : Program} {ops : Array Oper} {Q : Exit → St → Prop} {X : List Oper → St → Prop} {rest : List Oper} {d : Nat} {ty : TypeId} {pos : String} {af : Array Edge} {n : Nat} {env : List (Nat × AV)} {heap : List (Nat × Option AB)} {nx : Nat} {gl : List (Nat × List CV)}
theorem r_adds [W : Walk P X] {x y : Operand} {t t2 : TypeId} {a b : ByteArray} (hx : St.ev ⟨n, env, heap, nx, gl⟩ x = some (.c (.v (.string a)))) (hy : St.ev ⟨n, env, heap, nx, gl⟩ y = some (.c (.v (.string b)))) (hb : a.size + b.size ≤ 9223372036854775807) (hd : Nat.blt d n = true) (h : X rest ⟨n, (d, .c (.v (.string (a ++ b)))) :: env, heap, nx, gl⟩) : X (⟨some d, .binOp .add t x y t2, ty, pos, af, none⟩ :: rest) ⟨n, env, heap, nx, gl⟩ := by
  refine ao_val (st := ⟨n, env, heap, nx, gl⟩) rfl rfl hd (fun _ _ M e hs => ⟨.string (a ++ b), ?_, .c (.v _)⟩) h
  simp only [execOp, (hs.ev (by simp [Op.operands, Call.operands]) hx).bool, (hs.ev (by simp [Op.operands, Call.operands]) hy).bool]
  have h1 : (binOp .add t (.string a) (.string b)).run P M.w = .ok (.string (a ++ b)) M.w := by simp [binOp, run_string_add_sum M.w a b hb]
  rw [Sem.run_bind, Sem.run_bind, show (eqGuard .add t x y (.string a) (.string b)).run P M.w = .ok () M.w from rfl]
  show (((binOp .add t (.string a) (.string b)).run P M.w).andThen _) = _
  rw [h1]; rfl
theorem r_neqstr [W : Walk P X] {x y : Operand} {t t2 : TypeId} {a b : ByteArray} (hx : St.ev ⟨n, env, heap, nx, gl⟩ x = some (.c (.v (.string a)))) (hy : St.ev ⟨n, env, heap, nx, gl⟩ y = some (.c (.v (.string b)))) (hd : Nat.blt d n = true) (h : X rest ⟨n, (d, .c (.v (.bool (!(a.toList == b.toList))))) :: env, heap, nx, gl⟩) : X (⟨some d, .binOp .neq t x y t2, ty, pos, af, none⟩ :: rest) ⟨n, env, heap, nx, gl⟩ := by
  refine ao_val (st := ⟨n, env, heap, nx, gl⟩) rfl rfl hd (fun _ _ M e hs => ⟨.bool (!(a.toList == b.toList)), ?_, .c (.v _)⟩) h
  simp only [execOp, (hs.ev (by simp [Op.operands, Call.operands]) hx).bool, (hs.ev (by simp [Op.operands, Call.operands]) hy).bool]
  rfl
theorem r_cutTo [W : Walk P X] {x y : Operand} {t : TypeId} {s : ByteArray} {kk : IntKind} {idx : Int} [I : StrTy P t] (k : Nat) (hx : St.ev ⟨n, env, heap, nx, gl⟩ x = some (.c (.v (.string s)))) (hy : St.ev ⟨n, env, heap, nx, gl⟩ y = some (.c (.v (.int kk idx)))) (hk : idx = (k : Int)) (hle : k ≤ s.size) (hd : Nat.blt d n = true) (h : X rest ⟨n, (d, .c (.v (.string (s.extract 0 k)))) :: env, heap, nx, gl⟩) : X (⟨some d, .slice t x none (some y) none, ty, pos, af, none⟩ :: rest) ⟨n, env, heap, nx, gl⟩ := by
  refine ao_val (st := ⟨n, env, heap, nx, gl⟩) rfl rfl hd (fun _ _ M e hs => ⟨.string (s.extract 0 k), ?_, .c (.v _)⟩) h
  simp only [execOp, (hs.ev (by simp [Op.operands, Call.operands]) hx).bool, Option.map_some, Option.map_none, (hs.ev (by simp [Op.operands, Call.operands]) hy).bool]
  subst hk
  rw [Sem.run_bind, run_sliceAt_string M.w t _ _ _ _ I.h, run_slice_string_to_if M.w t s kk (k : Int) I.h, if_pos ⟨by omega, by omega⟩]
  simp only [Int.toNat_natCast]; rfl
theorem r_cutFrom [W : Walk P X] {x y : Operand} {t : TypeId} {s : ByteArray} {kk : IntKind} {idx : Int} [I : StrTy P t] (k : Nat) (hx : St.ev ⟨n, env, heap, nx, gl⟩ x = some (.c (.v (.string s)))) (hy : St.ev ⟨n, env, heap, nx, gl⟩ y = some (.c (.v (.int kk idx)))) (hk : idx = (k : Int)) (hle : k ≤ s.size) (hd : Nat.blt d n = true) (h : X rest ⟨n, (d, .c (.v (.string (s.extract k s.size)))) :: env, heap, nx, gl⟩) : X (⟨some d, .slice t x (some y) none none, ty, pos, af, none⟩ :: rest) ⟨n, env, heap, nx, gl⟩ := by
  refine ao_val (st := ⟨n, env, heap, nx, gl⟩) rfl rfl hd (fun _ _ M e hs => ⟨.string (s.extract k s.size), ?_, .c (.v _)⟩) h
  simp only [execOp, (hs.ev (by simp [Op.operands, Call.operands]) hx).bool, Option.map_some, Option.map_none, (hs.ev (by simp [Op.operands, Call.operands]) hy).bool]
  subst hk
  rw [Sem.run_bind, run_sliceAt_string M.w t _ _ _ _ I.h, run_slice_string_from_if M.w t s kk (k : Int) I.h, if_pos ⟨by omega, by omega⟩]
  simp only [Int.toNat_natCast]; rfl
theorem r_cutBoth [W : Walk P X] {x y z : Operand} {t : TypeId} {s : ByteArray} {kk k2 : IntKind} {i1 i2 : Int} [I : StrTy P t] (k m : Nat) (hx : St.ev ⟨n, env, heap, nx, gl⟩ x = some (.c (.v (.string s)))) (hy : St.ev ⟨n, env, heap, nx, gl⟩ y = some (.c (.v (.int kk i1)))) (hz : St.ev ⟨n, env, heap, nx, gl⟩ z = some (.c (.v (.int k2 i2)))) (hk : i1 = (k : Int)) (hm : i2 = (m : Int)) (hle : k ≤ m) (hle2 : m ≤ s.size) (hd : Nat.blt d n = true) (h : X rest ⟨n, (d, .c (.v (.string (s.extract k m)))) :: env, heap, nx, gl⟩) : X (⟨some d, .slice t x (some y) (some z) none, ty, pos, af, none⟩ :: rest) ⟨n, env, heap, nx, gl⟩ := by
  refine ao_val (st := ⟨n, env, heap, nx, gl⟩) rfl rfl hd (fun _ _ M e hs => ⟨.string (s.extract k m), ?_, .c (.v _)⟩) h
  simp only [execOp, (hs.ev (by simp [Op.operands, Call.operands]) hx).bool, Option.map_some, Option.map_none, (hs.ev (by simp [Op.operands, Call.operands]) hy).bool, (hs.ev (by simp [Op.operands, Call.operands]) hz).bool]
  subst hk; subst hm
  rw [Sem.run_bind, run_sliceAt_string M.w t _ _ _ _ I.h, run_slice_string M.w t s kk k2 (k : Int) (m : Int) I.h (by omega) (by omega) (by omega)]
  simp only [Int.toNat_natCast]; rfl
def u8C (b : UInt8) : List CV := [.v (.int .u8 (b.toNat : Int))]
instance : EncL u8C 1 := ⟨fun _ => rfl, by decide, fun _ => rfl⟩
class BytesT (P : Program) (t : Nat) : Prop where
  h : ∃ e, P.underlying t = some (.slice e) ∧ P.underlying e = some (.int .u8)
theorem rc_val {F : Nat → Prop} {w : World} {x u : Value} (h : RC F w (.v x) u) : u = x := by cases h; rfl
theorem flat_map_u8 : ∀ l : List UInt8, l.flatMap u8C = l.map fun b => .v (.int .u8 (b.toNat : Int))
  | [] => rfl
  | b :: l => by rw [List.flatMap_cons, flat_map_u8 l]; rfl
theorem flat_u8 (l : List UInt8) (j : Nat) (hj : j < l.length) : (l.flatMap u8C)[j]? = some (.v (.int .u8 (l[j].toNat : Int))) := by
  rw [flat_map_u8]; simp [hj]
theorem r_strOf [W : Walk P X] {x : Operand} {t t2 : Nat} {zs : List CV} [I : BytesT P t] [J : StrTy P t2] (l : List UInt8) (hx : St.ev ⟨n, env, heap, nx, gl⟩ x = some (.c (.lst 1 zs))) (hz : zs = l.flatMap u8C) (hne : 0 < l.length) (hd : Nat.blt d n = true) (h : X rest ⟨n, (d, .c (.v (.string ⟨l.toArray⟩))) :: env, heap, nx, gl⟩) : X (⟨some d, .convert t t2 x, ty, pos, af, none⟩ :: rest) ⟨n, env, heap, nx, gl⟩ := by
  refine ao_val (st := ⟨n, env, heap, nx, gl⟩) rfl rfl hd (fun _ _ M e hs => ⟨.string ⟨l.toArray⟩, ?_, .c (.v _)⟩) h
  obtain ⟨E, u1, u2⟩ := I.h
  have hv := hs.ev (by simp [Op.operands, Call.operands]) hx
  have hlen : zs.length = l.length * 1 := by rw [hz]; exact flat_len EncL.len _
  generalize he : e.eval x = u at hv
  cases hv with
  | c hv =>
    cases hv with
    | nil => simp at hlen; omega
    | lst cs hn hc hF hcell hr =>
      rename_i blk off m cap
      have hm : m = l.length := by omega
      subst hm
      have hcs : ∀ j (hj : j < l.length), M.w.cell? (Addr.add ⟨blk, off, none⟩ j) = some (.int .u8 (l[j].toNat : Int)) := fun j hj => by
        rw [show Addr.add ⟨blk, off, none⟩ j = ⟨blk, off + j, none⟩ from by simp [Addr.add]]
        have hq : zs[j]? = some (.v (.int .u8 (l[j].toNat : Int))) := by rw [hz]; exact flat_u8 l j hj
        have h1 := hcell j _ hq
        have h2 := hr j _ hq
        rw [rc_val h2] at h1
        exact h1
      simp only [execOp, he]
      rw [Sem.run_bind, run_convert_bytes_back M.w t t2 E ⟨blk, off, none⟩ cap l u1 u2 J.h hcs]; rfl
theorem r_strOfV [W : Walk P X] {x : Operand} {t t2 b m E : Nat} [I : BytesT P t] [J : StrTy P t2] (l : List UInt8) (hx : St.ev ⟨n, env, heap, nx, gl⟩ x = some (.vec b m)) (hH : St.H ⟨n, env, heap, nx, gl⟩ b = some (.vec E 1 (l.flatMap u8C))) (hn : l.length = m) (hne : 0 < m) (hd : Nat.blt d n = true) (h : X rest ⟨n, (d, .c (.v (.string ⟨l.toArray⟩))) :: env, heap, nx, gl⟩) : X (⟨some d, .convert t t2 x, ty, pos, af, none⟩ :: rest) ⟨n, env, heap, nx, gl⟩ := by
  refine ao_val (st := ⟨n, env, heap, nx, gl⟩) rfl rfl hd (fun _ _ M e hs => ⟨.string ⟨l.toArray⟩, ?_, .c (.v _)⟩) h
  obtain ⟨E', u1, u2⟩ := I.h
  have hv := hs.ev (by simp [Op.operands, Call.operands]) hx
  have hlen : (l.flatMap u8C).length = m * 1 := by rw [flat_len EncL.len, hn]
  generalize he : e.eval x = u at hv
  cases hv with
  | vec hb ho hh =>
    have hM : M.H b = some (.vec E 1 (l.flatMap u8C)) := hs.H _ _ hH
    obtain ⟨h1, h2⟩ := hh E 1 _ hM
    obtain ⟨v, n', cs, e1, e2, e3, e4, e5, e6⟩ := hs.sim.heap.vec b E 1 _ hM
    rw [h2 hlen] at e1; cases e1
    have hnn : m = n' := by omega
    subst hnn
    rcases e4.2 with ⟨_, hn0⟩ | ⟨g, cap, cur, rfl, f1, f2, f3, f4, f5, f6⟩
    · omega
    · subst hn
      have hcs : ∀ j (hj : j < l.length), M.w.cell? (Addr.add ⟨g, 0, none⟩ j) = some (.int .u8 (l[j].toNat : Int)) := fun j hj => by
        have hq := flat_u8 l j hj
        have hjc : j < cs.length := by rw [e4.1]; omega
        have h3 := e5 j _ cs[j] hq (by simp [hjc])
        have h4 : cs[j] = .int .u8 (l[j].toNat : Int) := rc_val h3
        rw [show Addr.add ⟨g, 0, none⟩ j = ⟨g, j, none⟩ from by
          unfold Addr.add
          split
          · rename_i h0; rw [h0]
          · simp]
        unfold World.cell?
        dsimp only
        rw [f2]
        have h5 : cur.toList[j]? = some cs[j] := by
          have : (cur.toList.take (l.length * 1))[j]? = some cs[j] := by rw [f6]; simp [hjc]
          rwa [List.getElem?_take_of_lt (by omega)] at this
        show cur[j]? = _
        rw [← Array.getElem?_toList, h5, h4]
      simp only [execOp, he]
      rw [Sem.run_bind, run_convert_bytes_back M.w t t2 E' ⟨g, 0, none⟩ cap l u1 u2 J.h hcs]; rfl
end
end Go.Proofs.Ythkjkhffljlidaa.Ev
/- Rules of a walk: an object behind an interface. Nothing here names a program. -/
namespace Go.Proofs.Ythkjkhffljlidaa.Ev
set_option linter.unusedVariables false
set_option linter.unusedSimpArgs false
open Go.RowKit
def ifcP (t : TypeId) : Nat → Value := fun g => .iface t (.pointer (some ⟨g, 0, none⟩))
class ConcT (P : Program) (t : Nat) : Prop where
  h : P.concrete t = true
class MethT (P : Program) (t : Nat) (name : String) (f : outParam Nat) : Prop where
  h : ∀ (w : World) (g : Nat), (method (P.types.size + Made.depth) t (.pointer (some ⟨g, 0, none⟩)) name).run P w = .ok (f, .pointer (some ⟨g, 0, none⟩)) w
section
variable {P : Program} {ops : Array Oper} {Q : Exit → St → Prop} {X : List Oper → St → Prop} {rest : List Oper} {d : Nat} {ty : TypeId} {pos : String} {af : Array Edge} {n : Nat} {env : List (Nat × AV)} {heap : List (Nat × Option AB)} {nx : Nat} {gl : List (Nat × List CV)}
theorem r_mkif [W : Walk P X] {x : Operand} {t b : Nat} [I : ConcT P t] (hx : St.ev ⟨n, env, heap, nx, gl⟩ x = some (.ptr b 0)) (hd : Nat.blt d n = true) (h : X rest ⟨n, (d, .ref b (ifcP t)) :: env, heap, nx, gl⟩) : X (⟨some d, .makeInterface t x, ty, pos, af, none⟩ :: rest) ⟨n, env, heap, nx, gl⟩ := by
  refine ao_val (st := ⟨n, env, heap, nx, gl⟩) rfl rfl hd (fun _ _ M e hs => ?_) h
  have hv := hs.ev (by simp [Op.operands, Call.operands]) hx
  generalize he : e.eval x = u at hv
  cases hv with
  | @ptr _ _ g hm =>
    refine ⟨ifcP t g, ?_, .ref hm rfl⟩
    simp only [execOp, he]
    rw [Sem.run_bind, run_makeInterface M.w t _ I.h]; rfl
theorem run_invoke {f : FuncId} {t : Nat} {name : String} {recv : Operand} {args : List Operand} {tys : Array TypeId} {dst : Option Tmp} {g : Nat} (hc : callableB P f = true) (I : MethT P t name f) (a : Act) (w : World) (hr : a.eval recv = ifcP t g) :
    (execOp a.eval ⟨dst, .call ⟨.invoke recv name, args.toArray, tys⟩, ty, pos, af, none⟩).run P w = .ok (.enter f (refP g :: args.map a.eval).toArray) w := by
  unfold callableB at hc
  split at hc
  · rename_i fn hf
    simp only [Bool.and_eq_true, Bool.not_eq_true'] at hc
    obtain ⟨h1, h2⟩ := hc
    cases hb : fn.body with
    | none => rw [hb] at h2; cases h2
    | some c =>
      simp only [execOp, resolve, hr]
      have h1' : ¬ fn.name = "runtime.NumGoroutine" := by simpa using h1
      have hm := I.h w g
      have hcf : ∀ vs, (callFunc f vs).run P w = .ok (.enter f vs) w := fun vs => by simp [callFunc, hf, h1', hb]
      simp only [ifcP, Sem.run_bind, Sem.run_pure, Result.andThen]
      simp only [invoke]
      simp [callMethod, Sem.run_bind, hm, hcf, refP, Result.andThen]
      exact List.take_of_length_le (by simp)
  · cases hc
theorem ao_invokeO {f : FuncId} {t b : Nat} {name : String} {recv : Operand} {args : List Operand} {tys : Array TypeId} {ys : List AV} {zs : List OA} {r : CV} {p p' : ObjP} {st : St} [I : MethT P t name f] (hr : st.ev recv = some (.ref b (ifcP t))) (hcon : OCon P st.gl f (.p :: zs) p r p') (hys : evs st args = some ys) (hz : oas b ys = some zs) (hb : st.H b = some (.obj p)) (hd : Nat.blt d st.n = true)
    (h : AOps P ops Q rest ((st.set b (.obj p')).put d (ofC r))) : AOps P ops Q (⟨some d, .call ⟨.invoke recv name, args.toArray, tys⟩, ty, pos, af, none⟩ :: rest) st := by
  intro base w0 M a hs
  have hbM : M.H b = some (.obj p) := by rw [hs.H]; exact hb
  obtain ⟨e1, e2⟩ := evs_get hys
  obtain ⟨e3, e4⟩ := oas_get hz
  obtain ⟨g, o1, o2, o3, o4, o5⟩ := hs.heap.obj b p hbM
  have hrv : a.eval recv = ifcP t g := by
    have := hs.ev hr
    generalize he : a.eval recv = u at this
    cases this with
    | ref hm ho => rw [o1] at hm; cases hm; rfl
  refine wl_enter rfl (run_invoke hcon.1 I a M.w hrv) (R := fun v w'' => ∃ fp', OPost M.w M.F (M.fp b) g p' fp' w'' ∧ RC (oF M.w M.F (M.fp b) fp' w'') w'' r v) (Calls.mono (hcon.2 M.w M.F (M.fp b) g _ hs.heap.frz (fun g xs hg => ?_) o3 o2 (fun k hk => (o4 k hk).2) (by simp; omega) (fun i x u hx hu => ?_)) (fun e w'' ⟨v, fp', he, hp, hrc⟩ => ⟨v, he, fp', hp, hrc⟩)) (fun v w'' hR => ?_)
  · have := hs.gl g xs hg
    generalize hq : Value.pointer (some ⟨g, 0, none⟩) = q at this ⊢
    cases this with
    | eptr cs hF hcell hr => exact .eptr cs hF hcell hr
  · cases i with
    | zero => simp at hx hu; subst hx; subst hu; rfl
    | succ i =>
      have hx : zs[i]? = some x := by simpa using hx
      have hi : i < args.length := by have := (List.getElem?_eq_some_iff.1 hx).1; omega
      obtain ⟨y, hy⟩ : ∃ y, ys[i]? = some y := ⟨_, List.getElem?_eq_getElem (by omega)⟩
      have hev := hs.ev (e2 i args[i] y (by simp [hi]) hy)
      have hu' : a.eval args[i] = u := by simpa [hi] using hu
      rw [hu'] at hev
      exact oaOf_rel hs.heap o1 hev (e4 i y x hy hx)
  · obtain ⟨fp', hp, hrc⟩ := hR
    obtain ⟨M', h1, h2, h3, h4⟩ := hs.changeO hbM o1 hp
    have := h base w0 M' _ (h3.put hd (RA.ofC (M := M') (by rw [h2, h1]; exact hrc)))
    rw [← h1]
    exact wpList_monoQ (fun e a w => Lift.ext h4) _ _ _ this
theorem r_callO {f : FuncId} {args : List Operand} {tys : Array TypeId} {ys : List AV} {zs : List OA} {r : CV} {p p' : ObjP} (b : Nat) (hcon : OCon P gl f zs p r p') (hys : evs ⟨n, env, heap, nx, gl⟩ args = some ys) (hz : oas b ys = some zs) (hb : St.H ⟨n, env, heap, nx, gl⟩ b = some (.obj p)) (hd : Nat.blt d n = true)
    (h : AOps P ops Q rest ⟨n, (d, ofC r) :: env, (b, some (.obj p')) :: heap, nx, gl⟩) : AOps P ops Q (⟨some d, .call ⟨.value (.func f), args.toArray, tys⟩, ty, pos, af, none⟩ :: rest) ⟨n, env, heap, nx, gl⟩ :=
  ao_callO (st := ⟨n, env, heap, nx, gl⟩) b hcon hys hz hb hd h
theorem r_invokeO {f : FuncId} {t b : Nat} {name : String} {recv : Operand} {args : List Operand} {tys : Array TypeId} {ys : List AV} {zs : List OA} {r : CV} {p p' : ObjP} [I : MethT P t name f] (hr : St.ev ⟨n, env, heap, nx, gl⟩ recv = some (.ref b (ifcP t))) (hcon : OCon P gl f (.p :: zs) p r p') (hys : evs ⟨n, env, heap, nx, gl⟩ args = some ys) (hz : oas b ys = some zs) (hb : St.H ⟨n, env, heap, nx, gl⟩ b = some (.obj p)) (hd : Nat.blt d n = true)
    (h : AOps P ops Q rest ⟨n, (d, ofC r) :: env, (b, some (.obj p')) :: heap, nx, gl⟩) : AOps P ops Q (⟨some d, .call ⟨.invoke recv name, args.toArray, tys⟩, ty, pos, af, none⟩ :: rest) ⟨n, env, heap, nx, gl⟩ :=
  ao_invokeO (st := ⟨n, env, heap, nx, gl⟩) hr hcon hys hz hb hd h
theorem r_callN {f : FuncId} {args : List Operand} {tys : Array TypeId} {ys : List AV} {zs : List CV} {rs : List OA} {p : ObjP} (hcon : NCon P gl f zs rs p) (hys : evs ⟨n, env, heap, nx, gl⟩ args = some ys) (hz : cl.clL (fun _ => none) ys zs) (hd : Nat.blt d n = true)
    (h : AOps P ops Q rest ⟨n, (d, .tup (rs.map (avOf nx))) :: env, (nx, some (.obj p)) :: heap, nx + 1, gl⟩) : AOps P ops Q (⟨some d, .call ⟨.value (.func f), args.toArray, tys⟩, ty, pos, af, none⟩ :: rest) ⟨n, env, heap, nx, gl⟩ :=
  ao_callN (st := ⟨n, env, heap, nx, gl⟩) hcon hys hz hd h
end
end Go.Proofs.Ythkjkhffljlidaa.Ev
/- Rules of a walk: division of numbers of any kind. Nothing here names a program. -/
namespace Go.Proofs.Ythkjkhffljlidaa.Ev
set_option linter.unusedVariables false
set_option linter.unusedSimpArgs false
open Go.RowKit
section
variable {P : Program} {X : List Oper → St → Prop} {rest : List Oper} {d : Nat} {ty : TypeId} {pos : String} {af : Array Edge} {n : Nat} {env : List (Nat × AV)} {heap : List (Nat × Option AB)} {nx : Nat} {gl : List (Nat × List CV)}
theorem r_quow [W : Walk P X] {x y : Operand} {t t2 : TypeId} {k : IntKind} {a b : Int} (c : Int) (hx : St.ev ⟨n, env, heap, nx, gl⟩ x = some (.c (.v (.int k a)))) (hy : St.ev ⟨n, env, heap, nx, gl⟩ y = some (.c (.v (.int k b)))) (h0 : b ≠ 0) (hc : k.wrap (a.tdiv b) = c) (hd : Nat.blt d n = true) (h : X rest ⟨n, (d, .c (.v (.int k c))) :: env, heap, nx, gl⟩) : X (⟨some d, .binOp .quo t x y t2, ty, pos, af, none⟩ :: rest) ⟨n, env, heap, nx, gl⟩ := by
  subst hc
  refine ao_val (st := ⟨n, env, heap, nx, gl⟩) rfl rfl hd (fun _ _ M e hs => ⟨.int k (k.wrap (a.tdiv b)), ?_, .c (.v _)⟩) h
  simp only [execOp, (hs.ev (by simp [Op.operands, Call.operands]) hx).bool, (hs.ev (by simp [Op.operands, Call.operands]) hy).bool]
  simp only [go_sem]
  simp [binOp, Op.intDiv, h0]
theorem r_remw [W : Walk P X] {x y : Operand} {t t2 : TypeId} {k : IntKind} {a b : Int} (hx : St.ev ⟨n, env, heap, nx, gl⟩ x = some (.c (.v (.int k a)))) (hy : St.ev ⟨n, env, heap, nx, gl⟩ y = some (.c (.v (.int k b)))) (h0 : b ≠ 0) (hd : Nat.blt d n = true) (h : X rest ⟨n, (d, .c (.v (.int k (a.tmod b)))) :: env, heap, nx, gl⟩) : X (⟨some d, .binOp .rem t x y t2, ty, pos, af, none⟩ :: rest) ⟨n, env, heap, nx, gl⟩ := by
  refine ao_val (st := ⟨n, env, heap, nx, gl⟩) rfl rfl hd (fun _ _ M e hs => ⟨.int k (a.tmod b), ?_, .c (.v _)⟩) h
  simp only [execOp, (hs.ev (by simp [Op.operands, Call.operands]) hx).bool, (hs.ev (by simp [Op.operands, Call.operands]) hy).bool]
  simp only [go_sem]
  simp [binOp, Op.intDiv, h0]
end
end Go.Proofs.Ythkjkhffljlidaa.Ev
/- Contracts of functions that change an object, out of walks of their bodies; calls that change an object and return what depends on where it lies. Nothing here names a program. -/
namespace Go.Proofs.Ythkjkhffljlidaa.Ev
set_option linter.unusedVariables false
set_option linter.unusedSimpArgs false
open Go.RowKit
def frameP (w : World) (ff : Nat → Prop) : ObjP where
  holds := fun w' _ fp => (∀ k, fp k ↔ ff k) ∧ ∀ k, ff k → w'.heap[k]? = w.heap[k]?
  stable := fun _ _ _ _ h hk => ⟨h.1, fun k hf => (hk k ((h.1 k).2 hf)).trans (h.2 k hf)⟩
def OConE {Γ : Type} (P : Program) (gl : List (Nat × List CV)) (f : FuncId) (args : List OA) (p : ObjP) (r : Γ → CV) (p' : Γ → ObjP) : Prop :=
  callableB P f = true ∧ ∀ (w : World) (F fp : Nat → Prop) (g : Nat) (vals : Array Value), (∀ b, F b → b < w.heap.size) → GlOK gl F w → p.holds w g fp → fp g → (∀ k, fp k → k < w.heap.size ∧ ¬ F k) → args.length = vals.size → (∀ (i : Nat) (x : OA) (u : Value), args[i]? = some x → vals[i]? = some u → x.rel F w g u) →
    Calls P f vals w fun e w' => ∃ γ v fp', e = .returned v ∧ OPost w F fp g (p' γ) fp' w' ∧ RC (oF w F fp fp' w') w' (r γ) v
theorem OConE.con {P : Program} {gl : List (Nat × List CV)} {f : FuncId} {args : List OA} {p p' : ObjP} {r : CV} (h : OConE (Γ := Unit) P gl f args p (fun _ => r) (fun _ => p')) : OCon P gl f args p r p' :=
  ⟨h.1, fun w F fp g vals h1 h2 h3 h4 h5 h6 h7 => (h.2 w F fp g vals h1 h2 h3 h4 h5 h6 h7).mono fun _ _ ⟨_, v, fp', a, b, c⟩ => ⟨v, fp', a, b, c⟩⟩
section
variable {P : Program} {base : Nat} {w0 : W0} {st : St} {M : Wd} {a : Act} {F' : Nat → Prop}
theorem res1_runV (hs : Sim base w0 st M a) (hF : ∀ b, M.F b → F' b) (hvec : ∀ b E s l, st.H b = some (.vec E s l) → M.H b = some (.vec E s l) ∧ ∀ g, (M.m b).block = some g → F' g) {v : ResultVar} {r : CV} (h : Res1 P st v r) :
    ∃ u, (res1 a v).run P M.w = .ok u M.w ∧ RC F' M.w r u := by
  cases h with
  | tmp h hc =>
    rename_i t y
    obtain ⟨u, h1, h2⟩ := hs.env t y h
    exact ⟨u, by simp [res1, Array.getD_eq_getD_getElem?, h1], cl_rc hs.heap hF hvec h2 hc⟩
  | cell_s I h hH hy hc =>
    rename_i ad t b off n t' l y
    obtain ⟨u, h1, h2⟩ := hs.env ad _ h
    cases h2 with
    | ptr hm =>
      rename_i g
      obtain ⟨g', arr, e1, _, _, e4, e5, e6⟩ := hs.heap.cells b t' l (by rw [hs.H]; exact hH)
      rw [hm] at e1; cases e1
      have hlt : off < arr.size := by rw [← e5]; exact (List.getElem?_eq_some_iff.1 hy).1
      refine ⟨arr[off], ?_, cl_rc hs.heap hF hvec (e6 off y _ hy (by simp [hlt])) hc⟩
      have := run_load_s I M.w ⟨g, off, none⟩ arr[off] (by simp [World.cell?, e4, hlt])
      simp only [Instr.loadAt, Instr.sureAddr, Sem.run_bind, Sem.run_pure, Result.andThen_ok] at this
      simp [res1, Array.getD_eq_getD_getElem?, h1, asAddr, this]
  | cell_a I h hH hy hn hc =>
    rename_i ad t b off n t' l ys rs
    obtain ⟨u, h1, h2⟩ := hs.env ad _ h
    cases h2 with
    | ptr hm =>
      rename_i g
      obtain ⟨g', arr, e1, _, _, e4, e5, e6⟩ := hs.heap.cells b t' l (by rw [hs.H]; exact hH)
      rw [hm] at e1; cases e1
      have hln : ((arr.toList.drop off).take n).length = n := by
        have : ((l.drop off).take n).length = n := by rw [hy]; exact hn
        simp only [List.length_take, List.length_drop, Array.length_toList] at this ⊢
        rw [← e5]; exact this
      have hRA : RA M (.agg ys) (.agg ((arr.toList.drop off).take n).toArray) := by
        refine .agg (by rw [hn]; simpa using hln.symm) (fun i y u hy' hu => ?_)
        subst hy
        have hi : i < n := by have := (List.getElem?_eq_some_iff.1 hy').1; omega
        rw [List.getElem?_take_of_lt hi, List.getElem?_drop] at hy'
        rw [List.getElem?_toArray, List.getElem?_take_of_lt hi, List.getElem?_drop, Array.getElem?_toList] at hu
        exact e6 _ y u hy' hu
      refine ⟨_, ?_, cl_rc hs.heap hF hvec hRA (cl_agg hc)⟩
      have := run_load_a I M.w g off ((arr.toList.drop off).take n) hln (fun j v hv => by
        have hj : j < n := by have := (List.getElem?_eq_some_iff.1 hv).1; omega
        rw [List.getElem?_take_of_lt hj, List.getElem?_drop, Array.getElem?_toList] at hv
        simp [World.cell?, e4, hv])
      simp only [Instr.loadAt, Instr.sureAddr, Sem.run_bind, Sem.run_pure, Result.andThen_ok] at this
      simp [res1, Array.getD_eq_getD_getElem?, h1, asAddr, this]
theorem resL_runV (hs : Sim base w0 st M a) (hF : ∀ b, M.F b → F' b) (hvec : ∀ b E s l, st.H b = some (.vec E s l) → M.H b = some (.vec E s l) ∧ ∀ g, (M.m b).block = some g → F' g) : ∀ {vs : List ResultVar} {rs : List CV}, ResL P st vs rs →
    ∃ us : List Value, (vs.mapM (res1 a)).run P M.w = .ok us M.w ∧ us.length = vs.length ∧ rs.length = us.length ∧ ∀ (i : Nat) (r : CV) (u : Value), rs[i]? = some r → us[i]? = some u → RC F' M.w r u
  | _, _, .nil => ⟨[], by simp, rfl, rfl, fun i r u h => by simp at h⟩
  | _, _, .cons h hs' => by
    obtain ⟨u, h1, h2⟩ := res1_runV hs hF hvec h
    obtain ⟨us, h3, h4, h5, h6⟩ := resL_runV hs hF hvec hs'
    refine ⟨u :: us, ?_, by simp [h4], by simp [h5], fun i r u' h7 h8 => ?_⟩
    · rw [List.mapM_cons, Sem.run_bind, h1]
      simp only [Result.andThen_ok, Sem.run_bind, h3, Sem.run_pure]
    · cases i with
      | zero => simp at h7 h8; subst h7; subst h8; exact h2
      | succ i => exact h6 i r u' (by simpa using h7) (by simpa using h8)
theorem results_runV {fn : Func} (hs : Sim base w0 st M a) (hF : ∀ b, M.F b → F' b) (hvec : ∀ b E s l, st.H b = some (.vec E s l) → M.H b = some (.vec E s l) ∧ ∀ g, (M.m b).block = some g → F' g) {r : CV} {e : Exit} (h : Ret P fn.results.toList r e st) :
    ∃ v, (results fn a.tmps).run P M.w = .ok v M.w ∧ RC F' M.w r v := by
  have hconv : ∀ us : List Value, (fn.results.toList.mapM (res1 a)).run P M.w = .ok us M.w → (results fn a.tmps).run P M.w = .ok (if h : us.toArray.size = 1 then us.toArray[0] else .tuple us.toArray) M.w := by
    intro us hu
    unfold results
    have hmap : Sem.run P (fn.results.mapM (res1 a)) M.w = Result.ok us.toArray M.w := by
      rw [Array.mapM_eq_mapM_toList, map_eq_pure_bind, Sem.run_bind, hu]; rfl
    change Sem.run P (fn.results.mapM (res1 a) >>= fun vs => pure (if h : vs.size = 1 then vs[0] else .tuple vs)) M.w = _
    rw [Sem.run_bind, hmap]; rfl
  obtain ⟨_, h⟩ := h
  rcases h with ⟨v, hv, h⟩ | ⟨hne, zs, rfl, h⟩
  · obtain ⟨u, h1, h2⟩ := res1_runV hs hF hvec h
    refine ⟨u, ?_, h2⟩
    have := hconv [u] (by rw [hv, List.mapM_cons, Sem.run_bind, h1]; simp)
    simpa using this
  · obtain ⟨us, h1, h2, h3, h4⟩ := resL_runV hs hF hvec h
    refine ⟨.tuple us.toArray, ?_, .tup (by simpa using h3) (fun i x u hx hu => h4 i x u hx (by simpa using hu))⟩
    have := hconv us h1
    rw [dif_neg (by simpa [h2] using hne)] at this
    exact this
end
def argEnvO : Nat → List OA → List (Nat × AV)
  | _, [] => []
  | k, x :: l => (k, avOf 0 x) :: argEnvO (k + 1) l
theorem argEnvO_get : ∀ (l : List OA) (k i : Nat) (y : AV), look i (argEnvO k l) = some y → ∃ x, k ≤ i ∧ l[i - k]? = some x ∧ y = avOf 0 x
  | [], k, i, y, h => by simp [argEnvO, look] at h
  | x :: l, k, i, y, h => by
    rw [argEnvO, look_cons] at h
    split at h
    · rename_i hk; subst hk; simp only [Option.some.injEq] at h; exact ⟨x, Nat.le_refl _, by simp, h.symm⟩
    · obtain ⟨x', h1, h2, h3⟩ := argEnvO_get l (k + 1) i y h
      refine ⟨x', by omega, ?_, h3⟩
      rw [show i - k = (i - (k + 1)) + 1 by omega]
      simpa using h2
def ORetE {Γ : Type} (P : Program) (rs : List ResultVar) (r : Γ → CV) (p' : Γ → ObjP) (fr : Option AB) : Exit → St → Prop :=
  fun e st => ∃ γ, Ret P rs (r γ) e st ∧ st.H 0 = some (.obj (p' γ)) ∧ look 1 st.heap = some fr
theorem weak_mkF {n : Nat} {env env' : List (Nat × AV)} {heap heap' : List (Nat × Option AB)} {nx nx' : Nat} {gl : List (Nat × List CV)} {fr : Option AB} (hfr : ∀ x, fr = some x → ∃ p, x = .obj p) (h : Nat.ble nx' nx = true) (h1 : Nat.blt 1 nx' = true) (hl : look 1 heap = some fr) (he : EnvW ⟨n, env, heap, nx, gl⟩ nx' env') (hh : HeapW ⟨n, env, heap, nx, gl⟩ nx' heap') : Weak ⟨n, env, heap, nx, gl⟩ ⟨n, env', (1, fr) :: heap', nx', gl⟩ := by
  refine ⟨rfl, rfl, Nat.le_of_ble_eq_true h, fun i x hx => EnvW.get he i x hx, fun b x hx => ?_⟩
  by_cases hb : 1 = b
  · subst hb
    have hx1 : St.H ⟨n, env', (1, fr) :: heap', nx', gl⟩ 1 = fr := by
      unfold St.H; rw [look_cons, if_pos rfl]; cases fr <;> rfl
    rw [hx1] at hx
    refine ⟨?_, blt_true h1, ?_⟩
    · unfold St.H; rw [hl, hx]
    · obtain ⟨p, rfl⟩ := hfr x hx
      rfl
  · refine HeapW.get hh b x (St.H_some (s := ⟨n, env', heap', nx', gl⟩) ?_)
    unfold St.H at hx ⊢
    rw [look_cons, if_neg hb] at hx
    exact hx
theorem ret_o {Γ : Type} {P : Program} {rs : List ResultVar} {r : Γ → CV} {p' : Γ → ObjP} {fr : Option AB} {e : Exit} {st : St} (γ : Γ) (h1 : Ret P rs (r γ) e st) (h2 : st.H 0 = some (.obj (p' γ))) (h3 : look 1 st.heap = some fr) : ORetE P rs r p' fr e st := ⟨γ, h1, h2, h3⟩
def FrOK (fr : Option AB) : Prop := ∀ x, fr = some x → ∃ p, x = .obj p
theorem st_H1 {st : St} {fr : Option AB} (h : look 1 st.heap = some fr) : st.H 1 = fr := by
  unfold St.H; rw [h]; cases fr <;> rfl
theorem oconE_of {Γ : Type} {P : Program} {gl : List (Nat × List CV)} {f : FuncId} {fn : Func} {c : Code} {args : List OA} {p : ObjP} {r : Γ → CV} {p' : Γ → ObjP} (hf : P.funcs[f]? = some fn) (hb : fn.body = some c) (hcall : callableB P f = true) (hn : Nat.ble args.length fn.ntmps = true) (ho : ∀ x ∈ args, ∀ h, x = .o h → ∀ g, (h g).oneCell' = true)
    (h : ∀ fr : Option AB, FrOK fr → Awp P c (ORetE P fn.results.toList r p' fr) { n := fn.ntmps, env := argEnvO 0 args, heap := [(0, some (.obj p)), (1, fr)], nx := 2, gl := gl }) : OConE P gl f args p r p' := by
  refine ⟨hcall, fun w F fp g vals hF hgl hp hg hfp hl hv => ?_⟩
  have hle := Nat.le_of_ble_eq_true hn
  refine calls_of_wp hf hb ?_
  let ff : Nat → Prop := fun k => k < w.heap.size ∧ ¬ F k ∧ ¬ fp k
  obtain ⟨fr, k0, hfr⟩ : ∃ (fr : Option AB) (k0 : Nat), (fr = some (.obj (frameP w ff)) ∧ ff k0) ∨ (fr = none ∧ ∀ k, ¬ ff k) := by
    rcases Classical.em (∃ k, ff k) with ⟨k, hk⟩ | hk
    · exact ⟨_, k, .inl ⟨rfl, hk⟩⟩
    · exact ⟨none, 0, .inr ⟨rfl, fun k h => hk ⟨k, h⟩⟩⟩
  let M : Wd := { m := fun b => if b = 0 then .blk g else if b = 1 ∧ fr ≠ none then .blk k0 else .row undef, H := St.H { n := fn.ntmps, env := argEnvO 0 args, heap := [(0, some (.obj p)), (1, fr)], nx := 2, gl := gl }, nx := 2, F := F, w := w, fp := fun b => if b = 0 then fp else ff }
  have hm0 : M.m 0 = .blk g := rfl
  have H0 : M.H 0 = some (.obj p) := rfl
  have H1 : M.H 1 = fr := st_H1 rfl
  have H2 : ∀ b, 2 ≤ b → M.H b = none := fun b hb => by
    show St.H _ b = none
    unfold St.H
    simp only [look_cons]
    rw [if_neg (by omega), if_neg (by omega)]
    rfl
  have hfr' : ∀ x, fr = some x → x = .obj (frameP w ff) ∧ ff k0 ∧ M.m 1 = .blk k0 := fun x hx => by
    rcases hfr with ⟨h1, h2⟩ | ⟨h1, _⟩
    · rw [h1] at hx; cases hx
      refine ⟨rfl, h2, ?_⟩
      show (if (1 : Nat) = 0 then Conc.blk g else if (1 : Nat) = 1 ∧ fr ≠ none then Conc.blk k0 else Conc.row undef) = Conc.blk k0
      rw [if_neg (by decide), if_pos ⟨rfl, by rw [h1]; simp⟩]
    · rw [h1] at hx; cases hx
  have hcase : ∀ b x, M.H b = some x → (b = 0 ∧ x = .obj p) ∨ (b = 1 ∧ x = .obj (frameP w ff) ∧ ff k0 ∧ M.m 1 = .blk k0) := fun b x hx => by
    match b with
    | 0 => rw [H0] at hx; cases hx; exact .inl ⟨rfl, rfl⟩
    | 1 => rw [H1] at hx; exact .inr ⟨rfl, hfr' x hx⟩
    | b + 2 => rw [H2 _ (by omega)] at hx; cases hx
  have hfpff : ∀ k, fp k → ¬ ff k := fun k h1 h2 => h2.2.2 h1
  have hsim : Sim 0 ⟨w, F⟩ { n := fn.ntmps, env := argEnvO 0 args, heap := [(0, some (.obj p)), (1, fr)], nx := 2, gl := gl } M { tmps := vals ++ Array.replicate (fn.ntmps - vals.size) undef, defers := [] } := by
    refine ⟨rfl, rfl, by simp; omega, fun i y hy => ?_, fun k xs hk => ?_, ⟨fun b t l hb => ?_, fun b E s l hb => ?_, fun b b' q hbb hb hb' hq => ?_, fun b hb => ?_, fun b hb q hq => ?_, hF, fun b q hb => ?_⟩, ⟨rfl, rfl, rfl, Nat.le_refl _, fun _ _ => rfl⟩, Nat.zero_le _, rfl, fun b _ h => absurd h (Nat.not_lt_zero _)⟩
    · obtain ⟨x, _, h1, rfl⟩ := argEnvO_get args 0 i y hy
      rw [Nat.sub_zero] at h1
      have hi : i < vals.size := by have := (List.getElem?_eq_some_iff.1 h1).1; omega
      have hrel := hv i x vals[i] h1 (by simp [hi])
      refine ⟨vals[i], by simp [Array.getElem?_append, hi], avOf_ra hm0 hrel (fun h' e => ?_)⟩
      subst e
      rw [show vals[i] = h' g from hrel]
      exact ho _ (List.mem_of_getElem? h1) _ rfl g
    · have := hgl k xs hk
      generalize hq : Value.pointer (some ⟨k, 0, none⟩) = q at this ⊢
      cases this with
      | eptr cs hF hcell hr => exact .eptr cs hF hcell hr
    · rcases hcase b _ hb with ⟨_, h⟩ | ⟨_, h, _⟩ <;> cases h
    · rcases hcase b _ hb with ⟨_, h⟩ | ⟨_, h, _⟩ <;> cases h
    · obtain ⟨x, hx⟩ := Option.ne_none_iff_exists'.1 hb
      obtain ⟨x', hx'⟩ := Option.ne_none_iff_exists'.1 hb'
      rcases hcase b x hx with ⟨rfl, _⟩ | ⟨rfl, _, h2, h3⟩ <;> rcases hcase b' x' hx' with ⟨rfl, _⟩ | ⟨rfl, _, h4, h5⟩
      · exact absurd rfl hbb
      · rw [hm0] at hq; rw [h5]
        have hq : some g = some q := hq
        cases hq
        intro hc
        have hc : some k0 = some g := hc
        cases hc
        exact hfpff _ hg h4
      · rw [h3] at hq; rw [hm0]
        have hq : some k0 = some q := hq
        cases hq
        intro hc
        have hc : some g = some k0 := hc
        cases hc
        exact hfpff _ hg h2
      · exact absurd rfl hbb
    · show b < 2
      rcases Nat.lt_or_ge b 2 with h | h
      · exact h
      · exact absurd (H2 b h) hb
    · have hb : 2 ≤ b := hb
      have : M.m b = .row undef := by
        show (if b = 0 then Conc.blk g else if b = 1 ∧ fr ≠ none then Conc.blk k0 else Conc.row undef) = Conc.row undef
        rw [if_neg (by omega), if_neg (fun h => by omega)]
      rw [this] at hq; cases hq
    · rcases hcase b _ hb with ⟨rfl, h⟩ | ⟨rfl, h, h2, h3⟩
      · cases h
        refine ⟨g, hm0, hg, hp, fun k hk => ⟨Nat.zero_le _, hfp k hk⟩, fun b' k hbb hk => ⟨fun hb' hq => ?_, fun p2 hp2 hq => ?_⟩⟩
        · obtain ⟨x', hx'⟩ := Option.ne_none_iff_exists'.1 hb'
          rcases hcase b' x' hx' with ⟨rfl, _⟩ | ⟨rfl, _, h4, h5⟩
          · exact hbb rfl
          · rw [h5] at hq
            simp only [Conc.block, Option.some.injEq] at hq
            subst hq; exact hfpff _ hk h4
        · have hq : (if b' = 0 then fp else ff) k := hq
          rw [if_neg hbb] at hq
          exact hfpff k hk hq
      · cases h
        refine ⟨k0, h3, h2, ⟨fun k => Iff.rfl, fun _ _ => rfl⟩, fun k hk => ⟨Nat.zero_le _, hk.1, hk.2.1⟩, fun b' k hbb hk => ⟨fun hb' hq => ?_, fun p2 hp2 hq => ?_⟩⟩
        · obtain ⟨x', hx'⟩ := Option.ne_none_iff_exists'.1 hb'
          rcases hcase b' x' hx' with ⟨rfl, _⟩ | ⟨rfl, _, h4, h5⟩
          · rw [hm0] at hq
            simp only [Conc.block, Option.some.injEq] at hq
            subst hq; exact hfpff _ hg hk
          · exact hbb rfl
        · rcases hcase b' _ hp2 with ⟨rfl, _⟩ | ⟨rfl, _⟩
          · exact hfpff k hq hk
          · exact hbb rfl
  refine Code.wp_mono ?_ (h fr (fun x hx => ⟨_, (hfr' x hx).1⟩) _ _ _ _ hsim)
  intro e a' w' ⟨M', st', h1, h2, h3, γ, h4, h5, h6⟩
  subst h1
  obtain ⟨g', q1, q2, q3, q4, q5⟩ := h2.heap.obj 0 _ (by rw [h2.H]; exact h5)
  have hg' : g' = g := by
    have := h3.m 0 g hm0
    rw [q1] at this; cases this; rfl
  subst hg'
  have hFr : ∀ k, ff k → M'.w.heap[k]? = w.heap[k]? ∧ ¬ M'.F k ∧ ¬ M'.fp 0 k ∧ ∀ b, b ≠ 1 → M'.H b ≠ none → (M'.m b).block ≠ some k := fun k hk => by
    rcases hfr with ⟨hfr, _⟩ | ⟨_, hfr⟩
    · obtain ⟨k1, r1, r2, r3, r4, r5⟩ := h2.heap.obj 1 (frameP w ff) (by rw [h2.H, st_H1 h6]; exact hfr)
      have hk1 := (r3.1 k).2 hk
      exact ⟨r3.2 k hk, (r4 k hk1).2.2, (r5 0 k (by decide) hk1).2 _ (by rw [h2.H]; exact h5), fun b hb hb' => (r5 b k hb hk1).1 hb'⟩
    · exact absurd hk (hfr k)
  have hold : ∀ k, k < w.heap.size → F k ∨ fp k ∨ ff k := fun k hk => by
    rcases Classical.em (F k) with h | h
    · exact .inl h
    · rcases Classical.em (fp k) with h' | h'
      · exact .inr (.inl h')
      · exact .inr (.inr ⟨hk, h, h'⟩)
  have hpost : OPost w F fp g' (p' γ) (M'.fp 0) M'.w := by
    refine ⟨h2.below.os, h2.below.tape, h2.below.output, h2.below.size, fun k hk hnf => ?_, q3, q2, fun k hk => ⟨(q4 k hk).2.1, ?_⟩⟩
    · rcases hold k hk with h | h | h
      · exact (h3.F k h).2
      · exact absurd h hnf
      · exact (hFr k h).1
    · rcases Nat.lt_or_ge k w.heap.size with h | h
      · rcases hold k h with h | h | h
        · exact absurd (h3.F k h).1 (q4 k hk).2.2
        · exact .inl h
        · exact absurd hk (hFr k h).2.2.1
      · exact .inr h
  have hres := results_runV (fn := fn) h2 (F' := oF w F fp (M'.fp 0) M'.w) (fun b hb' => by
    rcases Nat.lt_or_ge b w.heap.size with hc | hc
    · rcases hold b hc with h | h | h
      · exact .inl h
      · exact .inr ⟨h2.heap.frz b hb', fun hf => (q4 b hf).2.2 hb', .inl h⟩
      · exact absurd hb' (hFr b h).2.1
    · exact .inr ⟨h2.heap.frz b hb', fun hf => (q4 b hf).2.2 hb', .inr hc⟩) (fun b E s l hb => by
    rw [← h2.H] at hb
    refine ⟨hb, fun q hq => ?_⟩
    have hne : M'.H b ≠ none := by rw [hb]; simp
    obtain ⟨v, n, cs, e1, _, _, e4, _, e6⟩ := h2.heap.vec b E s l hb
    rw [e1] at hq
    have hlt := (World.ownsRow.lt e4 q hq).2
    have hb0 : b ≠ 0 := fun e => by rw [e, h2.H, h5] at hb; cases hb
    have hnf : ¬ M'.fp 0 q := fun hf => (q5 b q hb0 hf).1 hne (by rw [e1]; exact hq)
    rcases Nat.lt_or_ge q w.heap.size with hc | hc
    · rcases hold q hc with h | h | h
      · exact .inl h
      · exact .inr ⟨hlt, hnf, .inl h⟩
      · have hb1 : b ≠ 1 := fun e => by
          rw [e, h2.H, st_H1 h6] at hb
          cases (hfr' _ hb).1
        exact absurd (by rw [e1]; exact hq) ((hFr q h).2.2.2 b hb1 hne)
    · exact .inr ⟨hlt, hnf, .inr hc⟩) h4
  obtain ⟨v, hrun, hrc⟩ := hres
  have hpost2 : bodyPost P fn (fun e w' => ∃ γ v fp', e = .returned v ∧ OPost w F fp g' (p' γ) fp' w' ∧ RC (oF w F fp fp' w') w' (r γ) v) e a' M'.w := by
    rcases h4.1 with rfl | rfl
    · exact ⟨h2.defs, v, hrun, γ, v, _, rfl, hpost, hrc⟩
    · exact ⟨h2.defs, v, hrun, γ, v, _, rfl, hpost, hrc⟩
  exact hpost2
def ORet (P : Program) (rs : List ResultVar) (r : CV) (p' : ObjP) (fr : Option AB) : Exit → St → Prop :=
  fun e st => Ret P rs r e st ∧ st.H 0 = some (.obj p') ∧ look 1 st.heap = some fr
theorem ocon_of {P : Program} {gl : List (Nat × List CV)} {f : FuncId} {fn : Func} {c : Code} {args : List OA} {p p' : ObjP} {r : CV} (hf : P.funcs[f]? = some fn) (hb : fn.body = some c) (hcall : callableB P f = true) (hn : Nat.ble args.length fn.ntmps = true) (ho : ∀ x ∈ args, ∀ h, x = .o h → ∀ g, (h g).oneCell' = true)
    (h : ∀ fr : Option AB, FrOK fr → Awp P c (ORet P fn.results.toList r p' fr) { n := fn.ntmps, env := argEnvO 0 args, heap := [(0, some (.obj p)), (1, fr)], nx := 2, gl := gl }) : OCon P gl f args p r p' :=
  OConE.con (oconE_of hf hb hcall hn ho fun fr hfr base w0 M a hs => wp_mono (h fr hfr base w0 M a hs) fun _ _ _ ⟨M', st', h1, h2, h3, h4, h5, h6⟩ => ⟨M', st', h1, h2, h3, (), h4, h5, h6⟩)
section
variable {P : Program} {ops : Array Oper} {Q : Exit → St → Prop} {rest : List Oper} {st : St} {d : Nat} {ty : TypeId} {pos : String} {af : Array Edge}
theorem ao_callOE {Γ : Type} {f : FuncId} {args : List Operand} {tys : Array TypeId} {ys : List AV} {zs : List OA} {r : Γ → CV} {p : ObjP} {p' : Γ → ObjP} (b : Nat) (hcon : OConE P st.gl f zs p r p') (hys : evs st args = some ys) (hz : oas b ys = some zs) (hb : st.H b = some (.obj p)) (hd : Nat.blt d st.n = true)
    (h : ∀ γ, AOps P ops Q rest ((st.set b (.obj (p' γ))).put d (ofC (r γ)))) : AOps P ops Q (⟨some d, .call ⟨.value (.func f), args.toArray, tys⟩, ty, pos, af, none⟩ :: rest) st := by
  intro base w0 M a hs
  have hbM : M.H b = some (.obj p) := by rw [hs.H]; exact hb
  obtain ⟨e1, e2⟩ := evs_get hys
  obtain ⟨e3, e4⟩ := oas_get hz
  obtain ⟨g, o1, o2, o3, o4, o5⟩ := hs.heap.obj b p hbM
  refine wl_enter rfl (run_call hcon.1 a M.w) (R := fun v w'' => ∃ γ fp', OPost M.w M.F (M.fp b) g (p' γ) fp' w'' ∧ RC (oF M.w M.F (M.fp b) fp' w'') w'' (r γ) v) (Calls.mono (hcon.2 M.w M.F (M.fp b) g _ hs.heap.frz (fun g xs hg => ?_) o3 o2 (fun k hk => (o4 k hk).2) (by simp; omega) (fun i x u hx hu => ?_)) (fun e w'' ⟨γ, v, fp', he, hp, hrc⟩ => ⟨v, he, γ, fp', hp, hrc⟩)) (fun v w'' hR => ?_)
  · have := hs.gl g xs hg
    generalize hq : Value.pointer (some ⟨g, 0, none⟩) = q at this ⊢
    cases this with
    | eptr cs hF hcell hr => exact .eptr cs hF hcell hr
  · have hi : i < args.length := by have := (List.getElem?_eq_some_iff.1 hx).1; omega
    obtain ⟨y, hy⟩ : ∃ y, ys[i]? = some y := ⟨_, List.getElem?_eq_getElem (by omega)⟩
    have hev := hs.ev (e2 i args[i] y (by simp [hi]) hy)
    have hu' : a.eval args[i] = u := by simpa [hi] using hu
    rw [hu'] at hev
    exact oaOf_rel hs.heap o1 hev (e4 i y x hy hx)
  · obtain ⟨γ, fp', hp, hrc⟩ := hR
    obtain ⟨M', h1, h2, h3, h4⟩ := hs.changeO hbM o1 hp
    have := h γ base w0 M' _ (h3.put hd (RA.ofC (M := M') (by rw [h2, h1]; exact hrc)))
    rw [← h1]
    exact wpList_monoQ (fun e a w => Lift.ext h4) _ _ _ this
end
end Go.Proofs.Ythkjkhffljlidaa.Ev
