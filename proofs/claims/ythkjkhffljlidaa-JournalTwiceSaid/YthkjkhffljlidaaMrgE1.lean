/- Ev6 Ev7 Ev8 Ev10 Ev9: texts laid together. -/
import Derived.Test.YthkjkhffljlidaaMrgE0
import Derived.Great.FillDense
import Derived.Great.BuildSlice
import Derived.StillTail
/- Rules of a walk over abstract states: calls by contract, and contracts out of walks. Nothing here names a program. -/
namespace Go.Proofs.Ythkjkhffljlidaa.Ev
set_option linter.unusedVariables false
set_option linter.unusedSimpArgs false
open Go.RowKit
def cl (H : Nat → Option AB) : AV → CV → Prop
  | .c x, z => x = z ∨ (x = .v (.slice none 0 0) ∧ ∃ s, z = .lst s [])
  | .agg xs, .agg zs => clL H xs zs
  | .tup xs, .tup zs => clL H xs zs
  | .vec b n, .lst s l => (∃ E, H b = some (.vec E s l)) ∧ l.length = n * s
  | _, _ => False
where clL (H : Nat → Option AB) : List AV → List CV → Prop
  | [], [] => True
  | x :: xs, z :: zs => cl H x z ∧ clL H xs zs
  | _, _ => False
theorem cl_nil {H : Nat → Option AB} : cl.clL H [] [] := trivial
theorem cl_cons {H : Nat → Option AB} {x : AV} {xs : List AV} {z : CV} {zs : List CV} (h : cl H x z) (hs : cl.clL H xs zs) : cl.clL H (x :: xs) (z :: zs) := ⟨h, hs⟩
theorem cl_c {H : Nat → Option AB} {x : CV} : cl H (.c x) x := Or.inl rfl
theorem cl_none {H : Nat → Option AB} {s : Nat} : cl H (.c (.v (.slice none 0 0))) (.lst s []) := Or.inr ⟨rfl, s, rfl⟩
theorem cl_agg {H : Nat → Option AB} {xs : List AV} {zs : List CV} (h : cl.clL H xs zs) : cl H (.agg xs) (.agg zs) := h
theorem cl_vec {H : Nat → Option AB} {b n E s : Nat} {l : List CV} (h : H b = some (.vec E s l)) (hn : l.length = n * s) : cl H (.vec b n) (.lst s l) := ⟨⟨E, h⟩, hn⟩
theorem clL_get {H : Nat → Option AB} : ∀ {xs : List AV} {zs : List CV}, cl.clL H xs zs → xs.length = zs.length ∧ ∀ (i : Nat) (x : AV) (z : CV), xs[i]? = some x → zs[i]? = some z → cl H x z
  | [], [], _ => ⟨rfl, fun i x z h => by simp at h⟩
  | x :: xs, z :: zs, ⟨h1, h2⟩ => by
    obtain ⟨e1, e2⟩ := clL_get h2
    refine ⟨by simp [e1], fun i x' z' h3 h4 => ?_⟩
    cases i with
    | zero => simp at h3 h4; subst h3; subst h4; exact h1
    | succ i => exact e2 i x' z' (by simpa using h3) (by simpa using h4)
  | [], _ :: _, h => h.elim
  | _ :: _, [], h => h.elim
theorem cl_rc {M : Wd} {base : Nat} (hok : HeapOK M base) {F' : Nat → Prop} (hF : ∀ b, M.F b → F' b) {H : Nat → Option AB} (hH : ∀ b E s l, H b = some (.vec E s l) → M.H b = some (.vec E s l) ∧ ∀ g, (M.m b).block = some g → F' g)
    {y : AV} {u : Value} (h : RA M y u) : ∀ {z : CV}, cl H y z → RC F' M.w z u := by
  induction h with
  | c h =>
    intro z hz
    rcases hz with rfl | ⟨rfl, s, rfl⟩
    · exact h.mono (fun b hb => ⟨hF b hb, rfl⟩)
    · cases h; exact .nil
  | agg hl _ ih =>
    intro z hz
    cases z with
    | agg zs =>
      obtain ⟨e1, e2⟩ := clL_get hz
      refine .agg (by rw [← e1, hl]) (fun i x u hx hu => ?_)
      have hi : i < zs.length := (List.getElem?_eq_some_iff.1 hx).1
      obtain ⟨y, hy⟩ : ∃ y, _ = some y := ⟨_, List.getElem?_eq_getElem (by rw [e1]; exact hi)⟩
      exact ih i y u hy hu (e2 i y x hy hx)
    | _ => exact hz.elim
  | tup hl _ ih =>
    intro z hz
    cases z with
    | tup zs =>
      obtain ⟨e1, e2⟩ := clL_get hz
      refine .tup (by rw [← e1, hl]) (fun i x u hx hu => ?_)
      have hi : i < zs.length := (List.getElem?_eq_some_iff.1 hx).1
      obtain ⟨y, hy⟩ : ∃ y, _ = some y := ⟨_, List.getElem?_eq_getElem (by rw [e1]; exact hi)⟩
      exact ih i y u hy hu (e2 i y x hy hx)
    | _ => exact hz.elim
  | ptr _ => intro z hz; cases z <;> exact hz.elim
  | vptr _ _ _ => intro z hz; cases z <;> exact hz.elim
  | eptr _ _ _ _ => intro z hz; cases z <;> exact hz.elim
  | fn _ _ _ => intro z hz; cases z <;> exact hz.elim
  | ghost _ _ _ => intro z hz; cases z <;> exact hz.elim
  | ref _ _ => intro z hz; cases z <;> exact hz.elim
  | vec hb ho hv =>
    rename_i b n v
    intro z hz
    cases z with
    | lst s l =>
      obtain ⟨⟨E, h1⟩, h2⟩ := hz
      obtain ⟨h3, h4⟩ := hH b E s l h1
      obtain ⟨_, h5⟩ := hv E s l h3
      obtain ⟨v', n', cs, e1, e2, e3, e4, e5, e6⟩ := hok.vec b E s l h3
      rw [h5 h2] at e1 h4
      cases e1
      have hnn : n = n' := Nat.eq_of_mul_eq_mul_right e3 (by rw [← h2, e2])
      subst hnn
      rcases e4.2 with ⟨rfl, hn0⟩ | ⟨g, cap, cur, rfl, f1, f2, f3, f4, f5, f6⟩
      · subst hn0
        have : l = [] := List.eq_nil_of_length_eq_zero (by simpa using h2)
        subst this
        exact .nil
      · refine .lst (fun i => cs.getD i undef) h2 f3 (h4 g rfl) (fun i x hx => ?_) (fun i x hx => ?_)
        · have hi : i < cs.length := by rw [e4.1, ← e2]; exact (List.getElem?_eq_some_iff.1 hx).1
          have := World.ownsRow.cells e4 (g := g) rfl i cs[i] (by simp [hi])
          rw [Kit.addr_add] at this
          rw [this]
          simp [List.getD, hi]
        · have hi : i < cs.length := by rw [e4.1, ← e2]; exact (List.getElem?_eq_some_iff.1 hx).1
          have := e5 i x cs[i] hx (by simp [hi])
          rw [show cs.getD i undef = cs[i] by simp [List.getD, hi]]
          exact this.mono (fun b hb => ⟨hF b hb, rfl⟩)
    | _ => exact hz.elim
def GlOK (gl : List (Nat × List CV)) (F : Nat → Prop) (w : World) : Prop := ∀ g xs, look g gl = some xs → RA { m := fun _ => .row undef, H := fun _ => none, nx := 0, F := F, w := w, fp := fun _ _ => False } (.eptr xs 0) (.pointer (some ⟨g, 0, none⟩))
def callableB (P : Program) (f : FuncId) : Bool := match P.funcs[f]? with | some fn => !(fn.name == "runtime.NumGoroutine") && fn.body.isSome | none => false
def Con (P : Program) (gl : List (Nat × List CV)) (f : FuncId) (args : List CV) (r : CV) : Prop :=
  callableB P f = true ∧ ∀ (w : World) (F : Nat → Prop) (vals : Array Value), (∀ b, F b → b < w.heap.size) → GlOK gl F w → args.length = vals.size → (∀ (i : Nat) (x : CV) (u : Value), args[i]? = some x → vals[i]? = some u → RC F w x u) →
    Calls P f vals w fun e w' => ∃ v, e = .returned v ∧ Below w.heap.size w w' ∧ RC (fun b => F b ∨ (w.heap.size ≤ b ∧ b < w'.heap.size)) w' r v
def of1 : CV → AV
  | .agg xs => .agg (xs.map .c)
  | x => .c x
def ofC : CV → AV
  | .tup xs => .tup (xs.map of1)
  | x => of1 x
theorem ofC1 {M : Wd} {x : CV} {u : Value} (h : RC M.F M.w x u) : RA M (of1 x) u := by
  cases h with
  | agg hl hh =>
    refine .agg (by simpa using hl) (fun i y u hy hu => ?_)
    obtain ⟨z, h1, rfl⟩ : ∃ z, _ = some z ∧ AV.c z = y := by simpa using hy
    exact .c (hh i z u h1 hu)
  | v => exact .c (.v _)
  | tup hl hh => exact .c (.tup hl hh)
  | nil => exact .c .nil
  | e0 => exact .c .e0
  | lst cs a b c d e => exact .c (.lst cs a b c d e)
theorem RA.ofC {M : Wd} {x : CV} {u : Value} (h : RC M.F M.w x u) : RA M (Ev.ofC x) u := by
  cases h with
  | agg hl hh => exact ofC1 (.agg hl hh)
  | tup hl hh =>
    refine .tup (by simpa using hl) (fun i y u hy hu => ?_)
    obtain ⟨z, h1, rfl⟩ : ∃ z, _ = some z ∧ of1 z = y := by
      simp only [List.getElem?_map, Option.map_eq_some_iff] at hy
      exact hy
    exact ofC1 (hh i z u h1 hu)
  | v => exact .c (.v _)
  | nil => exact .c .nil
  | e0 => exact .c .e0
  | lst cs a b c d e => exact .c (.lst cs a b c d e)
def evs (st : St) : List Operand → Option (List AV)
  | [] => some []
  | x :: l => match st.ev x, evs st l with | some y, some ys => some (y :: ys) | _, _ => none
theorem evs_get {st : St} : ∀ {l : List Operand} {ys : List AV}, evs st l = some ys → l.length = ys.length ∧ ∀ (i : Nat) (x : Operand) (y : AV), l[i]? = some x → ys[i]? = some y → st.ev x = some y
  | [], ys, h => by simp only [evs, Option.some.injEq] at h; subst h; exact ⟨rfl, fun i x y h => by simp at h⟩
  | x :: l, ys, h => by
    simp only [evs] at h
    split at h
    · rename_i y ys' h1 h2
      simp only [Option.some.injEq] at h; subst h
      obtain ⟨e1, e2⟩ := evs_get h2
      refine ⟨by simp [e1], fun i x' y' h3 h4 => ?_⟩
      cases i with
      | zero => simp at h3 h4; subst h3; subst h4; exact h1
      | succ i => exact e2 i x' y' (by simpa using h3) (by simpa using h4)
    · cases h
def Wd.after (M : Wd) (w' : World) : Wd := { M with F := fun b => M.F b ∨ (M.w.heap.size ≤ b ∧ b < w'.heap.size), w := w' }
theorem Ext.after {M : Wd} {w' : World} (hb : Below M.w.heap.size M.w w') (hf : ∀ b, M.F b → b < M.w.heap.size) : Ext M (M.after w') where
  m := fun _ _ h => h
  v := fun b E size l' _ h => ⟨l', h, Nat.le_refl _, fun _ => rfl⟩
  nx := Nat.le_refl _
  F := fun b h => ⟨Or.inl h, hb.block b (hf b h)⟩
theorem Sim.after {base : Nat} {w0 : W0} {st : St} {M : Wd} {a : Act} {w' : World} (hs : Sim base w0 st M a) (hb : Below M.w.heap.size M.w w') : Sim base w0 st (M.after w') a := by
  have hext := Ext.after hb hs.heap.frz
  refine ⟨hs.H, hs.nx, hs.n, fun i y hy => ?_, fun g xs hg => (hs.gl g xs hg).mono hext, ⟨?_, ?_, hs.heap.sep, hs.heap.lt, hs.heap.fresh, ?_, ?_⟩, hs.below.trans (hb.mono hs.base), Nat.le_trans hs.base hb.size, hs.defs, fun b hf hlt => ?_⟩
  · obtain ⟨v, h1, h2⟩ := hs.env i y hy
    exact ⟨v, h1, h2.mono hext⟩
  · intro b t l hl
    obtain ⟨g, arr, e1, e2, e3, e4, e5, e6⟩ := hs.heap.cells b t l hl
    have hg := (Array.getElem?_eq_some_iff.1 e4).1
    refine ⟨g, arr, e1, e2, fun hf => ?_, by show w'.heap[g]? = _; rw [hb.block g hg]; exact e4, e5, fun i y u h1 h2 => (e6 i y u h1 h2).mono hext⟩
    rcases hf with hf | hf
    · exact e3 hf
    · omega
  · intro b E size l hl
    obtain ⟨v, n, cs, e1, e2, e3, e4, e5, e6⟩ := hs.heap.vec b E size l hl
    refine ⟨v, n, cs, e1, e2, e3, ?_, fun i y u h1 h2 => (e5 i y u h1 h2).mono hext.F, fun g hg hf => ?_⟩
    · obtain ⟨f1, f2⟩ := e4
      refine ⟨f1, ?_⟩
      rcases f2 with f2 | ⟨g, cap, cur, rfl, g1, g2, g3⟩
      · exact Or.inl f2
      · refine Or.inr ⟨g, cap, cur, rfl, g1, ?_, g3⟩
        show w'.heap[g]? = _
        rw [hb.block g (Array.getElem?_eq_some_iff.1 g2).1]; exact g2
    · rcases hf with hf | hf
      · exact e6 g hg hf
      · have := (World.ownsRow.lt e4 g hg).2; omega
  · intro b hf
    show b < w'.heap.size
    rcases hf with hf | hf
    · have := hs.heap.frz b hf; have := hb.size; omega
    · omega
  · intro b p hp
    obtain ⟨g, e1, e2, e3, e4, e5⟩ := hs.heap.obj b p hp
    refine ⟨g, e1, e2, p.stable _ _ _ _ e3 (fun k hk => hb.block k (e4 k hk).2.1), fun k hk => ⟨(e4 k hk).1, Nat.lt_of_lt_of_le (e4 k hk).2.1 hb.size, fun hf => ?_⟩, e5⟩
    rcases hf with hf | hf
    · exact (e4 k hk).2.2 hf
    · have := (e4 k hk).2.1; omega
  · rcases hf with hf | hf
    · exact hs.old b hf hlt
    · have := hs.base; omega
section
variable {P : Program} {ops : Array Oper} {Q : Exit → St → Prop} {rest : List Oper} {st : St} {d : Nat} {ty : TypeId} {pos : String} {af : Array Edge}
theorem run_call {f : FuncId} {args : List Operand} {tys : Array TypeId} {dst : Option Tmp} (hc : callableB P f = true) (a : Act) (w : World) :
    (execOp a.eval ⟨dst, .call ⟨.value (.func f), args.toArray, tys⟩, ty, pos, af, none⟩).run P w = .ok (.enter f (args.map a.eval).toArray) w := by
  unfold callableB at hc
  split at hc
  · rename_i fn hf
    simp only [Bool.and_eq_true, Bool.not_eq_true'] at hc
    obtain ⟨h1, h2⟩ := hc
    cases hb : fn.body with
    | none => rw [hb] at h2; cases h2
    | some c =>
      simp only [execOp, resolve, Act.eval, Deferred.ofValue]
      have h1' : ¬ fn.name = "runtime.NumGoroutine" := by simpa using h1
      simp [invoke, callFunc, hf, h1', hb]
  · cases hc
theorem wl_enter {Q : Exit → Act → World → Prop} {o : Oper} {rest : List Oper} {a : Act} {w w' : World} {f : FuncId} {args : Array Value} (hg : o.guard = none) (hr : (execOp a.eval o).run P w = .ok (.enter f args) w') {R : Value → World → Prop}
    (hc : Calls P f args w' fun e w'' => ∃ v, e = .returned v ∧ R v w'') (h : ∀ v w'', R v w'' → wpList P ops Q rest (a.put o.dst v) w'') : wpList P ops Q (o :: rest) a w :=
  wpList_plain hg fun K hK => by
    unfold Oper.wp
    rw [hr]
    exact hc.mono fun e w'' ⟨v, he, hR⟩ => by subst he; exact hK _ _ (h v w'' hR)
def clF : AV → Option CV
  | .c x => some x
  | .agg xs => (clFL xs).map .agg
  | .tup xs => (clFL xs).map .tup
  | _ => none
where clFL : List AV → Option (List CV)
  | [] => some []
  | x :: l => match clF x, clFL l with | some y, some ys => some (y :: ys) | _, _ => none
mutual
theorem clF_cl {H : Nat → Option AB} : ∀ {x : AV} {z : CV}, clF x = some z → cl H x z
  | .c x, z, h => by simp only [clF, Option.some.injEq] at h; subst h; exact Or.inl rfl
  | .agg xs, z, h => by
    simp only [clF, Option.map_eq_some_iff] at h
    obtain ⟨zs, h1, rfl⟩ := h
    exact clF_clL h1
  | .tup xs, z, h => by
    simp only [clF, Option.map_eq_some_iff] at h
    obtain ⟨zs, h1, rfl⟩ := h
    exact clF_clL h1
  | .ptr _ _, z, h => by cases h
  | .vec _ _, z, h => by cases h
  | .vptr _ _ _, z, h => by cases h
  | .eptr _ _, z, h => by cases h
  | .fn _ _, z, h => by cases h
  | .ghost _ _ _, z, h => by cases h
  | .ref _ _, z, h => by cases h
theorem clF_clL {H : Nat → Option AB} : ∀ {xs : List AV} {zs : List CV}, clF.clFL xs = some zs → cl.clL H xs zs
  | [], zs, h => by simp only [clF.clFL, Option.some.injEq] at h; subst h; trivial
  | x :: xs, zs, h => by
    simp only [clF.clFL] at h
    cases h1 : clF x with
    | none => rw [h1] at h; cases h
    | some y =>
      cases h2 : clF.clFL xs with
      | none => rw [h1, h2] at h; cases h
      | some ys =>
        rw [h1, h2] at h
        simp only [Option.some.injEq] at h; subst h
        exact ⟨clF_cl h1, clF_clL h2⟩
end
theorem ao_call {X : List Oper → St → Prop} [W : Walk P X] {f : FuncId} {args : List Operand} {tys : Array TypeId} {ys : List AV} {zs : List CV} {r : CV} {y : AV} (hys : evs st args = some ys) (hz0 : clF.clFL ys = some zs) (hcon : Con P st.gl f zs r) (hy : ofC r = y) (hd : Nat.blt d st.n = true)
    (h : X rest (st.put d y)) : X (⟨some d, .call ⟨.value (.func f), args.toArray, tys⟩, ty, pos, af, none⟩ :: rest) st := by
  subst hy
  have hz : cl.clL (fun _ => none) ys zs := clF_clL hz0
  refine W.step rfl rfl hd (fun base w0 M a hs K Q hK => ?_) h
  obtain ⟨e1, e2⟩ := evs_get hys
  obtain ⟨e3, e4⟩ := clL_get hz
  unfold Oper.wp
  rw [run_call hcon.1 a M.w]
  refine Calls.mono (hcon.2 M.w M.F _ hs.sim.heap.frz (fun g xs hg => ?_) (by simp; omega) (fun i x u hx hu => ?_)) (fun e w'' hR => ?_)
  · have := hs.sim.gl g xs hg
    generalize hq : Value.pointer (some ⟨g, 0, none⟩) = q at this ⊢
    cases this with
    | eptr cs hF hcell hr => exact .eptr cs hF hcell hr
  · have hi : i < args.length := by have := (List.getElem?_eq_some_iff.1 hx).1; omega
    obtain ⟨y, hy⟩ : ∃ y, ys[i]? = some y := ⟨_, List.getElem?_eq_getElem (by omega)⟩
    have hev := hs.ev (by simp [Op.operands, Call.operands]; exact Or.inr (List.getElem_mem hi)) (e2 i args[i] y (by simp [hi]) hy)
    have hu' : a.eval args[i] = u := by simpa [hi] using hu
    rw [hu'] at hev
    exact cl_rc hs.sim.heap (F' := M.F) (fun _ h => h) (fun b E s l h => by cases h) hev (e4 i y x hy hx)
  · obtain ⟨v, rfl, hb, hrc⟩ := hR
    exact hK v (M.after w'') (Ext.after hb hs.sim.heap.frz) (fun s hs' => hs'.after hb) (RA.ofC (M := M.after w'') hrc)
end
inductive Res1 (P : Program) (st : St) : ResultVar → CV → Prop
  | tmp {t : Nat} {y : AV} {r : CV} (h : look t st.env = some y) (hc : cl st.H y r) : Res1 P st (.tmp t) r
  | cell_s {ad t b off n : Nat} {t' : TypeId} {l : List AV} {y : AV} {r : CV} (I : TyC P t false n) (h : look ad st.env = some (.ptr b off)) (hH : st.H b = some (.cells t' l)) (hy : l[off]? = some y) (hc : cl st.H y r) : Res1 P st (.cell ad t) r
  | cell_a {ad t b off n : Nat} {t' : TypeId} {l ys : List AV} {rs : List CV} (I : TyC P t true n) (h : look ad st.env = some (.ptr b off)) (hH : st.H b = some (.cells t' l)) (hy : (l.drop off).take n = ys) (hn : ys.length = n) (hc : cl.clL st.H ys rs) : Res1 P st (.cell ad t) (.agg rs)
inductive ResL (P : Program) (st : St) : List ResultVar → List CV → Prop
  | nil : ResL P st [] []
  | cons {v : ResultVar} {vs : List ResultVar} {r : CV} {rs : List CV} (h : Res1 P st v r) (hs : ResL P st vs rs) : ResL P st (v :: vs) (r :: rs)
def Ret (P : Program) (rs : List ResultVar) (r : CV) : Exit → St → Prop
  | e, st => (e = .normal ∨ e = .ret) ∧ ((∃ v, rs = [v] ∧ Res1 P st v r) ∨ (rs.length ≠ 1 ∧ ∃ zs, r = .tup zs ∧ ResL P st rs zs))
theorem ret1 {P : Program} {v : ResultVar} {r : CV} {st : St} (h : Res1 P st v r) : Ret P [v] r .ret st := ⟨Or.inr rfl, Or.inl ⟨v, rfl, h⟩⟩
theorem ret2 {P : Program} {v1 v2 : ResultVar} {vs : List ResultVar} {zs : List CV} {st : St} (h : ResL P st (v1 :: v2 :: vs) zs) : Ret P (v1 :: v2 :: vs) (.tup zs) .ret st := ⟨Or.inr rfl, Or.inr ⟨by simp, zs, rfl, h⟩⟩
def res1 (a : Act) : ResultVar → Sem Value
  | .tmp t => pure (a.tmps.getD t undef)
  | .cell ad t => do loadVar t (← asAddr (a.tmps.getD ad undef))
theorem res1_run {P : Program} {base : Nat} {w0 : W0} {st : St} {M : Wd} {a : Act} (hs : Sim base w0 st M a) {F' : Nat → Prop} (hF : ∀ b, M.F b → F' b) (hF' : ∀ b, base ≤ b → b < M.w.heap.size → F' b) {v : ResultVar} {r : CV} (h : Res1 P st v r) :
    ∃ u, (res1 a v).run P M.w = .ok u M.w ∧ RC F' M.w r u := by
  have hvec : ∀ b E s l, st.H b = some (.vec E s l) → M.H b = some (.vec E s l) ∧ ∀ g, (M.m b).block = some g → F' g := fun b E s l hb => by
    rw [← hs.H] at hb
    refine ⟨hb, fun g hg => ?_⟩
    obtain ⟨v, n, cs, e1, _, _, e4, _⟩ := hs.heap.vec b E s l hb
    rw [e1] at hg
    obtain ⟨f1, f2⟩ := World.ownsRow.lt e4 g hg
    exact hF' g f1 f2
  cases h with
  | tmp h hc =>
    rename_i t y
    obtain ⟨u, h1, h2⟩ := hs.env t y h
    exact ⟨u, by simp [res1, Array.getD_eq_getD_getElem?, h1], cl_rc hs.heap hF hvec h2 hc⟩
  | cell_s I h hH hy hc =>
    rename_i ad t b off n t' l y
    obtain ⟨u, h1, h2⟩ := hs.env ad _ h
    cases h2 with
    | ptr hm =>
      rename_i g
      obtain ⟨g', arr, e1, _, _, e4, e5, e6⟩ := hs.heap.cells b t' l (by rw [hs.H]; exact hH)
      rw [hm] at e1; cases e1
      have hlt : off < arr.size := by rw [← e5]; exact (List.getElem?_eq_some_iff.1 hy).1
      refine ⟨arr[off], ?_, cl_rc hs.heap hF hvec (e6 off y _ hy (by simp [hlt])) hc⟩
      have := run_load_s I M.w ⟨g, off, none⟩ arr[off] (by simp [World.cell?, e4, hlt])
      simp only [Instr.loadAt, Instr.sureAddr, Sem.run_bind, Sem.run_pure, Result.andThen_ok] at this
      simp [res1, Array.getD_eq_getD_getElem?, h1, asAddr, this]
  | cell_a I h hH hy hn hc =>
    rename_i ad t b off n t' l ys rs
    obtain ⟨u, h1, h2⟩ := hs.env ad _ h
    cases h2 with
    | ptr hm =>
      rename_i g
      obtain ⟨g', arr, e1, _, _, e4, e5, e6⟩ := hs.heap.cells b t' l (by rw [hs.H]; exact hH)
      rw [hm] at e1; cases e1
      have hln : ((arr.toList.drop off).take n).length = n := by
        have : ((l.drop off).take n).length = n := by rw [hy]; exact hn
        simp only [List.length_take, List.length_drop, Array.length_toList] at this ⊢
        rw [← e5]; exact this
      have hRA : RA M (.agg ys) (.agg ((arr.toList.drop off).take n).toArray) := by
        refine .agg (by rw [hn]; simpa using hln.symm) (fun i y u hy' hu => ?_)
        subst hy
        have hi : i < n := by have := (List.getElem?_eq_some_iff.1 hy').1; omega
        rw [List.getElem?_take_of_lt hi, List.getElem?_drop] at hy'
        rw [List.getElem?_toArray, List.getElem?_take_of_lt hi, List.getElem?_drop, Array.getElem?_toList] at hu
        exact e6 _ y u hy' hu
      refine ⟨_, ?_, cl_rc hs.heap hF hvec hRA (cl_agg hc)⟩
      have := run_load_a I M.w g off ((arr.toList.drop off).take n) hln (fun j v hv => by
        have hj : j < n := by have := (List.getElem?_eq_some_iff.1 hv).1; omega
        rw [List.getElem?_take_of_lt hj, List.getElem?_drop, Array.getElem?_toList] at hv
        simp [World.cell?, e4, hv])
      simp only [Instr.loadAt, Instr.sureAddr, Sem.run_bind, Sem.run_pure, Result.andThen_ok] at this
      simp [res1, Array.getD_eq_getD_getElem?, h1, asAddr, this]
theorem resL_run {P : Program} {base : Nat} {w0 : W0} {st : St} {M : Wd} {a : Act} (hs : Sim base w0 st M a) {F' : Nat → Prop} (hF : ∀ b, M.F b → F' b) (hF' : ∀ b, base ≤ b → b < M.w.heap.size → F' b) : ∀ {vs : List ResultVar} {rs : List CV}, ResL P st vs rs →
    ∃ us : List Value, (vs.mapM (res1 a)).run P M.w = .ok us M.w ∧ us.length = vs.length ∧ rs.length = us.length ∧ ∀ (i : Nat) (r : CV) (u : Value), rs[i]? = some r → us[i]? = some u → RC F' M.w r u
  | _, _, .nil => ⟨[], by simp, rfl, rfl, fun i r u h => by simp at h⟩
  | _, _, .cons h hs' => by
    obtain ⟨u, h1, h2⟩ := res1_run hs hF hF' h
    obtain ⟨us, h3, h4, h5, h6⟩ := resL_run hs hF hF' hs'
    refine ⟨u :: us, ?_, by simp [h4], by simp [h5], fun i r u' h7 h8 => ?_⟩
    · rw [List.mapM_cons, Sem.run_bind, h1]
      simp only [Result.andThen_ok, Sem.run_bind, h3, Sem.run_pure]
    · cases i with
      | zero => simp at h7 h8; subst h7; subst h8; exact h2
      | succ i => exact h6 i r u' (by simpa using h7) (by simpa using h8)
def argEnv : Nat → List CV → List (Nat × AV)
  | _, [] => []
  | k, x :: l => (k, ofC x) :: argEnv (k + 1) l
theorem argEnv_get : ∀ (l : List CV) (k i : Nat) (y : AV), look i (argEnv k l) = some y → ∃ x, k ≤ i ∧ l[i - k]? = some x ∧ y = ofC x
  | [], k, i, y, h => by simp [argEnv, look] at h
  | x :: l, k, i, y, h => by
    rw [argEnv, look_cons] at h
    split at h
    · rename_i hk; subst hk; simp only [Option.some.injEq] at h; exact ⟨x, Nat.le_refl _, by simp, h.symm⟩
    · obtain ⟨x', h1, h2, h3⟩ := argEnv_get l (k + 1) i y h
      refine ⟨x', by omega, ?_, h3⟩
      rw [show i - k = (i - (k + 1)) + 1 by omega]
      simpa using h2
theorem results_run {P : Program} {fn : Func} {base : Nat} {w0 : W0} {st : St} {M : Wd} {a : Act} (hs : Sim base w0 st M a) {F' : Nat → Prop} (hF : ∀ b, M.F b → F' b) (hF' : ∀ b, base ≤ b → b < M.w.heap.size → F' b) {r : CV} {e : Exit} (h : Ret P fn.results.toList r e st) :
    ∃ v, (results fn a.tmps).run P M.w = .ok v M.w ∧ RC F' M.w r v := by
  have hconv : ∀ us : List Value, (fn.results.toList.mapM (res1 a)).run P M.w = .ok us M.w → (results fn a.tmps).run P M.w = .ok (if h : us.toArray.size = 1 then us.toArray[0] else .tuple us.toArray) M.w := by
    intro us hu
    unfold results
    have hmap : Sem.run P (fn.results.mapM (res1 a)) M.w = Result.ok us.toArray M.w := by
      rw [Array.mapM_eq_mapM_toList, map_eq_pure_bind, Sem.run_bind, hu]; rfl
    change Sem.run P (fn.results.mapM (res1 a) >>= fun vs => pure (if h : vs.size = 1 then vs[0] else .tuple vs)) M.w = _
    rw [Sem.run_bind, hmap]; rfl
  obtain ⟨_, h⟩ := h
  rcases h with ⟨v, hv, h⟩ | ⟨hne, zs, rfl, h⟩
  · obtain ⟨u, h1, h2⟩ := res1_run hs hF hF' h
    refine ⟨u, ?_, h2⟩
    have := hconv [u] (by rw [hv, List.mapM_cons, Sem.run_bind, h1]; simp)
    simpa using this
  · obtain ⟨us, h1, h2, h3, h4⟩ := resL_run hs hF hF' h
    refine ⟨.tuple us.toArray, ?_, .tup (by simpa using h3) (fun i x u hx hu => h4 i x u hx (by simpa using hu))⟩
    have := hconv us h1
    rw [dif_neg (by simpa [h2] using hne)] at this
    exact this
theorem con_of {P : Program} {gl : List (Nat × List CV)} {f : FuncId} {fn : Func} {c : Code} {args : List CV} {r : CV} (hf : P.funcs[f]? = some fn) (hb : fn.body = some c) (hcall : callableB P f = true) (hn : Nat.ble args.length fn.ntmps = true)
    (h : Awp P c (Ret P fn.results.toList r) { n := fn.ntmps, env := argEnv 0 args, heap := [], nx := 0, gl := gl }) : Con P gl f args r := by
  refine ⟨hcall, fun w F vals hF hgl hl hv => ?_⟩
  have hle := Nat.le_of_ble_eq_true hn
  refine calls_of_wp hf hb ?_
  have hsim : Sim w.heap.size ⟨w, F⟩ { n := fn.ntmps, env := argEnv 0 args, heap := [], nx := 0, gl := gl } { m := fun _ => .row undef, H := fun _ => none, nx := 0, F := F, w := w, fp := fun _ _ => False } { tmps := vals ++ Array.replicate (fn.ntmps - vals.size) undef, defers := [] } := by
    refine ⟨rfl, rfl, by simp; omega, fun i y hy => ?_, hgl, ⟨?_, ?_, fun b b' g _ h => absurd rfl h, fun b h => absurd rfl h, ?_, hF, ?_⟩, Below.refl _ _, Nat.le_refl _, rfl, fun b h _ => h⟩
    rotate_left
    · intro b t l h; cases h
    · intro b E s l h; cases h
    · intro b _ g h; cases h
    · intro b p h; cases h
    obtain ⟨x, _, h1, rfl⟩ := argEnv_get args 0 i y hy
    rw [Nat.sub_zero] at h1
    have hi : i < vals.size := by have := (List.getElem?_eq_some_iff.1 h1).1; omega
    refine ⟨vals[i], by simp [Array.getElem?_append, hi], RA.ofC (M := { m := fun _ => .row undef, H := fun _ => none, nx := 0, F := F, w := w, fp := fun _ _ => False }) (hv i x _ h1 (by simp [hi]))⟩
  refine Code.wp_mono ?_ (h _ _ _ _ hsim)
  intro e a' w' ⟨M', st', h1, h2, h3, h4⟩
  subst h1
  have hres := results_run (fn := fn) h2 (F' := fun b => F b ∨ (w.heap.size ≤ b ∧ b < M'.w.heap.size)) (fun b hb' => by
    rcases Nat.lt_or_ge b w.heap.size with hc | hc
    · exact Or.inl (h2.old b hb' hc)
    · exact Or.inr ⟨hc, h2.heap.frz b hb'⟩) (fun b h1 h2 => Or.inr ⟨h1, h2⟩) h4
  obtain ⟨v, hrun, hrc⟩ := hres
  have hpost : bodyPost P fn (fun e w' => ∃ v, e = .returned v ∧ Below w.heap.size w w' ∧ RC (fun b => F b ∨ (w.heap.size ≤ b ∧ b < w'.heap.size)) w' r v) e a' M'.w := by
    rcases h4.1 with rfl | rfl
    · exact ⟨h2.defs, v, hrun, v, rfl, h2.below, hrc⟩
    · exact ⟨h2.defs, v, hrun, v, rfl, h2.below, hrc⟩
  exact hpost
end Go.Proofs.Ythkjkhffljlidaa.Ev
/- Rules of a walk over abstract states: lists. Nothing here names a program. -/
namespace Go.Proofs.Ythkjkhffljlidaa.Ev
set_option linter.unusedVariables false
set_option linter.unusedSimpArgs false
open Go.RowKit
theorem flat_len {α : Type} {enc : α → List CV} {size : Nat} (henc : ∀ x, (enc x).length = size) : ∀ l : List α, (l.flatMap enc).length = l.length * size
  | [] => by simp
  | x :: l => by rw [List.flatMap_cons, List.length_append, henc, flat_len henc l, List.length_cons, Nat.add_mul]; omega
theorem flat_drop {α : Type} {enc : α → List CV} {size : Nat} (henc : ∀ x, (enc x).length = size) : ∀ (l : List α) (k : Nat), (l.flatMap enc).drop (k * size) = (l.drop k).flatMap enc
  | [], k => by simp
  | x :: l, 0 => by simp
  | x :: l, k + 1 => by
    rw [List.flatMap_cons, List.drop_succ_cons, ← flat_drop henc l k, Nat.add_mul, Nat.add_comm, Nat.one_mul, ← List.drop_drop, List.drop_append_of_le_length (by rw [henc]; exact Nat.le_refl _), ← henc x, List.drop_length, List.nil_append, henc]
theorem drop_at {α : Type} {enc : α → List CV} {size : Nat} (I : EncL enc size) (l : List α) (k : Nat) (h : k < l.length) : (l.flatMap enc).drop (k * size) = enc l[k] ++ (l.drop (k + 1)).flatMap enc := by
  rw [flat_drop I.len, List.drop_eq_getElem_cons h, List.flatMap_cons]
theorem drop_atj {α : Type} {enc : α → List CV} {size : Nat} (I : EncL enc size) (l : List α) (k j : Nat) (h : k < l.length) (hj : j ≤ size) : (l.flatMap enc).drop (k * size + j) = (enc l[k]).drop j ++ (l.drop (k + 1)).flatMap enc := by
  rw [← List.drop_drop, drop_at I l k h, List.drop_append_of_le_length (by rw [I.len]; exact hj)]
section
variable {P : Program} {ops : Array Oper} {Q : Exit → St → Prop} {X : List Oper → St → Prop} {rest : List Oper} {st : St} {d : Nat} {ty : TypeId} {pos : String} {af : Array Edge}
theorem run_indexAt {t E size bytes : Nat} (I : SlT P t E size bytes) (w : World) (g o n cap k : Nat) (kk : IntKind) (h : k < n) : (Instr.indexAt t (.slice (some ⟨g, o, none⟩) n cap) (.int kk (k : Int))).run P w = .ok (.pointer (some ⟨g, o + k * size, none⟩)) w := by
  obtain ⟨i, z, h1, h2, h3, h4, h5, h6⟩ := I.out
  have e : (Addr.add ⟨g, o, none⟩ (k * size)) = ⟨g, o + k * size, none⟩ := Kit.addr_add g o _
  simp [Instr.indexAt, run_underlying h1, sizeOf, typeInfo, h2, h4, e, asIntOf, h]
theorem ao_index_l [W : Walk P X] {x i : Operand} {t E size bytes : Nat} [I : SlT P t E size bytes] {xs : List CV} {kk : IntKind} {idx : Int} (k : Nat) (hx : st.ev x = some (.c (.lst size xs))) (hi : st.ev i = some (.c (.v (.int kk idx)))) (hk : idx = (k : Int)) (hlt : k * size < xs.length) (hd : Nat.blt d st.n = true)
    (h : X rest (st.put d (.eptr xs (k * size)))) : X (⟨some d, .indexAddr t x i, ty, pos, af, none⟩ :: rest) st := by
  refine ao_val rfl rfl hd (fun _ _ M a hs => ?_) h
  have hv := hs.ev (by simp [Op.operands, Call.operands]) hx
  have hidx := (hs.ev (by simp [Op.operands, Call.operands]) hi).bool
  subst hk
  generalize he : a.eval x = u at hv
  cases hv with
  | c hv =>
    cases hv with
    | nil => simp at hlt
    | lst cs hn hc hF hcell hr =>
      rename_i blk off n cap
      have hkn : k < n := by rw [hn] at hlt; exact Nat.lt_of_mul_lt_mul_right hlt
      refine ⟨.pointer (some ⟨blk, off + k * size, none⟩), ?_, .eptr cs hF hcell hr⟩
      simp only [execOp, he, hidx]
      rw [Sem.run_bind, run_indexAt I M.w blk off n cap k kk hkn]; rfl
theorem ao_index_f [W : Walk P X] {α : Type} {enc : α → List CV} {x i : Operand} {t E size bytes : Nat} [I : SlT P t E size bytes] {l : List α} {kk : IntKind} {idx : Int} (k : Nat) (hx : st.ev x = some (.c (.lst size (l.flatMap enc)))) (J : EncL enc size) (hi : st.ev i = some (.c (.v (.int kk idx)))) (hk : idx = (k : Int)) (hlt : k < l.length) (hd : Nat.blt d st.n = true)
    (h : X rest (st.put d (.eptr (l.flatMap enc) (k * size)))) : X (⟨some d, .indexAddr t x i, ty, pos, af, none⟩ :: rest) st :=
  ao_index_l k hx hi hk (by rw [flat_len J.len]; exact Nat.mul_lt_mul_of_pos_right hlt J.pos) hd h
theorem ao_index_v [W : Walk P X] {x i : Operand} {t E E' size bytes b n : Nat} [I : SlT P t E size bytes] {xs : List CV} {kk : IntKind} {idx : Int} (k : Nat) (hx : st.ev x = some (.vec b n)) (hH : st.H b = some (.vec E' size xs)) (hn : xs.length = n * size) (hi : st.ev i = some (.c (.v (.int kk idx)))) (hk : idx = (k : Int)) (hlt : k < n) (hd : Nat.blt d st.n = true)
    (h : X rest (st.put d (.vptr b n (k * size)))) : X (⟨some d, .indexAddr t x i, ty, pos, af, none⟩ :: rest) st := by
  refine ao_val rfl rfl hd (fun _ _ M a hs => ?_) h
  have hv := hs.ev (by simp [Op.operands, Call.operands]) hx
  have hidx := (hs.ev (by simp [Op.operands, Call.operands]) hi).bool
  subst hk
  generalize he : a.eval x = u at hv
  cases hv with
  | vec hb ho hh =>
    have hM : M.H b = some (.vec E' size xs) := hs.H _ _ hH
    obtain ⟨h1, h2⟩ := hh E' size xs hM
    obtain ⟨v, n', cs, e1, e2, e3, e4, e5, e6⟩ := hs.sim.heap.vec b E' size xs hM
    rw [h2 hn] at e1; cases e1
    have hnn : n = n' := Nat.eq_of_mul_eq_mul_right e3 (by rw [← hn, e2])
    subst hnn
    rcases e4.2 with ⟨_, hn0⟩ | ⟨g, cap, cur, rfl, f1, f2, f3, f4, f5, f6⟩
    · omega
    · refine ⟨.pointer (some ⟨g, k * size, none⟩), ?_, .vptr hb rfl (fun E2 size2 l2 hl2 => ?_)⟩
      · simp only [execOp, he, hidx]
        have := run_indexAt I M.w g 0 n cap k kk hlt
        rw [Nat.zero_add] at this
        rw [Sem.run_bind, this]; rfl
      · rw [hM] at hl2
        simp only [Option.some.injEq, AB.vec.injEq] at hl2
        obtain ⟨rfl, rfl, rfl⟩ := hl2
        exact ⟨h1, fun _ => ⟨g, cap, h2 hn, rfl⟩⟩
theorem ao_load_f0 [W : Walk P X] {α : Type} {enc : α → List CV} {x : Operand} {t n size k : Nat} {l : List α} {r : α} {y : CV} {ys : List CV} [I : TyC P t false n] (hx : st.ev x = some (.eptr (l.flatMap enc) (k * size))) (J : EncL enc size) (hr : l[k]? = some r) (hy : enc r = y :: ys) (hd : Nat.blt d st.n = true) (h : X rest (st.put d (.c y))) : X (⟨some d, .load t x, ty, pos, af, none⟩ :: rest) st := by
  obtain ⟨hk, rfl⟩ := List.getElem?_eq_some_iff.1 hr
  exact ao_load_e hx (by rw [drop_at J l k hk, hy]; rfl) hd h
theorem run_len {t E size bytes : Nat} (I : SlT P t E size bytes) (w : World) (ad : Option Addr) (n cap : Nat) (ty : TypeId) : (Builtin.len_ #[t] ty #[.slice ad n cap]).run P w = .ok (.int .i64 (n : Int)) w := by
  obtain ⟨i, z, h1, h2, h3, h4, h5, h6⟩ := I.out
  simp [Builtin.len_, run_underlying h1, goInt]
theorem ex_len {t E size bytes : Nat} (I : SlT P t E size bytes) {a : Act} {w : World} {ad : Option Addr} {n cap : Nat} {x : Operand} {dst : Option Tmp} (hx : a.eval x = .slice ad n cap) : (execOp a.eval ⟨dst, .call ⟨.builtin .len, #[x], #[t]⟩, ty, pos, af, none⟩).run P w = .ok (.value (.int .i64 (n : Int))) w := by
  simp only [execOp, resolve, List.map_toArray, List.map_cons, List.map_nil, hx]
  simp [invoke, builtin, run_len I w ad n cap]
theorem ao_len_f [W : Walk P X] {α : Type} {enc : α → List CV} {x : Operand} {t E size bytes : Nat} [I : SlT P t E size bytes] {l : List α} (hx : st.ev x = some (.c (.lst size (l.flatMap enc)))) (J : EncL enc size) (hd : Nat.blt d st.n = true) (h : X rest (st.put d (.c (.v (.int .i64 (l.length : Int)))))) : X (⟨some d, .call ⟨.builtin .len, #[x], #[t]⟩, ty, pos, af, none⟩ :: rest) st := by
  refine ao_val rfl rfl hd (fun _ _ M a hs => ?_) h
  have hv := hs.ev (by simp [Op.operands, Call.operands]) hx
  generalize hxs : l.flatMap enc = xs at hv
  have hlen := flat_len J.len l
  rw [hxs] at hlen
  generalize he : a.eval x = u at hv
  cases hv with
  | c hv =>
    cases hv with
    | nil =>
      have h0 : l.length = 0 := by
        simp only [List.length_nil] at hlen
        rcases Nat.mul_eq_zero.1 hlen.symm with h | h
        · exact h
        · exact absurd h (by have := J.pos; omega)
      exact ⟨_, ex_len I he, by rw [h0]; exact .c (.v _)⟩
    | lst cs hn hc hF hcell hr =>
      rename_i n cap
      have : n = l.length := Nat.eq_of_mul_eq_mul_right J.pos (by rw [← hn, hlen])
      subst this
      exact ⟨_, ex_len I he, .c (.v _)⟩
theorem ao_len_nil [W : Walk P X] {x : Operand} {t E size bytes : Nat} [I : SlT P t E size bytes] (hx : st.ev x = some (.c (.v (.slice none 0 0)))) (hd : Nat.blt d st.n = true) (h : X rest (st.put d (.c (.v (.int .i64 0))))) : X (⟨some d, .call ⟨.builtin .len, #[x], #[t]⟩, ty, pos, af, none⟩ :: rest) st :=
  ao_val rfl rfl hd (fun _ _ M a hs => ⟨_, ex_len I (hs.ev (by simp [Op.operands, Call.operands]) hx).bool, .c (.v _)⟩) h
theorem ao_len_v [W : Walk P X] {x : Operand} {t E E' size size' bytes b n : Nat} [I : SlT P t E size bytes] {xs : List CV} (hx : st.ev x = some (.vec b n)) (hH : st.H b = some (.vec E' size' xs)) (hn : xs.length = n * size') (hd : Nat.blt d st.n = true) (h : X rest (st.put d (.c (.v (.int .i64 (n : Int)))))) : X (⟨some d, .call ⟨.builtin .len, #[x], #[t]⟩, ty, pos, af, none⟩ :: rest) st := by
  refine ao_val rfl rfl hd (fun _ _ M a hs => ?_) h
  have hv := hs.ev (by simp [Op.operands, Call.operands]) hx
  generalize he : a.eval x = u at hv
  cases hv with
  | vec hb ho hh =>
    have hM : M.H b = some (.vec E' size' xs) := hs.H _ _ hH
    obtain ⟨h1, h2⟩ := hh E' size' xs hM
    obtain ⟨v, n', cs, e1, e2, e3, e4, e5, e6⟩ := hs.sim.heap.vec b E' size' xs hM
    rw [h2 hn] at e1; cases e1
    have hnn : n = n' := Nat.eq_of_mul_eq_mul_right e3 (by rw [← hn, e2])
    subst hnn
    rcases e4.2 with ⟨rfl, rfl⟩ | ⟨g, cap, cur, rfl, _⟩
    · exact ⟨_, ex_len I he, .c (.v _)⟩
    · exact ⟨_, ex_len I he, .c (.v _)⟩
end
end Go.Proofs.Ythkjkhffljlidaa.Ev
/- Rules of a walk over abstract states: structs, new lists, appends. Nothing here names a program. -/
namespace Go.Proofs.Ythkjkhffljlidaa.Ev
set_option linter.unusedVariables false
set_option linter.unusedSimpArgs false
open Go.RowKit
def fieldVB (P : Program) (s i : Nat) : Option (Nat × Bool × Nat) :=
  match P.underlying s with
  | some (.struct fs) => match fs[i]? with
    | some f => match tyB P f.type with
      | some (ag, n) => some (f.offset, ag, n)
      | none => none
    | none => none
  | _ => none
class FieldV (P : Program) (s i : Nat) (off : outParam Nat) (ag : outParam Bool) (n : outParam Nat) : Prop where
  h : fieldVB P s i = some (off, ag, n)
def strB (P : Program) (t : Nat) : Option (List (Nat × Nat) × List Value) :=
  match P.info? t, P.underlying t with
  | some it, some (.struct fields) => match it.zero, fields.toList.mapM (fun f => (P.info? f.type).map fun i => (f.offset, i.size)) with
    | some z, some places => some (places, z.cells.toList)
    | _, _ => none
  | _, _ => none
class StrT (P : Program) (t : Nat) (pl : outParam (List (Nat × Nat))) (zs : outParam (List Value)) : Prop where
  h : strB P t = some (pl, zs)
def AV.cellsA : AV → List AV
  | .agg xs => xs
  | y => [y]
def AV.okP : AV → Bool
  | .agg _ => true
  | y => y.cellB
def fillA (pl : List (Nat × Nat)) (cells : List AV) : List (Nat × AV) → Option (List AV)
  | [] => some cells
  | (i, y) :: rest => match pl[i]? with
    | none => none
    | some (off, size) => bif Nat.beq y.cellsA.length size && Nat.ble (off + size) cells.length && y.okP then fillA pl (splice cells y.cellsA off) rest else none
theorem cellsA_ra {M : Wd} {y : AV} {u : Value} (h : RA M y u) (hc : y.okP = true) : y.cellsA.length = u.cells.size ∧ ∀ (i : Nat) (z : AV) (v : Value), y.cellsA[i]? = some z → u.cells[i]? = some v → RA M z v := by
  by_cases hy : ∃ xs, y = .agg xs
  · obtain ⟨xs, rfl⟩ := hy
    cases h with
    | agg hl hh => exact ⟨hl, hh⟩
  · have h1 : y.cellB = true := by
      cases y <;> first | exact hc | exact absurd ⟨_, rfl⟩ hy
    have h2 : y.cellsA = [y] := by
      cases y <;> first | rfl | exact absurd ⟨_, rfl⟩ hy
    rw [h2, cells_one (h.one h1)]
    refine ⟨rfl, fun i z v hz hv => ?_⟩
    cases i with
    | zero => simp at hz hv; subst hz; subst hv; exact h
    | succ i => simp at hz
theorem fold_set : ∀ (vs : List Value) (k off : Nat) (cells : Array Value), off + k + vs.length ≤ cells.size →
    ((vs.zipIdx k).foldl (fun (cs : Array Value) (x : Value × Nat) => cs.setIfInBounds (off + x.2) x.1) cells).toList = cells.toList.take (off + k) ++ vs ++ cells.toList.drop (off + k + vs.length)
  | [], k, off, cells, _ => by simp
  | v :: vs, k, off, cells, h => by
    simp only [List.zipIdx_cons, List.foldl_cons]
    rw [fold_set vs (k + 1) off _ (by simp at h ⊢; omega)]
    simp only [List.length_cons] at h ⊢
    simp only [Array.toList_setIfInBounds]
    have hlt : off + k < cells.toList.length := by simp; omega
    rw [show off + (k + 1) = (off + k) + 1 by omega, List.take_set, List.drop_set_of_lt (by omega), List.take_succ_eq_append_getElem hlt, List.set_append_right _ _ (by simp; omega)]
    simp only [List.length_take, Nat.min_eq_left (Nat.le_of_lt hlt), Nat.sub_self, List.set_cons_zero, List.append_assoc, List.singleton_append]
    congr 3
    omega
theorem fill_sound {M : Wd} (pl : List (Nat × Nat)) : ∀ (parts : List (Nat × AV)) (cells : List AV) (arr : Array Value) (vals : List (Nat × Value)) (out : List AV), fillA pl cells parts = some out → cells.length = arr.size → (∀ (i : Nat) (x : AV) (u : Value), cells[i]? = some x → arr[i]? = some u → RA M x u) →
    parts.length = vals.length → (∀ (i : Nat) (p : Nat × AV) (q : Nat × Value), parts[i]? = some p → vals[i]? = some q → p.1 = q.1 ∧ RA M p.2 q.2) →
    ∃ res, Instr.fill (pl.toArray[·]?) arr vals = some res ∧ out.length = res.size ∧ ∀ (i : Nat) (x : AV) (u : Value), out[i]? = some x → res[i]? = some u → RA M x u
  | [], cells, arr, vals, out, h, hl, hr, hp, _ => by
    simp only [fillA, Option.some.injEq] at h; subst h
    have : vals = [] := List.eq_nil_of_length_eq_zero (by simpa using hp.symm)
    subst this
    exact ⟨arr, rfl, hl, hr⟩
  | (i, y) :: parts, cells, arr, vals, out, h, hl, hr, hp, hpr => by
    match vals, hp with
    | (j, v) :: vals, hp =>
      obtain ⟨h1, h2⟩ := hpr 0 (i, y) (j, v) rfl rfl
      dsimp only at h1 h2; subst h1
      simp only [fillA] at h
      cases hpl : pl[i]? with
      | none => rw [hpl] at h; cases h
      | some os =>
        obtain ⟨off, size⟩ := os
        rw [hpl] at h
        dsimp only at h
        cases hb : (Nat.beq y.cellsA.length size && Nat.ble (off + size) cells.length && y.okP) with
        | false => rw [hb] at h; cases h
        | true =>
          rw [hb] at h
          simp only [cond_true] at h
          simp only [Bool.and_eq_true] at hb
          obtain ⟨⟨b1, b2⟩, b3⟩ := hb
          have b1 := beq_true b1
          have b2 := Nat.le_of_ble_eq_true b2
          obtain ⟨c1, c2⟩ := cellsA_ra h2 b3
          have hvs : v.cells.toList.length = size := by simp; omega
          have hfs := fold_set v.cells.toList 0 off arr (by simp; omega)
          have hfold : (v.cells.zipIdx.foldl (fun (cs : Array Value) (x : Value × Nat) => cs.setIfInBounds (off + x.2) x.1) arr).toList = arr.toList.take off ++ v.cells.toList ++ arr.toList.drop (off + size) := by
            rw [← Array.foldl_toList, Array.toList_zipIdx, hfs, hvs, Nat.add_zero]
          generalize hA : v.cells.zipIdx.foldl (fun (cs : Array Value) (x : Value × Nat) => cs.setIfInBounds (off + x.2) x.1) arr = A at hfold
          have hsz : A.size = arr.size := by
            have := congrArg List.length hfold
            simp only [Array.length_toList, List.length_append, List.length_take, List.length_drop] at this
            simp only [Array.length_toList] at hvs
            omega
          obtain ⟨res, e1, e2, e3⟩ := fill_sound pl parts (splice cells y.cellsA off) A vals out h (by rw [hsz, splice]; simp; omega) (fun k x u hx hu => by
            rw [splice, aget_splice cells y.cellsA off y.cellsA.length k rfl (by omega)] at hx
            rw [← Array.getElem?_toList, hfold, aget_splice arr.toList v.cells.toList off size k hvs (by simp; omega)] at hu
            rw [b1] at hx
            split at hx
            · rename_i g1; rw [if_pos g1] at hu; exact hr k x u hx (by simpa using hu)
            · rename_i g1; rw [if_neg g1] at hu
              split at hx
              · rename_i g2; rw [if_pos g2] at hu; exact c2 _ x u hx (by simpa using hu)
              · rename_i g2; rw [if_neg g2] at hu; exact hr k x u hx (by simpa using hu)) (by simpa using hp) (fun k p q hp' hq' => hpr (k + 1) p q (by simpa using hp') (by simpa using hq'))
          refine ⟨res, ?_, e2, e3⟩
          simp only [Instr.fill]
          rw [List.getElem?_toArray, hpl]
          dsimp only
          rw [if_neg (by simp; omega), hA]
          exact e1
def evp (st : St) : List (Nat × Operand) → Option (List (Nat × AV))
  | [] => some []
  | (i, x) :: l => match st.ev x, evp st l with | some y, some ys => some ((i, y) :: ys) | _, _ => none
theorem evp_get {st : St} : ∀ {l : List (Nat × Operand)} {ys : List (Nat × AV)}, evp st l = some ys → ys.length = l.length ∧ ∀ (k : Nat) (p : Nat × AV) (q : Nat × Operand), ys[k]? = some p → l[k]? = some q → p.1 = q.1 ∧ st.ev q.2 = some p.2
  | [], ys, h => by simp only [evp, Option.some.injEq] at h; subst h; exact ⟨rfl, fun k p q h => by simp at h⟩
  | (i, x) :: l, ys, h => by
    simp only [evp] at h
    split at h
    · rename_i y ys' h1 h2
      simp only [Option.some.injEq] at h; subst h
      obtain ⟨e1, e2⟩ := evp_get h2
      refine ⟨by simp [e1], fun k p q h3 h4 => ?_⟩
      cases k with
      | zero => simp at h3 h4; subst h3; subst h4; exact ⟨rfl, h1⟩
      | succ k => exact e2 k p q (by simpa using h3) (by simpa using h4)
    · cases h
section
variable {P : Program} {ops : Array Oper} {Q : Exit → St → Prop} {X : List Oper → St → Prop} {rest : List Oper} {st : St} {d : Nat} {ty : TypeId} {pos : String} {af : Array Edge}
theorem ao_build [W : Walk P X] {t : TypeId} {parts : List (Nat × Operand)} {pl : List (Nat × Nat)} {zs : List Value} {ps : List (Nat × AV)} {out : List AV} [I : StrT P t pl zs] (hp : evp st parts = some ps) (hf : fillA pl (zs.map fun z => .c (.v z)) ps = some out) (hd : Nat.blt d st.n = true) (h : X rest (st.put d (.agg out))) : X (⟨some d, .build t parts.toArray, ty, pos, af, none⟩ :: rest) st := by
  refine ao_val rfl rfl hd (fun _ _ M a hs => ?_) h
  have hI := I.h
  unfold strB at hI
  split at hI
  · rename_i it fields hi hu
    split at hI
    · rename_i z places hz hpl
      simp only [Option.some.injEq, Prod.mk.injEq] at hI
      obtain ⟨rfl, rfl⟩ := hI
      obtain ⟨e1, e2⟩ := evp_get hp
      obtain ⟨res, f1, f2, f3⟩ := fill_sound (M := M) places ps _ z.cells (parts.map fun q => (q.1, a.eval q.2)) out hf (by simp) (fun i x u hx hu' => by
        simp only [List.getElem?_map, Array.getElem?_toList, hu', Option.map_some, Option.some.injEq] at hx
        subst hx; exact .c (.v _)) (by simp [e1]) (fun i p q hp' hq' => by
          obtain ⟨q0, h1, rfl⟩ : ∃ q0, parts[i]? = some q0 ∧ (q0.1, a.eval q0.2) = q := by simpa using hq'
          obtain ⟨h2, h3⟩ := e2 i p q0 hp' h1
          exact ⟨h2, hs.ev (by simp only [Op.operands]; simp; exact ⟨q0.1, List.mem_of_getElem? h1⟩) h3⟩)
      refine ⟨.agg res, ?_, .agg f2 f3⟩
      simp only [execOp]
      rw [Sem.run_bind, run_build M.w t _ res (by simp only [Program.built, hi, hu, hz, hpl, List.map_toArray]; exact f1)]; rfl
    · cases hI
  · cases hI
end
end Go.Proofs.Ythkjkhffljlidaa.Ev
/- Rules of a walk over abstract states: regions that draw their order. Nothing here names a program. -/
namespace Go.Proofs.Ythkjkhffljlidaa.Ev
set_option linter.unusedVariables false
set_option linter.unusedSimpArgs false
open Go.RowKit
structure StEq (s t : St) : Prop where
  n : s.n = t.n
  heap : s.heap = t.heap
  nx : s.nx = t.nx
  gl : s.gl = t.gl
  env : ∀ i, look i s.env = look i t.env
theorem StEq.symm {s t : St} (h : StEq s t) : StEq t s := ⟨h.n.symm, h.heap.symm, h.nx.symm, h.gl.symm, fun i => (h.env i).symm⟩
theorem StEq.put {s t : St} (h : StEq s t) (d : Nat) (y : AV) : StEq (s.put d y) (t.put d y) :=
  ⟨h.n, h.heap, h.nx, h.gl, fun i => by simp only [St.put, look_cons]; rw [h.env i]⟩
theorem StEq.comm (s : St) {d d' : Nat} (hne : d ≠ d') (y y' : AV) : StEq ((s.put d y).put d' y') ((s.put d' y').put d y) :=
  ⟨rfl, rfl, rfl, rfl, fun i => by
    simp only [St.put, look_cons]
    by_cases h1 : d' = i
    · subst h1; rw [if_pos rfl, if_neg hne, if_pos rfl]
    · rw [if_neg h1]; by_cases h2 : d = i
      · rw [if_pos h2, if_pos h2]
      · rw [if_neg h2, if_neg h2, if_neg h1]⟩
theorem StEq.H {s t : St} (h : StEq s t) : s.H = t.H := by unfold St.H; rw [h.heap]
theorem StEq.ev {s t : St} (h : StEq s t) (x : Operand) : s.ev x = t.ev x := by
  cases x with
  | tmp i => exact h.env i
  | const v => rfl
  | global g => simp only [St.ev, h.gl]
  | func f => rfl
theorem StEq.sim {s t : St} (h : StEq s t) {base : Nat} {w0 : W0} {M : Wd} {a : Act} (hs : Sim base w0 s M a) : Sim base w0 t M a :=
  ⟨hs.H.trans h.H, hs.nx.trans h.nx, hs.n.trans h.n, fun i x hx => hs.env i x (by rw [h.env i]; exact hx), fun g xs hg => hs.gl g xs (by rw [h.gl]; exact hg), hs.heap, hs.below, hs.base, hs.defs, hs.old⟩
section
variable {P : Program} {ops : Array Oper}
theorem QStep.up {o : Oper} {s t : St} {y : AV} (h : QStep P o s y) (hH : ∀ b x, s.H b = some x → t.H b = some x) (hg : s.gl = t.gl) (hev : ∀ x ∈ o.op.operands, s.ev x = t.ev x) : QStep P o t y :=
  fun base w0 M a hs => h base w0 M a ⟨⟨fun b x hx => hs.sim.H b x (hH b x hx), fun g xs hx => hs.sim.gl g xs (by rw [← hg]; exact hx), hs.sim.heap⟩, fun x hm z hz => hs.ops x hm z (by rw [← hev x hm]; exact hz)⟩
theorem QStep.of {o : Oper} {s t : St} {y : AV} (h : QStep P o s y) (hh : s.heap = t.heap) (hg : s.gl = t.gl) (hev : ∀ x ∈ o.op.operands, s.ev x = t.ev x) : QStep P o t y :=
  h.up (fun b x hx => by unfold St.H at *; rw [← hh]; exact hx) hg hev
theorem upon_guard {dst : Option Tmp} {op : Op} {ty : TypeId} {pos : String} {af : Array Edge} {g g' : Option (Nat × Bool)} {a : Act} {K : Act → World → Prop} {Q : Exit → Act → World → Prop} {r : Result Next} (h : Oper.upon P ⟨dst, op, ty, pos, af, g⟩ a K Q r) : Oper.upon P ⟨dst, op, ty, pos, af, g'⟩ a K Q r := by
  cases r with
  | ok n w' => cases n <;> exact h
  | halt x w' => cases x <;> exact h
theorem QStep.guard {dst : Option Tmp} {op : Op} {ty : TypeId} {pos : String} {af : Array Edge} {g g' : Option (Nat × Bool)} {st : St} {y : AV} (q : QStep P ⟨dst, op, ty, pos, af, g⟩ st y) : QStep P ⟨dst, op, ty, pos, af, g'⟩ st y :=
  fun base w0 M a hs K Q hK => upon_guard (q base w0 M a ⟨hs.sim, hs.ops⟩ K Q hK)
def DY (P : Program) (ops : Array Oper) (o : Oper) (st : St) (d : Nat) (y : AV) : Prop :=
  o.dst = some d ∧ Nat.blt d st.n = true ∧
  ((o.guard = none ∧ QStep P o st y) ∨
   (∃ j want t b, o.guard = some (j, want) ∧ (ops[j]?).bind (·.dst) = some t ∧ look t st.env = some (.c (.v (.bool b))) ∧ ((b = want ∧ QStep P o st y) ∨ (b ≠ want ∧ y = .c (.v undef)))) ∨
   (∃ j want t, o.guard = some (j, want) ∧ (ops[j]?).bind (·.dst) = some t ∧ look t st.env = some (.c (.v undef)) ∧ y = .c (.v undef)))
theorem DY.of {o : Oper} {s t : St} {d : Nat} {y : AV} (h : DY P ops o s d y) (hn : s.n = t.n) (hh : ∀ b x, s.H b = some x → t.H b = some x) (hg : s.gl = t.gl) (hev : ∀ x ∈ o.op.operands, s.ev x = t.ev x)
    (hgd : ∀ j want q, o.guard = some (j, want) → (ops[j]?).bind (·.dst) = some q → look q s.env = look q t.env) : DY P ops o t d y := by
  obtain ⟨h1, h2, h3⟩ := h
  refine ⟨h1, by rw [← hn]; exact h2, ?_⟩
  rcases h3 with ⟨g, q⟩ | ⟨j, want, q, b, g1, g2, g3, g4⟩ | ⟨j, want, q, g1, g2, g3, g4⟩
  · exact .inl ⟨g, q.up hh hg hev⟩
  · refine .inr (.inl ⟨j, want, q, b, g1, g2, by rw [← hgd j want q g1 g2]; exact g3, ?_⟩)
    exact g4.imp (fun ⟨e, q⟩ => ⟨e, q.up hh hg hev⟩) id
  · exact .inr (.inr ⟨j, want, q, g1, g2, by rw [← hgd j want q g1 g2]; exact g3, g4⟩)
theorem DY.eq {o : Oper} {s t : St} {d : Nat} {y : AV} (h : DY P ops o s d y) (e : StEq s t) : DY P ops o t d y :=
  h.of e.n (fun b x hx => by rw [← e.H]; exact hx) e.gl (fun x _ => e.ev x) (fun _ _ q _ _ => e.env q)
theorem ev_put {s : St} {d : Nat} {y : AV} {x : Operand} (h : x ≠ .tmp d) : (s.put d y).ev x = s.ev x := by
  cases x with
  | tmp i =>
    simp only [St.ev, St.put, look_cons]
    rw [if_neg (fun e => h (by rw [e]))]
  | _ => rfl
theorem looks_ne {o : Oper} {d : Nat} (h : d ∉ o.looksAt ops) : (∀ x ∈ o.op.operands, x ≠ .tmp d) ∧ ∀ j want q, o.guard = some (j, want) → (ops[j]?).bind (·.dst) = some q → q ≠ d := by
  refine ⟨fun x hx e => h ?_, fun j want q hg hq e => h ?_⟩
  · subst e
    exact List.mem_append_left _ (List.mem_filterMap.2 ⟨.tmp d, by simpa using hx, rfl⟩)
  · subst e
    refine List.mem_append_right _ ?_
    rw [hg]; dsimp only; rw [hq]; simp
theorem DY.put {o : Oper} {s : St} {d : Nat} {y : AV} (h : DY P ops o s d y) {d' : Nat} (y' : AV) (hl : d' ∉ o.looksAt ops) : DY P ops o (s.put d' y') d y := by
  obtain ⟨h1, h2⟩ := looks_ne hl
  refine h.of rfl (fun _ _ hx => hx) rfl (fun x hx => (ev_put (h1 x hx)).symm) (fun j want q hg hq => ?_)
  simp only [St.put, look_cons]; rw [if_neg (Ne.symm (h2 j want q hg hq))]
theorem DY.unput {o : Oper} {s : St} {d : Nat} {y : AV} {d' : Nat} {y' : AV} (h : DY P ops o (s.put d' y') d y) (hl : d' ∉ o.looksAt ops) : DY P ops o s d y := by
  obtain ⟨h1, h2⟩ := looks_ne hl
  refine h.of rfl (fun _ _ hx => hx) rfl (fun x hx => ev_put (h1 x hx)) (fun j want q hg hq => ?_)
  simp only [St.put, look_cons]; rw [if_neg (Ne.symm (h2 j want q hg hq))]
def DSeq (P : Program) (ops : Array Oper) (L : St → Prop) : List Oper → St → Prop
  | [], st => L st
  | o :: rest, st => ∃ d y, DY P ops o st d y ∧ DSeq P ops L rest (st.put d y)
instance {L : St → Prop} : Walk P (DSeq P ops L) where
  step := fun hg hdst hd hq h => ⟨_, _, ⟨hdst, hd, .inl ⟨hg, hq⟩⟩, h⟩
theorem ds_nil {L : St → Prop} {st : St} (h : L st) : DSeq P ops L [] st := h
theorem ds_guard_t {L : St → Prop} {rest : List Oper} {st : St} {dst : Option Tmp} {op : Op} {ty : TypeId} {pos : String} {af : Array Edge} {j t : Nat} {want b : Bool} (hj : (ops[j]?).bind (·.dst) = some t) (hb : look t st.env = some (.c (.v (.bool b)))) (hw : b = want)
    (h : DSeq P ops L (⟨dst, op, ty, pos, af, none⟩ :: rest) st) : DSeq P ops L (⟨dst, op, ty, pos, af, some (j, want)⟩ :: rest) st := by
  obtain ⟨d, y, ⟨h1, h2, h3⟩, h4⟩ := h
  refine ⟨d, y, ⟨h1, h2, .inr (.inl ⟨j, want, t, b, rfl, hj, hb, .inl ⟨hw, ?_⟩⟩)⟩, h4⟩
  rcases h3 with ⟨_, q⟩ | ⟨_, _, _, _, g, _⟩ | ⟨_, _, _, g, _⟩
  · exact q.guard
  · cases g
  · cases g
theorem ds_guard_f {L : St → Prop} {rest : List Oper} {st : St} {d : Nat} {op : Op} {ty : TypeId} {pos : String} {af : Array Edge} {j t : Nat} {want b : Bool} (hj : (ops[j]?).bind (·.dst) = some t) (hb : look t st.env = some (.c (.v (.bool b)))) (hw : b = !want) (hd : Nat.blt d st.n = true)
    (h : DSeq P ops L rest (st.put d (.c (.v undef)))) : DSeq P ops L (⟨some d, op, ty, pos, af, some (j, want)⟩ :: rest) st :=
  ⟨d, _, ⟨rfl, hd, .inr (.inl ⟨j, want, t, b, rfl, hj, hb, .inr ⟨by rw [hw]; cases want <;> simp, rfl⟩⟩)⟩, h⟩
theorem ds_guard {L : St → Prop} {rest : List Oper} {st : St} {d : Nat} {op : Op} {ty : TypeId} {pos : String} {af : Array Edge} {j t : Nat} {want b : Bool} (hj : (ops[j]?).bind (·.dst) = some t) (hb : look t st.env = some (.c (.v (.bool b)))) (hd : Nat.blt d st.n = true)
    (h : b = want → DSeq P ops L (⟨some d, op, ty, pos, af, none⟩ :: rest) st) (h' : b = !want → DSeq P ops L rest (st.put d (.c (.v undef)))) : DSeq P ops L (⟨some d, op, ty, pos, af, some (j, want)⟩ :: rest) st := by
  by_cases hw : b = want
  · exact ds_guard_t hj hb hw (h hw)
  · have hw' : b = !want := by cases b <;> cases want <;> simp_all
    exact ds_guard_f hj hb hw' hd (h' hw')
theorem ds_guard_n {L : St → Prop} {rest : List Oper} {st : St} {d : Nat} {op : Op} {ty : TypeId} {pos : String} {af : Array Edge} {j t : Nat} {want : Bool} (hj : (ops[j]?).bind (·.dst) = some t) (hb : look t st.env = some (.c (.v undef))) (hd : Nat.blt d st.n = true)
    (h : DSeq P ops L rest (st.put d (.c (.v undef)))) : DSeq P ops L (⟨some d, op, ty, pos, af, some (j, want)⟩ :: rest) st :=
  ⟨d, _, ⟨rfl, hd, .inr (.inr ⟨j, want, t, rfl, hj, hb, rfl⟩)⟩, h⟩
def DAny (P : Program) (md : Region.Mode) (ops : Array Oper) (n : Nat) (L : Array Bool → St → Prop) : Nat → Array Bool → St → Prop
  | 0, listed, st => L listed st
  | f + 1, listed, st => Region.ready md ops listed ≠ [] ∧ ∀ i ∈ Region.ready md ops listed, i < n ∧ ∃ o d y, ops[i]? = some o ∧ DY P ops o st d y ∧ DAny P md ops n L f (listed.setIfInBounds i true) (st.put d y)
variable {md : Region.Mode} {n : Nat} {L : Array Bool → St → Prop}
theorem DAny.eq (hL : ∀ listed s t, StEq s t → L listed s → L listed t) : ∀ (f : Nat) (listed : Array Bool) (s t : St), StEq s t → DAny P md ops n L f listed s → DAny P md ops n L f listed t
  | 0, listed, s, t, e, h => hL listed s t e h
  | f + 1, listed, s, t, e, h => ⟨h.1, fun i hi => by
    obtain ⟨h1, o, d, y, h2, h3, h4⟩ := h.2 i hi
    exact ⟨h1, o, d, y, h2, h3.eq e, DAny.eq hL f _ _ _ (e.put d y) h4⟩⟩
theorem DAny_first {i : Nat} {oi : Oper} (hi : ops[i]? = some oi) (hin : i < n) (hL : ∀ listed s t, StEq s t → L listed s → L listed t) (hdone : ∀ listed st, L listed st → ∀ j ∈ Region.ready md ops listed, n ≤ j)
    (htail : ∀ listed, HeadInv md ops n listed → ∀ i, i < n → listed.getD i true = false → ∀ t, n ≤ t → t ∉ Region.ready md ops listed) :
    ∀ (f : Nat) (listed : Array Bool) (st : St) (d : Nat) (y : AV), HeadInv md ops n listed →
      (∀ j oj, ops[j]? = some oj → j ≠ i → listed.getD j true = false → (∀ e ∈ oj.after, Region.binds md e = true → e.on ≠ i) → oi.apart ops oj = true) →
      i ∈ Region.ready md ops listed → DY P ops oi st d y → DAny P md ops n L f (listed.setIfInBounds i true) (st.put d y) → DAny P md ops n L (f + 1) listed st := by
  intro f
  induction f with
  | zero =>
    intro listed st d y inv hfree hr hy H
    refine ⟨fun h0 => (by rw [h0] at hr; cases hr), fun j hj => ?_⟩
    have hjn : j < n := Nat.lt_of_not_le fun hc => htail listed inv i hin (mem_ready.1 hr).1 j hc hj
    by_cases hji : j = i
    · subst hji; exact ⟨hjn, oi, d, y, hi, hy, H⟩
    · have := hdone _ _ H j (ready_mono hj hji)
      omega
  | succ f ih =>
    intro listed st d y inv hfree hr hy H
    refine ⟨fun h0 => (by rw [h0] at hr; cases hr), fun j hj => ?_⟩
    have hjn : j < n := Nat.lt_of_not_le fun hc => htail listed inv i hin (mem_ready.1 hr).1 j hc hj
    by_cases hji : j = i
    · subst hji; exact ⟨hjn, oi, d, y, hi, hy, H⟩
    · obtain ⟨_, oj, dj, yj, h2, h3, h4⟩ := H.2 j (ready_mono hj hji)
      obtain ⟨hjun, oj', hoj, hall⟩ := mem_ready.1 hj
      have hoo : oj' = oj := Option.some.inj (hoj.symm.trans h2)
      subst hoo
      have hnot : ∀ e ∈ oj'.after, Region.binds md e = true → e.on ≠ i := fun e he hb heq => by
        have h1 := hall e he hb
        have h0 := getD_both (mem_ready.1 hr).1
        rw [heq, h0] at h1
        cases h1
      obtain ⟨a1, a2, a3⟩ := Oper.apart_spec (hfree j oj' hoj hji hjun hnot)
      have hdi : oi.dst = some d := hy.1
      have hdj : oj'.dst = some dj := h3.1
      have hne : d ≠ dj := fun e => a2 d hdi (by rw [hdj, e])
      have h3' := h3.unput (a1 d hdi)
      refine ⟨hjn, oj', dj, yj, h2, h3', ?_⟩
      have hfree' : ∀ k ok, ops[k]? = some ok → k ≠ i → (listed.setIfInBounds j true).getD k true = false → (∀ e ∈ ok.after, Region.binds md e = true → e.on ≠ i) → oi.apart ops ok = true := fun k ok hk hki hun hno => by
        refine hfree k ok hk hki ?_ hno
        by_cases hjk : j = k
        · subst hjk; exact hjun
        · rw [getD_set_ne true hjk] at hun; exact hun
      refine ih (listed.setIfInBounds j true) (st.put dj yj) d y (inv.set hj hjn) hfree' (ready_mono hr (Ne.symm hji)) (hy.put yj (a3 dj hdj)) ?_
      rw [Array.setIfInBounds_comm _ _ hji]
      exact DAny.eq hL f _ _ _ (StEq.comm st hne y yj) h4
theorem DAny_lex {g : Nat} {Lq : St → Prop} (hLq : ∀ s t, StEq s t → Lq s → Lq t)
    (htail : ∀ listed, HeadInv md ops n listed → ∀ i, i < n → listed.getD i true = false → ∀ t, n ≤ t → t ∉ Region.ready md ops listed) :
    ∀ (l : List Oper) (k : Nat) (listed : Array Bool) (st : St), (∀ j, j < l.length → l[j]? = ops[k + j]?) → k + l.length = n → HeadInv md ops n listed →
    Region.lexHead md ops g l.length k listed = true → DSeq P ops Lq l st → DAny P md ops n (fun listed' st' => Region.seqB md ops g n listed' = true ∧ Lq st') l.length listed st
  | [], k, listed, st, _, hk, _, hB, h => by
    have : k = n := by simpa using hk
    subst this
    exact ⟨by simpa [Region.lexHead] using hB, h⟩
  | o :: l, k, listed, st, hl, hk, inv, hB, h => by
    have h0 : ops[k]? = some o := by simpa using (hl 0 (by simp)).symm
    simp only [List.length_cons, Region.lexHead, Bool.and_eq_true] at hB
    obtain ⟨⟨hr, hf⟩, hB'⟩ := hB
    have hkn : k < n := by simp only [List.length_cons] at hk; omega
    have hr' : k ∈ Region.ready md ops listed := by simpa using hr
    obtain ⟨d, y, hy, hK⟩ := h
    exact DAny_first h0 hkn (fun listed s t e hh => ⟨hh.1, hLq s t e hh.2⟩) (fun listed' st' hL => seqB_ready hL.1) htail l.length listed st d y inv (Region.free_spec h0 hf) hr' hy
      (DAny_lex hLq htail l (k + 1) _ _ (fun j hj => by have := hl (j + 1) (by simp; omega); simpa [Nat.add_assoc, Nat.add_comm 1 j] using this) (by simp only [List.length_cons] at hk; omega) (inv.set hr' hkn) hB' hK)
theorem DY.wp {base : Nat} {w0 : W0} {st : St} {M : Wd} {a : Act} {i : Nat} {o : Oper} {d : Nat} {y : AV} {K : Act → World → Prop} {Q' : Exit → Act → World → Prop} (hi : ops[i]? = some o) (h : DY P ops o st d y) (hs : Sim base w0 st M a)
    (hK : ∀ M' a', Ext M M' → Sim base w0 (st.put d y) M' a' → K a' M'.w) : wpOp P ops Q' i K a M.w := by
  obtain ⟨h1, h2, h3⟩ := h
  have run : QStep P o st y → o.wp P a M.w K Q' := fun q => q base w0 M a (hs.toO o) K Q' fun u M' hext hsim hu => hK M' _ hext (by rw [h1]; exact (hsim st hs).put h2 hu)
  have skip : y = .c (.v undef) → K (a.put o.dst undef) M.w := fun hy => hK M _ (Ext.refl M) (by rw [h1]; subst hy; exact hs.put h2 (.c (.v undef)))
  unfold wpOp
  simp only [hi]
  rcases h3 with ⟨g, q⟩ | ⟨j, want, t, b, g1, g2, g3, g4⟩ | ⟨j, want, t, g1, g2, g3, g4⟩
  · rw [if_pos (by simp [Region.wanted, g])]
    exact .inl (run q)
  · obtain ⟨v, e1, e2⟩ := hs.env t _ g3
    have e3 := e2.bool
    subst e3
    have hy : yielded ops a.tmps j = some b := by unfold yielded; rw [g2]; simp [e1]
    rcases g4 with ⟨hb, q⟩ | ⟨hb, q⟩
    · rw [if_pos (by simp [Region.wanted, g1, hy, hb])]
      exact .inl (run q)
    · rw [if_neg (by simp [Region.wanted, g1, hy, hb])]
      exact skip q
  · obtain ⟨v, e1, e2⟩ := hs.env t _ g3
    have e3 := e2.bool
    subst e3
    have hy : yielded ops a.tmps j = none := by unfold yielded; rw [g2]; simp [e1, undef]
    rw [if_neg (by simp [Region.wanted, g1, hy])]
    exact skip g4
theorem wpAny_of_DAny {base : Nat} {w0 : W0} {M0 : Wd} {Q : Exit → St → Prop} {g : Nat} (hL : ∀ listed st M a, L listed st → Sim base w0 st M a → Ext M0 M → wpAny P md ops (Lift base w0 M0 Q) g listed a M.w) :
    ∀ (f : Nat) (listed : Array Bool) (st : St) (M : Wd) (a : Act), Sim base w0 st M a → Ext M0 M → DAny P md ops n L f listed st → wpAny P md ops (Lift base w0 M0 Q) (f + g) listed a M.w
  | 0, listed, st, M, a, hs, he, h => by rw [Nat.zero_add]; exact hL _ _ _ _ h hs he
  | f + 1, listed, st, M, a, hs, he, h => by
    rw [show f + 1 + g = (f + g) + 1 by omega]
    refine ⟨fun h0 => absurd h0 h.1, fun i hi => ?_⟩
    obtain ⟨_, o, d, y, h1, h2, h3⟩ := h.2 i hi
    exact h2.wp h1 hs fun M' a' hext hs' => wpAny_of_DAny hL f _ _ M' a' hs' (he.trans hext) h3
def Wd.drew (M : Wd) : Wd := { M with w := { M.w with drawn := M.w.drawn + 1 } }
theorem Ext.drew (M : Wd) : Ext M M.drew := ⟨fun _ _ h => h, fun b E size l' _ h => ⟨l', h, Nat.le_refl _, fun _ => rfl⟩, Nat.le_refl _, fun _ h => ⟨h, rfl⟩⟩
theorem Sim.drew {base : Nat} {w0 : W0} {st : St} {M : Wd} {a : Act} (hs : Sim base w0 st M a) : Sim base w0 st M.drew a := by
  have hext := Ext.drew M
  refine ⟨hs.H, hs.nx, hs.n, fun i y hy => ?_, fun g xs hg => (hs.gl g xs hg).mono hext, ⟨?_, ?_, hs.heap.sep, hs.heap.lt, hs.heap.fresh, hs.heap.frz, ?_⟩, ⟨hs.below.os, hs.below.tape, hs.below.output, hs.below.size, hs.below.block⟩, hs.base, hs.defs, hs.old⟩
  · obtain ⟨v, h1, h2⟩ := hs.env i y hy
    exact ⟨v, h1, h2.mono hext⟩
  · intro b t l hl
    obtain ⟨g, arr, e1, e2, e3, e4, e5, e6⟩ := hs.heap.cells b t l hl
    exact ⟨g, arr, e1, e2, e3, e4, e5, fun i y u h1 h2 => (e6 i y u h1 h2).mono hext⟩
  · intro b E size l hl
    obtain ⟨v, n, cs, e1, e2, e3, e4, e5, e6⟩ := hs.heap.vec b E size l hl
    exact ⟨v, n, cs, e1, e2, e3, e4, fun i y u h1 h2 => (e5 i y u h1 h2).mono hext.F, e6⟩
  · intro b p hp
    obtain ⟨g, e1, e2, e3, e4, e5⟩ := hs.heap.obj b p hp
    exact ⟨g, e1, e2, p.stable _ _ _ _ e3 (fun _ _ => rfl), e4, e5⟩
def drawB (ops : Array Oper) (n : Nat) : Bool :=
  Region.noSelect ops && Nat.ble n ops.size && (Nat.beq n ops.size || (Region.sinkB .any ops n && Region.chainB .any ops n)) && Region.lexHead .any ops (ops.size - n) n 0 (Array.replicate ops.size false)
theorem aw_draw {id : Nat} {l : List Oper} {Q : Exit → St → Prop} {st : St} (n : Nat) (hm : P.follows .mixedOrders = true) (hB : drawB l.toArray n = true)
    (h : DSeq P l.toArray (AOps P l.toArray Q (l.drop n)) (l.take n) st) : Awp P (.region id l.toArray true) Q st := by
  simp only [drawB, Bool.and_eq_true, Bool.or_eq_true] at hB
  obtain ⟨⟨⟨hsel, hle⟩, hcase⟩, hlex⟩ := hB
  have hle := Nat.le_of_ble_eq_true hle
  have hle' : n ≤ l.length := by simpa using hle
  have htl : (l.take n).length = n := by simp; omega
  have hdl : (l.drop n).length = l.toArray.size - n := by simp
  have inv0 : HeadInv .any l.toArray n (Array.replicate l.toArray.size false) :=
    ⟨by simp, fun j oj _ hl => (by rw [getD_replicate_false] at hl; cases hl), fun t _ ht => getD_in (by simpa using ht) (getD_replicate_false _ _)⟩
  have htail : ∀ listed, HeadInv .any l.toArray n listed → ∀ i, i < n → listed.getD i true = false → ∀ t, n ≤ t → t ∉ Region.ready .any l.toArray listed := by
    intro listed inv i hi hun t ht
    rcases hcase with he | ⟨hs, hc⟩
    · intro hr
      obtain ⟨_, o, ho, _⟩ := mem_ready.1 hr
      have := (Array.getElem?_eq_some_iff.1 ho).1
      have := beq_true he
      omega
    · rcases Nat.lt_or_ge n l.toArray.size with hn | hn
      · exact tail_waits hs hc hn inv _ i rfl hi hun t ht
      · intro hr
        obtain ⟨_, o, ho, _⟩ := mem_ready.1 hr
        have := (Array.getElem?_eq_some_iff.1 ho).1
        omega
  intro base w0 M a hs
  have H := DAny_lex (P := P) (md := .any) (ops := l.toArray) (n := n) (g := l.toArray.size - n) (Lq := AOps P l.toArray Q (l.drop n)) (fun s t e hh => fun base w0 M a hs' => hh base w0 M a (e.symm.sim hs')) htail (l.take n) 0 _ st (fun j hj => by
    have hj' : j < n := by rw [htl] at hj; exact hj
    simp [hj']) (by simpa using htl) inv0 (by rw [htl]; exact hlex) h
  refine wp_region_any hm ?_
  have := wpAny_of_DAny (P := P) (md := .any) (ops := l.toArray) (n := n) (base := base) (w0 := w0) (M0 := M) (Q := Q) (g := l.toArray.size - n) (fun listed st' M' a' hL hs' he => by
    have h1 := wpList_monoQ (fun e a w => Lift.ext he) _ _ _ (hL.2 base w0 M' a' hs')
    have h2 := wpAny_of_seq (md := .any) (l.drop n) n listed a' M'.w (fun j => by simp) (by rw [hdl]; exact hL.1) h1
    rwa [hdl] at h2) (l.take n).length (Array.replicate l.toArray.size false) st M.drew a hs.drew (Ext.drew M) H
  rw [htl] at this
  rw [show n + (l.toArray.size - n) = l.toArray.size by omega] at this
  exact this
class Mixed (P : Program) : Prop where
  h : P.follows .mixedOrders = true
theorem aw_drawq {id : Nat} {l : List Oper} {Q : Exit → St → Prop} {st : St} [m : Mixed P] (hB : drawB l.toArray l.length = true) (h : DSeq P l.toArray (AOps P l.toArray Q []) l st) : Awp P (.region id l.toArray true) Q st :=
  aw_draw l.length m.h hB (by rw [List.take_length, List.drop_length]; exact h)
theorem aw_drawt {id : Nat} {l : List Oper} {Q : Exit → St → Prop} {st : St} [m : Mixed P] (n : Nat) (hB : drawB l.toArray n = true) (h : DSeq P l.toArray (AOps P l.toArray Q (l.drop n)) (l.take n) st) : Awp P (.region id l.toArray true) Q st :=
  aw_draw n m.h hB h
end
end Go.Proofs.Ythkjkhffljlidaa.Ev
/- Rules of a walk over abstract states: new lists and appends. Nothing here names a program. -/
namespace Go.Proofs.Ythkjkhffljlidaa.Ev
set_option linter.unusedVariables false
set_option linter.unusedSimpArgs false
open Go.RowKit
theorem envW_nil {s : St} {nx : Nat} : EnvW s nx [] := trivial
theorem envW_cons {s : St} {nx i : Nat} {x : AV} {l : List (Nat × AV)} (h1 : look i s.env = some x) (h2 : AV.lt nx x = true) (h3 : EnvW s nx l) : EnvW s nx ((i, x) :: l) := ⟨h1, h2, h3⟩
theorem heapW_nil {s : St} {nx : Nat} : HeapW s nx [] := trivial
theorem heapW_cons {s : St} {nx i : Nat} {x : AB} {l : List (Nat × Option AB)} (h1 : s.H i = some x) (h0 : Nat.blt i nx = true) (h2 : abLt nx x = true) (h3 : HeapW s nx l) : HeapW s nx ((i, some x) :: l) := ⟨h1, h0, h2, h3⟩
theorem weak_mk {n : Nat} {env env' : List (Nat × AV)} {heap heap' : List (Nat × Option AB)} {nx nx' : Nat} {gl : List (Nat × List CV)} (h : Nat.ble nx' nx = true) (he : EnvW ⟨n, env, heap, nx, gl⟩ nx' env') (hh : HeapW ⟨n, env, heap, nx, gl⟩ nx' heap') : Weak ⟨n, env, heap, nx, gl⟩ ⟨n, env', heap', nx', gl⟩ := ⟨rfl, rfl, Nat.le_of_ble_eq_true h, fun i x hx => EnvW.get he i x hx, fun b x hx => HeapW.get hh b x (St.H_some hx)⟩
theorem aw_loopG {P : Program} {c : Code} {Q : Exit → St → Prop} {n : Nat} {env : List (Nat × AV)} {heap : List (Nat × Option AB)} {nx : Nat} {gl : List (Nat × List CV)} {G : Type} (inv : G → Prop) (μ : G → Nat) (E : G → List (Nat × AV)) (Hp : G → List (Nat × Option AB)) (X : Nat) (g0 : G) (h0 : inv g0)
    (hw : Weak ⟨n, env, heap, nx, gl⟩ ⟨n, E g0, Hp g0, X, gl⟩) (hx : Nat.ble nx X = true)
    (round : ∀ g, inv g → Awp P c (thn (fun st' => ∃ g', μ g' < μ g ∧ inv g' ∧ Weak st' ⟨n, E g', Hp g', X, gl⟩) Q) ⟨n, E g, Hp g, X, gl⟩) : Awp P (.loop c) Q ⟨n, env, heap, nx, gl⟩ :=
  aw_loop (fun m st => ∃ g, m = μ g ∧ inv g ∧ st = ⟨n, E g, Hp g, X, gl⟩) (μ g0) ⟨_, ⟨g0, rfl, h0, rfl⟩, hw, Nat.le_of_ble_eq_true hx⟩ (by
    rintro _ _ ⟨g, rfl, hg, rfl⟩
    refine aw_mono (round g hg) fun e st hq => ?_
    cases e with
    | normal =>
      obtain ⟨g', h1, h2, h3⟩ := hq
      exact ⟨_, _, h1, ⟨g', rfl, h2, rfl⟩, h3, Nat.le_refl _⟩
    | _ => exact hq)
theorem ret_b {P : Program} {t : Nat} {k m : Bool} {st : St} (h : look t st.env = some (.c (.v (.bool k)))) (he : k = m) : Ret P [.tmp t] (.v (.bool m)) .ret st := ret1 (.tmp h (Or.inl (by rw [he])))
theorem rc_one {F : Nat → Prop} {w : World} {x : CV} {u : Value} (h : RC F w x u) (hc : x.cellB = true) : u.oneCell' = true := by
  cases h with
  | v x => exact hc
  | agg => cases hc
  | tup => cases hc
  | nil => rfl
  | e0 => cases hc
  | lst => rfl
def cvs : List AV → Option (List CV)
  | [] => some []
  | .c x :: l => bif x.cellB then (cvs l).map (x :: ·) else none
  | _ :: _ => none
def cvL : AV → Option (List CV)
  | .agg xs => cvs xs
  | .c x => bif x.cellB then some [x] else none
  | _ => none
theorem cvs_get {M : Wd} : ∀ {xs : List AV} {zs : List CV}, cvs xs = some zs → zs.length = xs.length ∧ (∀ z ∈ zs, z.cellB = true) ∧ ∀ (i : Nat) (x : AV), xs[i]? = some x → ∃ z, zs[i]? = some z ∧ x = .c z
  | [], zs, h => by simp only [cvs, Option.some.injEq] at h; subst h; exact ⟨rfl, fun z hz => by simp at hz, fun i x h => by simp at h⟩
  | .c y :: l, zs, h => by
    simp only [cvs] at h
    cases hb : y.cellB with
    | false => rw [hb] at h; cases h
    | true =>
      rw [hb] at h
      simp only [cond_true, Option.map_eq_some_iff] at h
      obtain ⟨ws, h1, rfl⟩ := h
      obtain ⟨e1, e2, e3⟩ := cvs_get (M := M) h1
      refine ⟨by simp [e1], fun z hz => ?_, fun i x hx => ?_⟩
      · rcases List.mem_cons.1 hz with rfl | hz
        · exact hb
        · exact e2 z hz
      · cases i with
        | zero => simp at hx; exact ⟨y, rfl, hx.symm⟩
        | succ i => exact e3 i x (by simpa using hx)
  | .agg _ :: _, zs, h => by cases h
  | .tup _ :: _, zs, h => by cases h
  | .ptr _ _ :: _, zs, h => by cases h
  | .vec _ _ :: _, zs, h => by cases h
  | .vptr _ _ _ :: _, zs, h => by cases h
  | .eptr _ _ :: _, zs, h => by cases h
  | .fn _ _ :: _, zs, h => by cases h
  | .ghost _ _ _ :: _, zs, h => by cases h
  | .ref _ _ :: _, zs, h => by cases h
theorem cvL_ra {M : Wd} {y : AV} {u : Value} {zs : List CV} (h : cvL y = some zs) (hr : RA M y u) : zs.length = u.cells.size ∧ (∀ v ∈ u.cells.toList, v.oneCell' = true) ∧ ∀ (i : Nat) (z : CV) (v : Value), zs[i]? = some z → u.cells[i]? = some v → RC M.F M.w z v := by
  cases y with
  | agg xs =>
    obtain ⟨e1, e2, e3⟩ := cvs_get (M := M) (show cvs xs = some zs from h)
    cases hr with
    | agg hl hh =>
      rename_i vs
      have key : ∀ (i : Nat) (z : CV) (v : Value), zs[i]? = some z → vs[i]? = some v → RC M.F M.w z v := fun i z v hz hv => by
        have hi : i < xs.length := by rw [← e1]; exact (List.getElem?_eq_some_iff.1 hz).1
        obtain ⟨z', g1, g2⟩ := e3 i xs[i] (by simp [hi])
        rw [hz] at g1; cases g1
        have := hh i xs[i] v (by simp [hi]) hv
        rw [g2] at this
        cases this with
        | c h => exact h
      refine ⟨by rw [e1]; exact hl, fun v hv => ?_, key⟩
      have hv : v ∈ vs.toList := hv
      obtain ⟨i, hi, rfl⟩ := List.mem_iff_getElem.1 hv
      have hi3 : i < vs.size := by simpa using hi
      have hi2 : i < zs.length := by rw [e1, hl]; exact hi3
      exact rc_one (key i zs[i] vs.toList[i] (by simp [hi2]) (by simp [hi3])) (e2 _ (List.getElem_mem hi2))
  | c x =>
    simp only [cvL] at h
    cases hb : x.cellB with
    | false => rw [hb] at h; cases h
    | true =>
      rw [hb] at h
      simp only [cond_true, Option.some.injEq] at h; subst h
      cases hr with
      | c hr =>
        have ho := rc_one hr hb
        rw [cells_one ho]
        refine ⟨rfl, by simpa using ho, fun i z v hz hv => ?_⟩
        cases i with
        | zero => simp at hz hv; subst hz; subst hv; exact hr
        | succ i => simp at hz
  | _ => cases h
def Src (P : Program) (st : St) (x : Operand) (size m : Nat) (ys : List CV) : Prop :=
  ∀ base w0 M a, Sim base w0 st M a → ∃ (ad : Option Addr) (cap : Nat) (cs : List Value), a.eval x = .slice ad m cap ∧ cs.length = m * size ∧ ys.length = m * size ∧ (ad = none → m = 0) ∧ (∀ a0, ad = some a0 → ∀ j u, cs[j]? = some u → M.w.cell? (a0.add j) = some u) ∧
    (∀ u ∈ cs, u.oneCell' = true) ∧ ∀ (i : Nat) (z : CV) (v : Value), ys[i]? = some z → cs[i]? = some v → RC M.F M.w z v
theorem pair_one {F : Nat → Prop} {w : World} {ys : List CV} {cs : List Value} (hl : cs.length = ys.length) (hone : ys.all CV.cellB = true) (h : ∀ (i : Nat) (z : CV) (v : Value), ys[i]? = some z → cs[i]? = some v → RC F w z v) : ∀ u ∈ cs, u.oneCell' = true := by
  intro u hu
  obtain ⟨i, hi, rfl⟩ := List.mem_iff_getElem.1 hu
  have hi2 : i < ys.length := by omega
  exact rc_one (h i ys[i] cs[i] (by simp [hi2]) (by simp [hi])) (List.all_eq_true.1 hone _ (List.getElem_mem hi2))
theorem src_lst {P : Program} {st : St} {x : Operand} {m size : Nat} {ys : List CV} (hx : st.ev x = some (.c (.lst size ys))) (hpos : 0 < size) (hn : ys.length = m * size) (hone : ys.all CV.cellB = true) : Src P st x size m ys := by
  intro base w0 M a hs
  have hv := hs.ev hx
  generalize a.eval x = u at hv ⊢
  cases hv with
  | c hv =>
    cases hv with
    | nil =>
      rename_i cap ad
      have : m = 0 := by
        simp only [List.length_nil] at hn
        rcases Nat.mul_eq_zero.1 hn.symm with h | h <;> omega
      subst this
      exact ⟨ad, cap, [], rfl, by simp, hn, fun _ => rfl, fun a0 h => fun j u hu => by simp at hu, fun u hu => by simp at hu, fun i z v hz => by simp at hz⟩
    | lst cs hn' hc hF hcell hr =>
      rename_i blk off n cap
      have hnn : n = m := Nat.eq_of_mul_eq_mul_right hpos (by rw [← hn', hn])
      subst hnn
      have hget : ∀ (i : Nat) (v : Value), ((List.range ys.length).map cs)[i]? = some v → i < ys.length ∧ cs i = v := fun i v hv => by
        have hi : i < ys.length := by have := (List.getElem?_eq_some_iff.1 hv).1; simpa using this
        exact ⟨hi, by simpa [hi] using hv⟩
      have hpair : ∀ (i : Nat) (z : CV) (v : Value), ys[i]? = some z → ((List.range ys.length).map cs)[i]? = some v → RC M.F M.w z v := fun i z v hz hv => by
        rw [← (hget i v hv).2]; exact hr i z hz
      refine ⟨_, cap, (List.range ys.length).map cs, rfl, by simpa using hn', hn', fun h => (by cases h), fun a0 h => ?_, pair_one (by simp) hone hpair, hpair⟩
      cases h
      intro j u hu
      obtain ⟨hj, e⟩ := hget j u hu
      rw [Kit.addr_add, hcell j ys[j] (by simp [hj]), e]
section
variable {P : Program}
theorem run_append_nil0 {t E size bytes : Nat} (I : SlT P t E size bytes) (w : World) (base : Nat) (ty : TypeId) (v : Value) (n : Nat) (xs : List Value) (hown : w.ownsRow base E size v n xs) (c : Nat) : (Builtin.append_ #[t, t] ty #[v, .slice none 0 c]).run P w = .ok v w := by
  obtain ⟨i, z, h1, h2, h3, h4, h5, h6⟩ := I.out
  rcases hown.2 with ⟨rfl, h0⟩ | ⟨g, cap, cur, rfl, hg, hh, hnc, _⟩
  · simp [Builtin.append_, run_underlying h1, sizeOf, typeInfo, h2, Builtin.lenOf, Builtin.firstCells]
  · simp [Builtin.append_, run_underlying h1, sizeOf, typeInfo, h2, Builtin.lenOf, Builtin.firstCells, hnc, storeCells]
theorem append_core {base : Nat} {w0 : W0} {st : St} {M : Wd} {a : Act} (hs : Sim base w0 st M a) {t E size bytes b n m cap : Nat} (I : SlT P t E size bytes) {xs ys : List CV} {v : Value} {ad : Option Addr} {cs : List Value} {ty : TypeId} (hH : st.H b = some (.vec E size xs)) (hm : M.m b = .row v) (hn : xs.length = n * size)
    (c1 : cs.length = m * size) (c2 : ys.length = m * size) (c3 : ad = none → m = 0) (c4 : ∀ a0, ad = some a0 → ∀ j u, cs[j]? = some u → M.w.cell? (a0.add j) = some u) (c5 : ∀ u ∈ cs, u.oneCell' = true) (c6 : ∀ (i : Nat) (z : CV) (v : Value), ys[i]? = some z → cs[i]? = some v → RC M.F M.w z v)
    (hb1 : n + m ≤ maxLen) (hb2 : (n + m) * bytes ≤ 140737488355328) :
    ∃ v' w' M', (Builtin.append_ #[t, t] ty #[v, .slice ad m cap]).run P M.w = .ok v' w' ∧ M'.w = w' ∧ Sim base w0 (st.set b (.vec E size (xs ++ ys))) M' a ∧ Ext M M' ∧ RA M' (.vec b (n + m)) v' := by
  have hM : M.H b = some (.vec E size xs) := by rw [hs.H]; exact hH
  obtain ⟨v2, n', us, e1, e2, e3, e4, e5, e6⟩ := hs.heap.vec b E size xs hM
  rw [hm] at e1; cases e1
  have hnn : n = n' := Nat.eq_of_mul_eq_mul_right e3 (by rw [← hn, e2])
  subst hnn
  obtain ⟨i, z, f1, f2, f3, f4, f5, f6⟩ := I.out
  have hrun : ∃ v' w', (Builtin.append_ #[t, t] ty #[v, .slice ad m cap]).run P M.w = .ok v' w' ∧ w'.ownsRow base E size v' (n + m) (us ++ cs) ∧ M.w.grownBy w' v.ownBlock ∧ (v'.ownBlock = v.ownBlock ∨ v'.ownBlock = some M.w.heap.size) ∧ (m = 0 → v' = v) := by
    cases ad with
    | none =>
      have h0 := c3 rfl
      subst h0
      have : cs = [] := List.eq_nil_of_length_eq_zero (by simpa using c1)
      subst this
      exact ⟨v, M.w, run_append_nil0 I M.w base ty v n us e4 cap, by simpa using e4, World.grownBy.refl M.w _, .inl rfl, fun _ => rfl⟩
    | some a0 =>
      obtain ⟨v', w', g1, g2, g3, g4, g5⟩ := run_append_own_at (P := P) M.w base t ty E i z size bytes f1 f2 f3 f4 f5 f6 e3 v n us e4 a0 m cap cs c1 (c4 a0 rfl) c5 hb1 hb2 hs.base
      by_cases hm0 : m = 0
      · subst hm0
        have : cs = [] := List.eq_nil_of_length_eq_zero (by simpa using c1)
        subst this
        have hsame : (Builtin.append_ #[t, t] ty #[v, .slice (some a0) 0 cap]).run P M.w = .ok v M.w := by
          rcases e4.2 with ⟨rfl, h0⟩ | ⟨g, cap', cur, rfl, hg, hh, hnc, _⟩
          · simp [Builtin.append_, run_underlying f1, sizeOf, typeInfo, f2, Builtin.lenOf, Builtin.firstCells, loadCells, loadCellsFrom]
          · simp [Builtin.append_, run_underlying f1, sizeOf, typeInfo, f2, Builtin.lenOf, Builtin.firstCells, hnc, storeCells, loadCells, loadCellsFrom]
        exact ⟨v, M.w, hsame, by simpa using e4, World.grownBy.refl M.w _, .inl rfl, fun _ => rfl⟩
      · exact ⟨v', w', g1, g2, g3, g5, fun h => absurd h hm0⟩
  obtain ⟨v', w', g1, g2, g3, g4, g5⟩ := hrun
  have hblk : ∀ k, v.ownBlock = some k → base ≤ k ∧ k < M.w.heap.size := fun k hk => World.ownsRow.lt e4 k hk
  obtain ⟨h1, h2⟩ := hs.change (b := b) (x := .vec E size (xs ++ ys)) (c := .row v') (w' := w') (by rw [hM]; simp) (fun k hk hne => g3.block k hk (fun he => hne (by rw [hm]; exact he.symm))) g3.size g3.os g3.tape g3.output (fun k hk => by rw [hm] at hk; exact (hblk k hk).1)
    (fun k hk => by
      rcases g4 with g4 | g4
      · left; rw [hm]; exact g4.symm.trans hk
      · right; have : some M.w.heap.size = some k := g4.symm.trans hk; simp at this; omega)
    (fun k hk => by rw [hm] at hk; exact e6 k hk) (fun g hg => by rw [hm] at hg; cases hg)
    (fun E' size' l' h => by
      simp only [AB.vec.injEq] at h
      obtain ⟨rfl, rfl, rfl⟩ := h
      refine ⟨xs, hM, by simp, fun hl => ?_⟩
      have hm0 : m = 0 := by
        have : ys.length = 0 := by simpa using hl
        rw [c2] at this
        rcases Nat.mul_eq_zero.1 this with h | h <;> omega
      rw [hm, g5 hm0])
    (fun M' _ _ _ t' l' h => by cases h)
    (fun E' size' l' h => by
      simp only [AB.vec.injEq] at h
      obtain ⟨rfl, rfl, rfl⟩ := h
      refine ⟨v', n + m, us ++ cs, rfl, by rw [List.length_append, hn, c2, Nat.add_mul], e3, g2, fun i y u hy hu => ?_⟩
      have hF : ∀ k, M.F k → M.F k ∧ w'.heap[k]? = M.w.heap[k]? := fun k hk => ⟨hk, g3.block k (hs.heap.frz k hk) (fun he => e6 k he.symm hk)⟩
      have hul : us.length = xs.length := by rw [e4.1, hn]
      rcases Nat.lt_or_ge i xs.length with hi | hi
      · rw [List.getElem?_append_left hi] at hy
        rw [List.getElem?_append_left (by omega)] at hu
        exact (e5 i y u hy hu).mono hF
      · rw [List.getElem?_append_right hi] at hy
        rw [List.getElem?_append_right (by omega), hul] at hu
        exact (c6 _ y u hy hu).mono hF)
  refine ⟨v', w', _, g1, rfl, h1, h2, .vec (by show b < M.nx; exact hs.heap.lt b (by rw [hM]; simp)) ?_ (fun E' size' l' hl => ?_)⟩
  · rcases g2.2 with ⟨rfl, _⟩ | ⟨g, cap', cur, rfl, _⟩ <;> rfl
  · have hl' : some (AB.vec E size (xs ++ ys)) = some (.vec E' size' l') := by
      have : (st.set b (.vec E size (xs ++ ys))).H b = some (.vec E' size' l') := hl
      rwa [H_set, if_pos rfl] at this
    simp only [Option.some.injEq, AB.vec.injEq] at hl'
    obtain ⟨rfl, rfl, rfl⟩ := hl'
    refine ⟨by rw [List.length_append, hn, c2, Nat.add_mul]; exact Nat.le_refl _, fun _ => by simp [Wd.set]⟩
theorem Sim.newNil {base : Nat} {w0 : W0} {st : St} {M : Wd} {a : Act} (hs : Sim base w0 st M a) (E size : Nat) (hpos : 0 < size) :
    ∃ M', M'.w = M.w ∧ M'.m M.nx = .row (.slice none 0 0) ∧ Sim base w0 (st.new (.vec E size [])) M' a ∧ Ext M M' := by
  let M' : Wd := { m := fun b => if b = M.nx then .row (.slice none 0 0) else M.m b, H := (st.new (.vec E size [])).H, nx := M.nx + 1, F := M.F, w := M.w, fp := M.fp }
  have hH : ∀ b, M'.H b = if M.nx = b then some (.vec E size []) else M.H b := fun b => by
    show (st.new _).H b = _
    rw [H_new, hs.nx, hs.H]
  have hm : M'.m M.nx = .row (.slice none 0 0) := by simp [M']
  have hm' : ∀ b, b ≠ M.nx → M'.m b = M.m b := fun b hb => by simp [M', hb]
  have hext : Ext M M' := by
    refine ⟨fun b g hb => ?_, fun b E' size' l' hb hl => ?_, by simp [M'], fun b hb => ⟨hb, rfl⟩⟩
    · rw [hm' b (fun he => hs.heap.fresh b (by omega) g hb)]; exact hb
    · rw [hH, if_neg (by omega)] at hl
      exact ⟨l', hl, Nat.le_refl _, fun _ => hm' b (by omega)⟩
  refine ⟨M', rfl, hm, ⟨rfl, by show M.nx + 1 = st.nx + 1; rw [hs.nx], hs.n, fun i y hy => ?_, fun g xs hg => (hs.gl g xs hg).mono hext, ⟨?_, ?_, ?_, ?_, ?_, hs.heap.frz, ?_⟩, hs.below, hs.base, hs.defs, hs.old⟩, hext⟩
  · obtain ⟨v, h1, h2⟩ := hs.env i y hy
    exact ⟨v, h1, h2.mono hext⟩
  · intro b t l hl
    rw [hH] at hl
    by_cases hb : M.nx = b
    · rw [if_pos hb] at hl; cases hl
    · rw [if_neg hb] at hl
      obtain ⟨g, arr, e1, e2, e3, e4, e5, e6⟩ := hs.heap.cells b t l hl
      exact ⟨g, arr, by rw [hm' b (Ne.symm hb)]; exact e1, e2, e3, e4, e5, fun i y u h1 h2 => (e6 i y u h1 h2).mono hext⟩
  · intro b E' size' l hl
    rw [hH] at hl
    by_cases hb : M.nx = b
    · subst hb
      rw [if_pos rfl] at hl
      simp only [Option.some.injEq, AB.vec.injEq] at hl
      obtain ⟨rfl, rfl, rfl⟩ := hl
      exact ⟨_, 0, [], hm, by simp, hpos, ⟨by simp, .inl ⟨rfl, rfl⟩⟩, fun i y u h => by simp at h, fun g hg => by simp [Value.ownBlock] at hg⟩
    · rw [if_neg hb] at hl
      obtain ⟨v, n, cs, e1, e2, e3, e4, e5, e6⟩ := hs.heap.vec b E' size' l hl
      exact ⟨v, n, cs, by rw [hm' b (Ne.symm hb)]; exact e1, e2, e3, e4, e5, e6⟩
  · intro b b' g hbb hb hb' hg hg'
    rw [hH] at hb hb'
    by_cases h1 : b = M.nx
    · subst h1; rw [hm] at hg; simp [Conc.block, Value.ownBlock] at hg
    · by_cases h2 : b' = M.nx
      · subst h2; rw [hm] at hg'; simp [Conc.block, Value.ownBlock] at hg'
      · rw [if_neg (Ne.symm h1)] at hb
        rw [if_neg (Ne.symm h2)] at hb'
        rw [hm' b h1] at hg
        rw [hm' b' h2] at hg'
        exact hs.heap.sep b b' g hbb hb hb' hg hg'
  · intro b hb
    rw [hH] at hb
    show b < M.nx + 1
    by_cases h1 : M.nx = b
    · omega
    · rw [if_neg h1] at hb
      have := hs.heap.lt b hb; omega
  · intro b hb g
    have hb : M.nx + 1 ≤ b := hb
    rw [hm' b (by omega)]
    exact hs.heap.fresh b (by omega) g
  · intro b p hp
    rw [hH] at hp
    by_cases h1 : M.nx = b
    · rw [if_pos h1] at hp; cases hp
    rw [if_neg h1] at hp
    obtain ⟨g, e1, e2, e3, e4, e5⟩ := hs.heap.obj b p hp
    refine ⟨g, by rw [hm' b (Ne.symm h1)]; exact e1, e2, e3, e4, fun b' k hbb hk => ⟨fun hb' => ?_, fun p' hp' => ?_⟩⟩
    · by_cases h2 : M.nx = b'
      · subst h2; rw [hm]; simp [Conc.block, Value.ownBlock]
      · rw [hH, if_neg h2] at hb'
        rw [hm' b' (Ne.symm h2)]
        exact (e5 b' k hbb hk).1 hb'
    · rw [hH] at hp'
      by_cases h2 : M.nx = b'
      · rw [if_pos h2] at hp'; cases hp'
      · rw [if_neg h2] at hp'
        exact (e5 b' k hbb hk).2 p' hp'
theorem Sim.congr {base : Nat} {w0 : W0} {s t : St} {M : Wd} {a : Act} (hs : Sim base w0 s M a) (hH : s.H = t.H) (hn : s.n = t.n) (hx : s.nx = t.nx) (hg : s.gl = t.gl) (he : s.env = t.env) : Sim base w0 t M a :=
  ⟨hs.H.trans hH, hs.nx.trans hx, hs.n.trans hn, fun i x h => hs.env i x (by rw [he]; exact h), fun g xs h => hs.gl g xs (by rw [hg]; exact h), hs.heap, hs.below, hs.base, hs.defs, hs.old⟩
end
section
variable {P : Program} {ops : Array Oper} {Q : Exit → St → Prop} {rest : List Oper} {st : St} {d : Nat} {ty : TypeId} {pos : String} {af : Array Edge}
theorem ex_append {t : Nat} {a : Act} {w w' : World} {s x : Operand} {dst : Option Tmp} {v v' : Value} {ad : Option Addr} {m cap : Nat} (hs : a.eval s = v) (hx : a.eval x = .slice ad m cap) (h : (Builtin.append_ #[t, t] ty #[v, .slice ad m cap]).run P w = .ok v' w') :
    (execOp a.eval ⟨dst, .call ⟨.builtin .append, #[s, x], #[t, t]⟩, ty, pos, af, none⟩).run P w = .ok (.value v') w' := by
  simp only [execOp, resolve, List.map_toArray, List.map_cons, List.map_nil, hs, hx]
  simp [invoke, builtin, h]
theorem ao_append {s x : Operand} {t E size bytes b n m : Nat} [I : SlT P t E size bytes] {xs ys : List CV} (hs0 : st.ev s = some (.vec b n)) (hH : st.H b = some (.vec E size xs)) (hn : xs.length = n * size) (hx : Src P st x size m ys) (hb1 : n + m ≤ maxLen) (hb2 : (n + m) * bytes ≤ 140737488355328) (hd : Nat.blt d st.n = true)
    (h : AOps P ops Q rest ((st.set b (.vec E size (xs ++ ys))).put d (.vec b (n + m)))) : AOps P ops Q (⟨some d, .call ⟨.builtin .append, #[s, x], #[t, t]⟩, ty, pos, af, none⟩ :: rest) st := by
  intro base w0 M a hs
  obtain ⟨ad, cap, cs, c0, c1, c2, c3, c4, c5, c6⟩ := hx base w0 M a hs
  have hv := hs.ev hs0
  generalize he : a.eval s = v at hv
  cases hv with
  | vec hb ho hh =>
    have hM : M.H b = some (.vec E size xs) := by rw [hs.H]; exact hH
    obtain ⟨v', w', M', g1, g2, g3, g4, g5⟩ := append_core (P := P) (ty := ty) hs I hH ((hh E size xs hM).2 hn) hn c1 c2 c3 c4 c5 c6 hb1 hb2
    refine wl_value rfl (ex_append he c0 g1) ?_
    subst g2
    exact wpList_monoQ (fun e a w => Lift.ext g4) _ _ _ (h base w0 M' _ (g3.put hd g5))
end
end Go.Proofs.Ythkjkhffljlidaa.Ev
