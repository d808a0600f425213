/- Rules of a walk over abstract states: calls by contract, and contracts out of walks. Nothing here names a program. -/
import Derived.Test.YtokkpocccgdilaaEv5
namespace Go.Proofs.Ytokkpocccgdilaa.Ev
set_option linter.unusedVariables false
set_option linter.unusedSimpArgs false
open Go.RowKit

/-- The value y of a walk reads as the closed value z; H: the blocks that may be read so. -/
def cl (H : Nat → Option AB) : AV → CV → Prop
  | .c x, z => x = z ∨ (x = .v (.slice none 0 0) ∧ ∃ s, z = .lst s [])
  | .agg xs, .agg zs => clL H xs zs
  | .tup xs, .tup zs => clL H xs zs
  | .vec b n, .lst s l => (∃ E, H b = some (.vec E s l)) ∧ l.length = n * s
  | _, _ => False
where clL (H : Nat → Option AB) : List AV → List CV → Prop
  | [], [] => True
  | x :: xs, z :: zs => cl H x z ∧ clL H xs zs
  | _, _ => False
theorem cl_nil {H : Nat → Option AB} : cl.clL H [] [] := trivial
theorem cl_cons {H : Nat → Option AB} {x : AV} {xs : List AV} {z : CV} {zs : List CV} (h : cl H x z) (hs : cl.clL H xs zs) : cl.clL H (x :: xs) (z :: zs) := ⟨h, hs⟩
theorem cl_c {H : Nat → Option AB} {x : CV} : cl H (.c x) x := Or.inl rfl
theorem cl_none {H : Nat → Option AB} {s : Nat} : cl H (.c (.v (.slice none 0 0))) (.lst s []) := Or.inr ⟨rfl, s, rfl⟩
theorem cl_agg {H : Nat → Option AB} {xs : List AV} {zs : List CV} (h : cl.clL H xs zs) : cl H (.agg xs) (.agg zs) := h
theorem cl_tup {H : Nat → Option AB} {xs : List AV} {zs : List CV} (h : cl.clL H xs zs) : cl H (.tup xs) (.tup zs) := h
theorem cl_vec {H : Nat → Option AB} {b n E s : Nat} {l : List CV} (h : H b = some (.vec E s l)) (hn : l.length = n * s) : cl H (.vec b n) (.lst s l) := ⟨⟨E, h⟩, hn⟩

theorem clL_get {H : Nat → Option AB} : ∀ {xs : List AV} {zs : List CV}, cl.clL H xs zs → xs.length = zs.length ∧ ∀ (i : Nat) (x : AV) (z : CV), xs[i]? = some x → zs[i]? = some z → cl H x z
  | [], [], _ => ⟨rfl, fun i x z h => by simp at h⟩
  | x :: xs, z :: zs, ⟨h1, h2⟩ => by
    obtain ⟨e1, e2⟩ := clL_get h2
    refine ⟨by simp [e1], fun i x' z' h3 h4 => ?_⟩
    cases i with
    | zero => simp at h3 h4; subst h3; subst h4; exact h1
    | succ i => exact e2 i x' z' (by simpa using h3) (by simpa using h4)
  | [], _ :: _, h => h.elim
  | _ :: _, [], h => h.elim

theorem cl_rc {M : Wd} {base : Nat} (hok : HeapOK M base) {F' : Nat → Prop} (hF : ∀ b, M.F b → F' b) {H : Nat → Option AB} (hH : ∀ b E s l, H b = some (.vec E s l) → M.H b = some (.vec E s l) ∧ ∀ g, (M.m b).block = some g → F' g)
    {y : AV} {u : Value} (h : RA M y u) : ∀ {z : CV}, cl H y z → RC F' M.w z u := by
  induction h with
  | c h =>
    intro z hz
    rcases hz with rfl | ⟨rfl, s, rfl⟩
    · exact h.mono (fun b hb => ⟨hF b hb, rfl⟩)
    · cases h; exact .nil
  | agg hl _ ih =>
    intro z hz
    cases z with
    | agg zs =>
      obtain ⟨e1, e2⟩ := clL_get hz
      refine .agg (by rw [← e1, hl]) (fun i x u hx hu => ?_)
      have hi : i < zs.length := (List.getElem?_eq_some_iff.1 hx).1
      obtain ⟨y, hy⟩ : ∃ y, _ = some y := ⟨_, List.getElem?_eq_getElem (by rw [e1]; exact hi)⟩
      exact ih i y u hy hu (e2 i y x hy hx)
    | _ => exact hz.elim
  | tup hl _ ih =>
    intro z hz
    cases z with
    | tup zs =>
      obtain ⟨e1, e2⟩ := clL_get hz
      refine .tup (by rw [← e1, hl]) (fun i x u hx hu => ?_)
      have hi : i < zs.length := (List.getElem?_eq_some_iff.1 hx).1
      obtain ⟨y, hy⟩ : ∃ y, _ = some y := ⟨_, List.getElem?_eq_getElem (by rw [e1]; exact hi)⟩
      exact ih i y u hy hu (e2 i y x hy hx)
    | _ => exact hz.elim
  | ptr _ => intro z hz; cases z <;> exact hz.elim
  | vptr _ _ _ => intro z hz; cases z <;> exact hz.elim
  | eptr _ _ _ _ => intro z hz; cases z <;> exact hz.elim
  | fn _ _ _ => intro z hz; cases z <;> exact hz.elim
  | vec hb ho hv =>
    rename_i b n v
    intro z hz
    cases z with
    | lst s l =>
      obtain ⟨⟨E, h1⟩, h2⟩ := hz
      obtain ⟨h3, h4⟩ := hH b E s l h1
      obtain ⟨_, h5⟩ := hv E s l h3
      obtain ⟨v', n', cs, e1, e2, e3, e4, e5, e6⟩ := hok.vec b E s l h3
      rw [h5 h2] at e1 h4
      cases e1
      have hnn : n = n' := Nat.eq_of_mul_eq_mul_right e3 (by rw [← h2, e2])
      subst hnn
      rcases e4.2 with ⟨rfl, hn0⟩ | ⟨g, cap, cur, rfl, f1, f2, f3, f4, f5, f6⟩
      · subst hn0
        have : l = [] := List.eq_nil_of_length_eq_zero (by simpa using h2)
        subst this
        exact .nil
      · refine .lst (fun i => cs.getD i undef) h2 f3 (h4 g rfl) (fun i x hx => ?_) (fun i x hx => ?_)
        · have hi : i < cs.length := by rw [e4.1, ← e2]; exact (List.getElem?_eq_some_iff.1 hx).1
          have := World.ownsRow.cells e4 (g := g) rfl i cs[i] (by simp [hi])
          rw [Kit.addr_add] at this
          rw [this]
          simp [List.getD, hi]
        · have hi : i < cs.length := by rw [e4.1, ← e2]; exact (List.getElem?_eq_some_iff.1 hx).1
          have := e5 i x cs[i] hx (by simp [hi])
          rw [show cs.getD i undef = cs[i] by simp [List.getD, hi]]
          exact this.mono (fun b hb => ⟨hF b hb, rfl⟩)
    | _ => exact hz.elim

def GlOK (gl : List (Nat × List CV)) (F : Nat → Prop) (w : World) : Prop := ∀ g xs, look g gl = some xs → RA { m := fun _ => .row undef, H := fun _ => none, nx := 0, F := F, w := w } (.eptr xs 0) (.pointer (some ⟨g, 0, none⟩))

def callableB (P : Program) (f : FuncId) : Bool := match P.funcs[f]? with | some fn => !(fn.name == "runtime.NumGoroutine") && fn.body.isSome | none => false

/-- The contract of a function that leaves memory alone: called with these it returns that. -/
def Con (P : Program) (gl : List (Nat × List CV)) (f : FuncId) (args : List CV) (r : CV) : Prop :=
  callableB P f = true ∧ ∀ (w : World) (F : Nat → Prop) (vals : Array Value), (∀ b, F b → b < w.heap.size) → GlOK gl F w → args.length = vals.size → (∀ (i : Nat) (x : CV) (u : Value), args[i]? = some x → vals[i]? = some u → RC F w x u) →
    Calls P f vals w fun e w' => ∃ v, e = .returned v ∧ Below w.heap.size w w' ∧ RC (fun b => F b ∨ (w.heap.size ≤ b ∧ b < w'.heap.size)) w' r v

def of1 : CV → AV
  | .agg xs => .agg (xs.map .c)
  | x => .c x
def ofC : CV → AV
  | .tup xs => .tup (xs.map of1)
  | x => of1 x
theorem ofC1 {M : Wd} {x : CV} {u : Value} (h : RC M.F M.w x u) : RA M (of1 x) u := by
  cases h with
  | agg hl hh =>
    refine .agg (by simpa using hl) (fun i y u hy hu => ?_)
    obtain ⟨z, h1, rfl⟩ : ∃ z, _ = some z ∧ AV.c z = y := by simpa using hy
    exact .c (hh i z u h1 hu)
  | v => exact .c (.v _)
  | tup hl hh => exact .c (.tup hl hh)
  | nil => exact .c .nil
  | e0 => exact .c .e0
  | lst cs a b c d e => exact .c (.lst cs a b c d e)
theorem RA.ofC {M : Wd} {x : CV} {u : Value} (h : RC M.F M.w x u) : RA M (Ev.ofC x) u := by
  cases h with
  | agg hl hh => exact ofC1 (.agg hl hh)
  | tup hl hh =>
    refine .tup (by simpa using hl) (fun i y u hy hu => ?_)
    obtain ⟨z, h1, rfl⟩ : ∃ z, _ = some z ∧ of1 z = y := by
      simp only [List.getElem?_map, Option.map_eq_some_iff] at hy
      exact hy
    exact ofC1 (hh i z u h1 hu)
  | v => exact .c (.v _)
  | nil => exact .c .nil
  | e0 => exact .c .e0
  | lst cs a b c d e => exact .c (.lst cs a b c d e)

def evs (st : St) : List Operand → Option (List AV)
  | [] => some []
  | x :: l => match st.ev x, evs st l with | some y, some ys => some (y :: ys) | _, _ => none
theorem evs_get {st : St} : ∀ {l : List Operand} {ys : List AV}, evs st l = some ys → l.length = ys.length ∧ ∀ (i : Nat) (x : Operand) (y : AV), l[i]? = some x → ys[i]? = some y → st.ev x = some y
  | [], ys, h => by simp only [evs, Option.some.injEq] at h; subst h; exact ⟨rfl, fun i x y h => by simp at h⟩
  | x :: l, ys, h => by
    simp only [evs] at h
    split at h
    · rename_i y ys' h1 h2
      simp only [Option.some.injEq] at h; subst h
      obtain ⟨e1, e2⟩ := evs_get h2
      refine ⟨by simp [e1], fun i x' y' h3 h4 => ?_⟩
      cases i with
      | zero => simp at h3 h4; subst h3; subst h4; exact h1
      | succ i => exact e2 i x' y' (by simpa using h3) (by simpa using h4)
    · cases h

/-- The world behind a call that left memory alone. -/
def Wd.after (M : Wd) (w' : World) : Wd := { M with F := fun b => M.F b ∨ (M.w.heap.size ≤ b ∧ b < w'.heap.size), w := w' }
theorem Ext.after {M : Wd} {w' : World} (hb : Below M.w.heap.size M.w w') (hf : ∀ b, M.F b → b < M.w.heap.size) : Ext M (M.after w') where
  m := fun _ _ h => h
  v := fun b E size l' _ h => ⟨l', h, Nat.le_refl _, fun _ => rfl⟩
  nx := Nat.le_refl _
  F := fun b h => ⟨Or.inl h, hb.block b (hf b h)⟩
theorem Sim.after {base : Nat} {w0 : W0} {st : St} {M : Wd} {a : Act} {w' : World} (hs : Sim base w0 st M a) (hb : Below M.w.heap.size M.w w') : Sim base w0 st (M.after w') a := by
  have hext := Ext.after hb hs.heap.frz
  refine ⟨hs.H, hs.nx, hs.n, fun i y hy => ?_, fun g xs hg => (hs.gl g xs hg).mono hext, ⟨?_, ?_, hs.heap.sep, hs.heap.lt, hs.heap.fresh, ?_⟩, hs.below.trans (hb.mono hs.base), Nat.le_trans hs.base hb.size, hs.defs, fun b hf hlt => ?_⟩
  · obtain ⟨v, h1, h2⟩ := hs.env i y hy
    exact ⟨v, h1, h2.mono hext⟩
  · intro b t l hl
    obtain ⟨g, arr, e1, e2, e3, e4, e5, e6⟩ := hs.heap.cells b t l hl
    have hg := (Array.getElem?_eq_some_iff.1 e4).1
    refine ⟨g, arr, e1, e2, fun hf => ?_, by show w'.heap[g]? = _; rw [hb.block g hg]; exact e4, e5, fun i y u h1 h2 => (e6 i y u h1 h2).mono hext⟩
    rcases hf with hf | hf
    · exact e3 hf
    · omega
  · intro b E size l hl
    obtain ⟨v, n, cs, e1, e2, e3, e4, e5, e6⟩ := hs.heap.vec b E size l hl
    refine ⟨v, n, cs, e1, e2, e3, ?_, fun i y u h1 h2 => (e5 i y u h1 h2).mono hext.F, fun g hg hf => ?_⟩
    · obtain ⟨f1, f2⟩ := e4
      refine ⟨f1, ?_⟩
      rcases f2 with f2 | ⟨g, cap, cur, rfl, g1, g2, g3⟩
      · exact Or.inl f2
      · refine Or.inr ⟨g, cap, cur, rfl, g1, ?_, g3⟩
        show w'.heap[g]? = _
        rw [hb.block g (Array.getElem?_eq_some_iff.1 g2).1]; exact g2
    · rcases hf with hf | hf
      · exact e6 g hg hf
      · have := (World.ownsRow.lt e4 g hg).2; omega
  · intro b hf
    show b < w'.heap.size
    rcases hf with hf | hf
    · have := hs.heap.frz b hf; have := hb.size; omega
    · omega
  · rcases hf with hf | hf
    · exact hs.old b hf hlt
    · have := hs.base; omega

section
variable {P : Program} {ops : Array Oper} {Q : Exit → St → Prop} {rest : List Oper} {st : St} {d : Nat} {ty : TypeId} {pos : String} {af : Array Edge}

theorem run_call {f : FuncId} {args : List Operand} {tys : Array TypeId} {dst : Option Tmp} (hc : callableB P f = true) (a : Act) (w : World) :
    (execOp a.eval ⟨dst, .call ⟨.value (.func f), args.toArray, tys⟩, ty, pos, af, none⟩).run P w = .ok (.enter f (args.map a.eval).toArray) w := by
  unfold callableB at hc
  split at hc
  · rename_i fn hf
    simp only [Bool.and_eq_true, Bool.not_eq_true'] at hc
    obtain ⟨h1, h2⟩ := hc
    cases hb : fn.body with
    | none => rw [hb] at h2; cases h2
    | some c =>
      simp only [execOp, resolve, Act.eval, Deferred.ofValue]
      have h1' : ¬ fn.name = "runtime.NumGoroutine" := by simpa using h1
      simp [invoke, callFunc, hf, h1', hb]
  · cases hc

theorem wl_enter {Q : Exit → Act → World → Prop} {o : Oper} {rest : List Oper} {a : Act} {w w' : World} {f : FuncId} {args : Array Value} (hg : o.guard = none) (hr : (execOp a.eval o).run P w = .ok (.enter f args) w') {R : Value → World → Prop}
    (hc : Calls P f args w' fun e w'' => ∃ v, e = .returned v ∧ R v w'') (h : ∀ v w'', R v w'' → wpList P ops Q rest (a.put o.dst v) w'') : wpList P ops Q (o :: rest) a w :=
  wpList_plain hg fun K hK => by
    unfold Oper.wp
    rw [hr]
    exact hc.mono fun e w'' ⟨v, he, hR⟩ => by subst he; exact hK _ _ (h v w'' hR)

/-- A closed value, read off. -/
def clF : AV → Option CV
  | .c x => some x
  | .agg xs => (clFL xs).map .agg
  | .tup xs => (clFL xs).map .tup
  | _ => none
where clFL : List AV → Option (List CV)
  | [] => some []
  | x :: l => match clF x, clFL l with | some y, some ys => some (y :: ys) | _, _ => none
mutual
theorem clF_cl {H : Nat → Option AB} : ∀ {x : AV} {z : CV}, clF x = some z → cl H x z
  | .c x, z, h => by simp only [clF, Option.some.injEq] at h; subst h; exact Or.inl rfl
  | .agg xs, z, h => by
    simp only [clF, Option.map_eq_some_iff] at h
    obtain ⟨zs, h1, rfl⟩ := h
    exact clF_clL h1
  | .tup xs, z, h => by
    simp only [clF, Option.map_eq_some_iff] at h
    obtain ⟨zs, h1, rfl⟩ := h
    exact clF_clL h1
  | .ptr _ _, z, h => by cases h
  | .vec _ _, z, h => by cases h
  | .vptr _ _ _, z, h => by cases h
  | .eptr _ _, z, h => by cases h
  | .fn _ _, z, h => by cases h
theorem clF_clL {H : Nat → Option AB} : ∀ {xs : List AV} {zs : List CV}, clF.clFL xs = some zs → cl.clL H xs zs
  | [], zs, h => by simp only [clF.clFL, Option.some.injEq] at h; subst h; trivial
  | x :: xs, zs, h => by
    simp only [clF.clFL] at h
    cases h1 : clF x with
    | none => rw [h1] at h; cases h
    | some y =>
      cases h2 : clF.clFL xs with
      | none => rw [h1, h2] at h; cases h
      | some ys =>
        rw [h1, h2] at h
        simp only [Option.some.injEq] at h; subst h
        exact ⟨clF_cl h1, clF_clL h2⟩
end
/-- A call by contract; its arguments are closed. -/
theorem ao_call {X : List Oper → St → Prop} [W : Walk P X] {f : FuncId} {args : List Operand} {tys : Array TypeId} {ys : List AV} {zs : List CV} {r : CV} {y : AV} (hys : evs st args = some ys) (hz0 : clF.clFL ys = some zs) (hcon : Con P st.gl f zs r) (hy : ofC r = y) (hd : Nat.blt d st.n = true)
    (h : X rest (st.put d y)) : X (⟨some d, .call ⟨.value (.func f), args.toArray, tys⟩, ty, pos, af, none⟩ :: rest) st := by
  subst hy
  have hz : cl.clL (fun _ => none) ys zs := clF_clL hz0
  refine W.step rfl rfl hd (fun base w0 M a hs K Q hK => ?_) h
  obtain ⟨e1, e2⟩ := evs_get hys
  obtain ⟨e3, e4⟩ := clL_get hz
  unfold Oper.wp
  rw [run_call hcon.1 a M.w]
  refine Calls.mono (hcon.2 M.w M.F _ hs.sim.heap.frz (fun g xs hg => ?_) (by simp; omega) (fun i x u hx hu => ?_)) (fun e w'' hR => ?_)
  · have := hs.sim.gl g xs hg
    generalize hq : Value.pointer (some ⟨g, 0, none⟩) = q at this ⊢
    cases this with
    | eptr cs hF hcell hr => exact .eptr cs hF hcell hr
  · have hi : i < args.length := by have := (List.getElem?_eq_some_iff.1 hx).1; omega
    obtain ⟨y, hy⟩ : ∃ y, ys[i]? = some y := ⟨_, List.getElem?_eq_getElem (by omega)⟩
    have hev := hs.ev (by simp [Op.operands, Call.operands]; exact Or.inr (List.getElem_mem hi)) (e2 i args[i] y (by simp [hi]) hy)
    have hu' : a.eval args[i] = u := by simpa [hi] using hu
    rw [hu'] at hev
    exact cl_rc hs.sim.heap (F' := M.F) (fun _ h => h) (fun b E s l h => by cases h) hev (e4 i y x hy hx)
  · obtain ⟨v, rfl, hb, hrc⟩ := hR
    exact hK v (M.after w'') (Ext.after hb hs.sim.heap.frz) (fun s hs' => hs'.after hb) (RA.ofC (M := M.after w'') hrc)
end

inductive Res1 (P : Program) (st : St) : ResultVar → CV → Prop
  | tmp {t : Nat} {y : AV} {r : CV} (h : look t st.env = some y) (hc : cl st.H y r) : Res1 P st (.tmp t) r
  | cell_s {ad t b off n : Nat} {t' : TypeId} {l : List AV} {y : AV} {r : CV} (I : TyC P t false n) (h : look ad st.env = some (.ptr b off)) (hH : st.H b = some (.cells t' l)) (hy : l[off]? = some y) (hc : cl st.H y r) : Res1 P st (.cell ad t) r
  | cell_a {ad t b off n : Nat} {t' : TypeId} {l ys : List AV} {rs : List CV} (I : TyC P t true n) (h : look ad st.env = some (.ptr b off)) (hH : st.H b = some (.cells t' l)) (hy : (l.drop off).take n = ys) (hn : ys.length = n) (hc : cl.clL st.H ys rs) : Res1 P st (.cell ad t) (.agg rs)
inductive ResL (P : Program) (st : St) : List ResultVar → List CV → Prop
  | nil : ResL P st [] []
  | cons {v : ResultVar} {vs : List ResultVar} {r : CV} {rs : List CV} (h : Res1 P st v r) (hs : ResL P st vs rs) : ResL P st (v :: vs) (r :: rs)

/-- What a function's body leaves: its results. -/
def Ret (P : Program) (rs : List ResultVar) (r : CV) : Exit → St → Prop
  | e, st => (e = .normal ∨ e = .ret) ∧ ((∃ v, rs = [v] ∧ Res1 P st v r) ∨ (rs.length ≠ 1 ∧ ∃ zs, r = .tup zs ∧ ResL P st rs zs))
theorem ret1 {P : Program} {v : ResultVar} {r : CV} {st : St} (h : Res1 P st v r) : Ret P [v] r .ret st := ⟨Or.inr rfl, Or.inl ⟨v, rfl, h⟩⟩
theorem ret1n {P : Program} {v : ResultVar} {r : CV} {st : St} (h : Res1 P st v r) : Ret P [v] r .normal st := ⟨Or.inl rfl, Or.inl ⟨v, rfl, h⟩⟩
theorem ret2 {P : Program} {v1 v2 : ResultVar} {vs : List ResultVar} {zs : List CV} {st : St} (h : ResL P st (v1 :: v2 :: vs) zs) : Ret P (v1 :: v2 :: vs) (.tup zs) .ret st := ⟨Or.inr rfl, Or.inr ⟨by simp, zs, rfl, h⟩⟩

/-- One result variable is read. -/
def res1 (a : Act) : ResultVar → Sem Value
  | .tmp t => pure (a.tmps.getD t undef)
  | .cell ad t => do loadVar t (← asAddr (a.tmps.getD ad undef))
theorem res1_run {P : Program} {base : Nat} {w0 : W0} {st : St} {M : Wd} {a : Act} (hs : Sim base w0 st M a) {F' : Nat → Prop} (hF : ∀ b, M.F b → F' b) (hF' : ∀ b, base ≤ b → b < M.w.heap.size → F' b) {v : ResultVar} {r : CV} (h : Res1 P st v r) :
    ∃ u, (res1 a v).run P M.w = .ok u M.w ∧ RC F' M.w r u := by
  have hvec : ∀ b E s l, st.H b = some (.vec E s l) → M.H b = some (.vec E s l) ∧ ∀ g, (M.m b).block = some g → F' g := fun b E s l hb => by
    rw [← hs.H] at hb
    refine ⟨hb, fun g hg => ?_⟩
    obtain ⟨v, n, cs, e1, _, _, e4, _⟩ := hs.heap.vec b E s l hb
    rw [e1] at hg
    obtain ⟨f1, f2⟩ := World.ownsRow.lt e4 g hg
    exact hF' g f1 f2
  cases h with
  | tmp h hc =>
    rename_i t y
    obtain ⟨u, h1, h2⟩ := hs.env t y h
    exact ⟨u, by simp [res1, Array.getD_eq_getD_getElem?, h1], cl_rc hs.heap hF hvec h2 hc⟩
  | cell_s I h hH hy hc =>
    rename_i ad t b off n t' l y
    obtain ⟨u, h1, h2⟩ := hs.env ad _ h
    cases h2 with
    | ptr hm =>
      rename_i g
      obtain ⟨g', arr, e1, _, _, e4, e5, e6⟩ := hs.heap.cells b t' l (by rw [hs.H]; exact hH)
      rw [hm] at e1; cases e1
      have hlt : off < arr.size := by rw [← e5]; exact (List.getElem?_eq_some_iff.1 hy).1
      refine ⟨arr[off], ?_, cl_rc hs.heap hF hvec (e6 off y _ hy (by simp [hlt])) hc⟩
      have := run_load_s I M.w ⟨g, off, none⟩ arr[off] (by simp [World.cell?, e4, hlt])
      simp only [Instr.loadAt, Instr.sureAddr, Sem.run_bind, Sem.run_pure, Result.andThen_ok] at this
      simp [res1, Array.getD_eq_getD_getElem?, h1, asAddr, this]
  | cell_a I h hH hy hn hc =>
    rename_i ad t b off n t' l ys rs
    obtain ⟨u, h1, h2⟩ := hs.env ad _ h
    cases h2 with
    | ptr hm =>
      rename_i g
      obtain ⟨g', arr, e1, _, _, e4, e5, e6⟩ := hs.heap.cells b t' l (by rw [hs.H]; exact hH)
      rw [hm] at e1; cases e1
      have hln : ((arr.toList.drop off).take n).length = n := by
        have : ((l.drop off).take n).length = n := by rw [hy]; exact hn
        simp only [List.length_take, List.length_drop, Array.length_toList] at this ⊢
        rw [← e5]; exact this
      have hRA : RA M (.agg ys) (.agg ((arr.toList.drop off).take n).toArray) := by
        refine .agg (by rw [hn]; simpa using hln.symm) (fun i y u hy' hu => ?_)
        subst hy
        have hi : i < n := by have := (List.getElem?_eq_some_iff.1 hy').1; omega
        rw [List.getElem?_take_of_lt hi, List.getElem?_drop] at hy'
        rw [List.getElem?_toArray, List.getElem?_take_of_lt hi, List.getElem?_drop, Array.getElem?_toList] at hu
        exact e6 _ y u hy' hu
      refine ⟨_, ?_, cl_rc hs.heap hF hvec hRA (cl_agg hc)⟩
      have := run_load_a I M.w g off ((arr.toList.drop off).take n) hln (fun j v hv => by
        have hj : j < n := by have := (List.getElem?_eq_some_iff.1 hv).1; omega
        rw [List.getElem?_take_of_lt hj, List.getElem?_drop, Array.getElem?_toList] at hv
        simp [World.cell?, e4, hv])
      simp only [Instr.loadAt, Instr.sureAddr, Sem.run_bind, Sem.run_pure, Result.andThen_ok] at this
      simp [res1, Array.getD_eq_getD_getElem?, h1, asAddr, this]

theorem resL_run {P : Program} {base : Nat} {w0 : W0} {st : St} {M : Wd} {a : Act} (hs : Sim base w0 st M a) {F' : Nat → Prop} (hF : ∀ b, M.F b → F' b) (hF' : ∀ b, base ≤ b → b < M.w.heap.size → F' b) : ∀ {vs : List ResultVar} {rs : List CV}, ResL P st vs rs →
    ∃ us : List Value, (vs.mapM (res1 a)).run P M.w = .ok us M.w ∧ us.length = vs.length ∧ rs.length = us.length ∧ ∀ (i : Nat) (r : CV) (u : Value), rs[i]? = some r → us[i]? = some u → RC F' M.w r u
  | _, _, .nil => ⟨[], by simp, rfl, rfl, fun i r u h => by simp at h⟩
  | _, _, .cons h hs' => by
    obtain ⟨u, h1, h2⟩ := res1_run hs hF hF' h
    obtain ⟨us, h3, h4, h5, h6⟩ := resL_run hs hF hF' hs'
    refine ⟨u :: us, ?_, by simp [h4], by simp [h5], fun i r u' h7 h8 => ?_⟩
    · rw [List.mapM_cons, Sem.run_bind, h1]
      simp only [Result.andThen_ok, Sem.run_bind, h3, Sem.run_pure]
    · cases i with
      | zero => simp at h7 h8; subst h7; subst h8; exact h2
      | succ i => exact h6 i r u' (by simpa using h7) (by simpa using h8)

def argEnv : Nat → List CV → List (Nat × AV)
  | _, [] => []
  | k, x :: l => (k, ofC x) :: argEnv (k + 1) l
theorem argEnv_get : ∀ (l : List CV) (k i : Nat) (y : AV), look i (argEnv k l) = some y → ∃ x, k ≤ i ∧ l[i - k]? = some x ∧ y = ofC x
  | [], k, i, y, h => by simp [argEnv, look] at h
  | x :: l, k, i, y, h => by
    rw [argEnv, look_cons] at h
    split at h
    · rename_i hk; subst hk; simp only [Option.some.injEq] at h; exact ⟨x, Nat.le_refl _, by simp, h.symm⟩
    · obtain ⟨x', h1, h2, h3⟩ := argEnv_get l (k + 1) i y h
      refine ⟨x', by omega, ?_, h3⟩
      rw [show i - k = (i - (k + 1)) + 1 by omega]
      simpa using h2

theorem results_run {P : Program} {fn : Func} {base : Nat} {w0 : W0} {st : St} {M : Wd} {a : Act} (hs : Sim base w0 st M a) {F' : Nat → Prop} (hF : ∀ b, M.F b → F' b) (hF' : ∀ b, base ≤ b → b < M.w.heap.size → F' b) {r : CV} {e : Exit} (h : Ret P fn.results.toList r e st) :
    ∃ v, (results fn a.tmps).run P M.w = .ok v M.w ∧ RC F' M.w r v := by
  have hconv : ∀ us : List Value, (fn.results.toList.mapM (res1 a)).run P M.w = .ok us M.w → (results fn a.tmps).run P M.w = .ok (if h : us.toArray.size = 1 then us.toArray[0] else .tuple us.toArray) M.w := by
    intro us hu
    unfold results
    have hmap : Sem.run P (fn.results.mapM (res1 a)) M.w = Result.ok us.toArray M.w := by
      rw [Array.mapM_eq_mapM_toList, map_eq_pure_bind, Sem.run_bind, hu]; rfl
    change Sem.run P (fn.results.mapM (res1 a) >>= fun vs => pure (if h : vs.size = 1 then vs[0] else .tuple vs)) M.w = _
    rw [Sem.run_bind, hmap]; rfl
  obtain ⟨_, h⟩ := h
  rcases h with ⟨v, hv, h⟩ | ⟨hne, zs, rfl, h⟩
  · obtain ⟨u, h1, h2⟩ := res1_run hs hF hF' h
    refine ⟨u, ?_, h2⟩
    have := hconv [u] (by rw [hv, List.mapM_cons, Sem.run_bind, h1]; simp)
    simpa using this
  · obtain ⟨us, h1, h2, h3, h4⟩ := resL_run hs hF hF' h
    refine ⟨.tuple us.toArray, ?_, .tup (by simpa using h3) (fun i x u hx hu => h4 i x u hx (by simpa using hu))⟩
    have := hconv us h1
    rw [dif_neg (by simpa [h2] using hne)] at this
    exact this

/-- A contract out of a walk of the body. -/
theorem con_of {P : Program} {gl : List (Nat × List CV)} {f : FuncId} {fn : Func} {c : Code} {args : List CV} {r : CV} (hf : P.funcs[f]? = some fn) (hb : fn.body = some c) (hcall : callableB P f = true) (hn : Nat.ble args.length fn.ntmps = true)
    (h : Awp P c (Ret P fn.results.toList r) { n := fn.ntmps, env := argEnv 0 args, heap := [], nx := 0, gl := gl }) : Con P gl f args r := by
  refine ⟨hcall, fun w F vals hF hgl hl hv => ?_⟩
  have hle := Nat.le_of_ble_eq_true hn
  refine calls_of_wp hf hb ?_
  have hsim : Sim w.heap.size ⟨w, F⟩ { n := fn.ntmps, env := argEnv 0 args, heap := [], nx := 0, gl := gl } { m := fun _ => .row undef, H := fun _ => none, nx := 0, F := F, w := w } { tmps := vals ++ Array.replicate (fn.ntmps - vals.size) undef, defers := [] } := by
    refine ⟨rfl, rfl, by simp; omega, fun i y hy => ?_, hgl, ⟨?_, ?_, fun b b' g _ h => absurd rfl h, fun b h => absurd rfl h, ?_, hF⟩, Below.refl _ _, Nat.le_refl _, rfl, fun b h _ => h⟩
    rotate_left
    · intro b t l h; cases h
    · intro b E s l h; cases h
    · intro b _ g h; cases h
    obtain ⟨x, _, h1, rfl⟩ := argEnv_get args 0 i y hy
    rw [Nat.sub_zero] at h1
    have hi : i < vals.size := by have := (List.getElem?_eq_some_iff.1 h1).1; omega
    refine ⟨vals[i], by simp [Array.getElem?_append, hi], RA.ofC (M := { m := fun _ => .row undef, H := fun _ => none, nx := 0, F := F, w := w }) (hv i x _ h1 (by simp [hi]))⟩
  refine Code.wp_mono ?_ (h _ _ _ _ hsim)
  intro e a' w' ⟨M', st', h1, h2, h3, h4⟩
  subst h1
  have hres := results_run (fn := fn) h2 (F' := fun b => F b ∨ (w.heap.size ≤ b ∧ b < M'.w.heap.size)) (fun b hb' => by
    rcases Nat.lt_or_ge b w.heap.size with hc | hc
    · exact Or.inl (h2.old b hb' hc)
    · exact Or.inr ⟨hc, h2.heap.frz b hb'⟩) (fun b h1 h2 => Or.inr ⟨h1, h2⟩) h4
  obtain ⟨v, hrun, hrc⟩ := hres
  have hpost : bodyPost P fn (fun e w' => ∃ v, e = .returned v ∧ Below w.heap.size w w' ∧ RC (fun b => F b ∨ (w.heap.size ≤ b ∧ b < w'.heap.size)) w' r v) e a' M'.w := by
    rcases h4.1 with rfl | rfl
    · exact ⟨h2.defs, v, hrun, v, rfl, h2.below, hrc⟩
    · exact ⟨h2.defs, v, hrun, v, rfl, h2.below, hrc⟩
  exact hpost
end Go.Proofs.Ytokkpocccgdilaa.Ev
