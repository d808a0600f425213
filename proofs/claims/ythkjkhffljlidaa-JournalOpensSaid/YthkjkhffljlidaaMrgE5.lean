/- Ev43 Ev44: texts laid together. -/
import Derived.Test.YthkjkhffljlidaaMrgE4
/- Contracts of functions that make an object and return two values, out of walks of their bodies. Nothing here names a program. -/
namespace Go.Proofs.Ythkjkhffljlidaa.Ev
set_option linter.unusedVariables false
set_option linter.unusedSimpArgs false
open Go.RowKit
def NConE {Γ : Type} (P : Program) (gl : List (Nat × List CV)) (f : FuncId) (args : List CV) (rs : Γ → List OA) (p : Γ → ObjP) : Prop :=
  callableB P f = true ∧ ∀ (w : World) (F : Nat → Prop) (vals : Array Value), (∀ b, F b → b < w.heap.size) → GlOK gl F w → args.length = vals.size → (∀ (i : Nat) (x : CV) (u : Value), args[i]? = some x → vals[i]? = some u → RC F w x u) →
    Calls P f vals w fun e w' => ∃ γ vs g fp, e = .returned (.tuple vs) ∧ NPost w g (p γ) fp w' ∧ (rs γ).length = vs.size ∧ ∀ (i : Nat) (x : OA) (u : Value), (rs γ)[i]? = some x → vs[i]? = some u → x.rel (nF w F fp w') w' g u ∧ (∀ fn, x = .o fn → u.oneCell' = true)
def oaC (H : Nat → Option AB) (b : Nat) (y : AV) : OA → Prop
  | .p => y = .ptr b 0
  | .c x => cl H y x
  | .o _ => False
def NRet2 {Γ : Type} (t1 t2 : Nat) (r1 r2 : Γ → OA) (p : Γ → ObjP) : Exit → St → Prop :=
  fun e st => (e = .normal ∨ e = .ret) ∧ ∃ γ b y1 y2, st.H b = some (.obj (p γ)) ∧ look t1 st.env = some y1 ∧ look t2 st.env = some y2 ∧ oaC st.H b y1 (r1 γ) ∧ oaC st.H b y2 (r2 γ)
theorem nconE_of {Γ : Type} {P : Program} {gl : List (Nat × List CV)} {f : FuncId} {fn : Func} {c : Code} {args : List CV} {t1 t2 : Nat} {r1 r2 : Γ → OA} {p : Γ → ObjP} (hf : P.funcs[f]? = some fn) (hb : fn.body = some c) (hr : fn.results = #[.tmp t1, .tmp t2]) (hcall : callableB P f = true) (hn : Nat.ble args.length fn.ntmps = true)
    (h : Awp P c (NRet2 t1 t2 r1 r2 p) { n := fn.ntmps, env := argEnv 0 args, heap := [], nx := 0, gl := gl }) : NConE P gl f args (fun γ => [r1 γ, r2 γ]) p := by
  refine ⟨hcall, fun w F vals hF hgl hl hv => ?_⟩
  have hle := Nat.le_of_ble_eq_true hn
  refine calls_of_wp hf hb ?_
  have hsim : Sim w.heap.size ⟨w, F⟩ { n := fn.ntmps, env := argEnv 0 args, heap := [], nx := 0, gl := gl } { m := fun _ => .row undef, H := fun _ => none, nx := 0, F := F, w := w, fp := fun _ _ => False } { tmps := vals ++ Array.replicate (fn.ntmps - vals.size) undef, defers := [] } := by
    refine ⟨rfl, rfl, by simp; omega, fun i y hy => ?_, hgl, ⟨?_, ?_, fun b b' g _ h => absurd rfl h, fun b h => absurd rfl h, ?_, hF, ?_⟩, Below.refl _ _, Nat.le_refl _, rfl, fun b h _ => h⟩
    rotate_left
    · intro b t l h; cases h
    · intro b E s l h; cases h
    · intro b _ g h; cases h
    · intro b p h; cases h
    obtain ⟨x, _, h1, rfl⟩ := argEnv_get args 0 i y hy
    rw [Nat.sub_zero] at h1
    have hi : i < vals.size := by have := (List.getElem?_eq_some_iff.1 h1).1; omega
    refine ⟨vals[i], by simp [Array.getElem?_append, hi], RA.ofC (M := { m := fun _ => .row undef, H := fun _ => none, nx := 0, F := F, w := w, fp := fun _ _ => False }) (hv i x _ h1 (by simp [hi]))⟩
  refine Code.wp_mono ?_ (h _ _ _ _ hsim)
  intro e a' w' ⟨M', st', h1, h2, h3, he, γ, b, y1, y2, q1, q2, q3, q4, q5⟩
  subst h1
  obtain ⟨g, o1, o2, o3, o4, o5⟩ := h2.heap.obj b _ (by rw [h2.H]; exact q1)
  obtain ⟨u1, s1, s2⟩ := h2.env t1 y1 q2
  obtain ⟨u2, s3, s4⟩ := h2.env t2 y2 q3
  have hres : (results fn a'.tmps).run P M'.w = .ok (.tuple #[u1, u2]) M'.w := by
    unfold results
    rw [hr]
    simp [Array.getD_eq_getD_getElem?, s1, s3]
  have hF' : ∀ k, M'.F k → nF w F (M'.fp b) M'.w k := fun k hk => by
    rcases Nat.lt_or_ge k w.heap.size with hc | hc
    · exact .inl (h2.old k hk hc)
    · exact .inr ⟨hc, h2.heap.frz k hk, fun hf => (o4 k hf).2.2 hk⟩
  have hvec : ∀ b' E s l, st'.H b' = some (.vec E s l) → M'.H b' = some (.vec E s l) ∧ ∀ q, (M'.m b').block = some q → nF w F (M'.fp b) M'.w q := fun b' E s l hb' => by
    rw [← h2.H] at hb'
    refine ⟨hb', fun q hq => ?_⟩
    obtain ⟨v, n, cs, e1, _, _, e4, _⟩ := h2.heap.vec b' E s l hb'
    rw [e1] at hq
    obtain ⟨f1, f2⟩ := World.ownsRow.lt e4 q hq
    have hbb : b' ≠ b := fun e => by rw [e, h2.H, q1] at hb'; cases hb'
    exact .inr ⟨f1, f2, fun hf => (o5 b' q hbb hf).1 (by rw [hb']; simp) (by rw [e1]; exact hq)⟩
  have hone : ∀ (x : OA) (y : AV) (u : Value), RA M' y u → oaC st'.H b y x → x.rel (nF w F (M'.fp b) M'.w) M'.w g u ∧ (∀ fn, x = .o fn → u.oneCell' = true) := fun x y u hu hx => by
    cases x with
    | c x => exact ⟨cl_rc h2.heap hF' hvec hu hx, fun fn h => by cases h⟩
    | o f => exact absurd hx id
    | p =>
      cases (show y = .ptr b 0 from hx)
      cases hu with
      | ptr hm => rw [o1] at hm; cases hm; exact ⟨rfl, fun fn h => by cases h⟩
  have hpost : bodyPost P fn (fun e w' => ∃ γ vs g fp, e = .returned (.tuple vs) ∧ NPost w g (p γ) fp w' ∧ [r1 γ, r2 γ].length = vs.size ∧ ∀ (i : Nat) (x : OA) (u : Value), [r1 γ, r2 γ][i]? = some x → vs[i]? = some u → x.rel (nF w F fp w') w' g u ∧ (∀ fn, x = .o fn → u.oneCell' = true)) e a' M'.w := by
    have key : ∃ γ vs g fp, (Ending.returned (.tuple #[u1, u2])) = .returned (.tuple vs) ∧ NPost w g (p γ) fp M'.w ∧ [r1 γ, r2 γ].length = vs.size ∧ ∀ (i : Nat) (x : OA) (u : Value), [r1 γ, r2 γ][i]? = some x → vs[i]? = some u → x.rel (nF w F fp M'.w) M'.w g u ∧ (∀ fn, x = .o fn → u.oneCell' = true) := by
      refine ⟨γ, _, g, M'.fp b, rfl, ⟨h2.below, o3, o2, fun k hk => ⟨(o4 k hk).1, (o4 k hk).2.1⟩⟩, rfl, fun i x u hx hu => ?_⟩
      match i with
      | 0 => simp at hx hu; subst hx; subst hu; exact hone _ _ _ s2 q4
      | 1 => simp at hx hu; subst hx; subst hu; exact hone _ _ _ s4 q5
      | i + 2 => simp at hx
    rcases he with rfl | rfl
    · exact ⟨h2.defs, _, hres, key⟩
    · exact ⟨h2.defs, _, hres, key⟩
  exact hpost
section
variable {P : Program} {ops : Array Oper} {Q : Exit → St → Prop} {rest : List Oper} {d : Nat} {ty : TypeId} {pos : String} {af : Array Edge} {n : Nat} {env : List (Nat × AV)} {heap : List (Nat × Option AB)} {nx : Nat} {gl : List (Nat × List CV)}
theorem r_callNE {Γ : Type} {f : FuncId} {args : List Operand} {tys : Array TypeId} {ys : List AV} {zs : List CV} {rs : Γ → List OA} {p : Γ → ObjP} (hcon : NConE P gl f zs rs p) (hys : evs ⟨n, env, heap, nx, gl⟩ args = some ys) (hz : cl.clL (fun _ => none) ys zs) (hd : Nat.blt d n = true)
    (h : ∀ γ, AOps P ops Q rest ⟨n, (d, .tup ((rs γ).map (avOf nx))) :: env, (nx, some (.obj (p γ))) :: heap, nx + 1, gl⟩) : AOps P ops Q (⟨some d, .call ⟨.value (.func f), args.toArray, tys⟩, ty, pos, af, none⟩ :: rest) ⟨n, env, heap, nx, gl⟩ := by
  intro base w0 M a hs
  obtain ⟨e1, e2⟩ := evs_get hys
  obtain ⟨e3, e4⟩ := clL_get hz
  refine wl_enter rfl (run_call hcon.1 a M.w) (R := fun v w'' => ∃ γ vs g fp, v = .tuple vs ∧ NPost M.w g (p γ) fp w'' ∧ (rs γ).length = vs.size ∧ ∀ (i : Nat) (x : OA) (u : Value), (rs γ)[i]? = some x → vs[i]? = some u → x.rel (nF M.w M.F fp w'') w'' g u ∧ (∀ fn, x = .o fn → u.oneCell' = true)) (Calls.mono (hcon.2 M.w M.F _ hs.heap.frz (fun g xs hg => ?_) (by simp; omega) (fun i x u hx hu => ?_)) (fun e w'' ⟨γ, vs, g, fp, he, hp, hrc⟩ => ⟨_, he, γ, vs, g, fp, rfl, hp, hrc⟩)) (fun v w'' hR => ?_)
  · have := hs.gl g xs hg
    generalize hq : Value.pointer (some ⟨g, 0, none⟩) = q at this ⊢
    cases this with
    | eptr cs hF hcell hr => exact .eptr cs hF hcell hr
  · have hi : i < args.length := by have := (List.getElem?_eq_some_iff.1 hx).1; omega
    obtain ⟨y, hy⟩ : ∃ y, ys[i]? = some y := ⟨_, List.getElem?_eq_getElem (by omega)⟩
    have hev := hs.ev (e2 i args[i] y (by simp [hi]) hy)
    have hu' : a.eval args[i] = u := by simpa [hi] using hu
    rw [hu'] at hev
    exact cl_rc hs.heap (F' := M.F) (fun _ h => h) (H := fun _ => none) (fun b E s l hb => by cases hb) hev (e4 i y x hy hx)
  · obtain ⟨γ, vs, g, fp, rfl, hp, hlen, hrel⟩ := hR
    obtain ⟨M', h1, h2, h3, h4, h5⟩ := hs.newO hp
    have hra : RA M' (.tup ((rs γ).map (avOf nx))) (.tuple vs) := by
      refine .tup (by simpa using hlen) (fun i x u hx hu => ?_)
      rw [List.getElem?_map, Option.map_eq_some_iff] at hx
      obtain ⟨y, hy, rfl⟩ := hx
      obtain ⟨r1, r2⟩ := hrel i y u hy hu
      rw [← show M.nx = nx from hs.nx]
      exact avOf_ra h3 (by rw [h2, h1]; exact r1) r2
    have := h γ base w0 M' _ (h4.put hd hra)
    rw [← h1]
    exact wpList_monoQ (fun e a w => Lift.ext h5) _ _ _ this
end
end Go.Proofs.Ythkjkhffljlidaa.Ev
/- Rules of a walk: a nil slice as an empty closed list. Nothing here names a program. -/
namespace Go.Proofs.Ythkjkhffljlidaa.Ev
set_option linter.unusedVariables false
set_option linter.unusedSimpArgs false
open Go.RowKit
section
variable {P : Program} {Q : Exit → St → Prop} {n : Nat} {env : List (Nat × AV)} {heap : List (Nat × Option AB)} {nx : Nat} {gl : List (Nat × List CV)}
theorem aw_nilC {c : Code} (b k size : Nat) {t : TypeId} {l l' : List AV} (hH : St.H ⟨n, env, heap, nx, gl⟩ b = some (.cells t l)) (hk : l[k]? = some (.c (.v (.slice none 0 0)))) (hl' : l.set k (.c (.lst size [])) = l')
    (h : Awp P c Q ⟨n, env, (b, some (.cells t l')) :: heap, nx, gl⟩) : Awp P c Q ⟨n, env, heap, nx, gl⟩ := by
  intro base w0 M a hs
  have hH' : M.H b = some (.cells t l) := by rw [hs.H]; exact hH
  obtain ⟨g, arr, e1, e2, e3, e4, e5, e6⟩ := hs.heap.cells b t l hH'
  have hch := hs.change (b := b) (x := .cells t l') (c := M.m b) (w' := M.w) (by rw [hH']; simp) (fun _ _ _ => rfl) (Nat.le_refl _) rfl rfl rfl
    (fun k hk => by rw [e1] at hk; simp only [Conc.block, Option.some.injEq] at hk; omega) (fun k hk => Or.inl hk)
    (fun k hk => by rw [e1] at hk; simp only [Conc.block, Option.some.injEq] at hk; subst hk; exact e3) (fun g hg => hg)
    (fun E size l' hx => by cases hx)
    (fun M'' hext hw hF t2 l2 hx => by
      simp only [AB.cells.injEq] at hx
      obtain ⟨rfl, rfl⟩ := hx
      refine ⟨g, arr, e1, e2, by exact e4, by rw [← hl', List.length_set]; exact e5, fun i y u hy hu => ?_⟩
      rw [← hl', List.getElem?_set] at hy
      split at hy
      · rename_i hik
        subst hik
        split at hy
        · simp only [Option.some.injEq] at hy; subst hy
          have hu' := (e6 k _ u hk hu).bool
          subst hu'
          exact .c .nil
        · cases hy
      · exact (e6 i y u hy hu).mono hext)
    (fun E size l hx => by cases hx)
  have hgo := h base w0 (M.set ⟨n, env, heap, nx, gl⟩ b (.cells t l') (M.m b) M.w) a hch.1
  exact wp_mono hgo fun e a w => Lift.ext hch.2
theorem aw_nilS {c : Code} (i size : Nat) (hi : look i env = some (.c (.v (.slice none 0 0))))
    (h : Awp P c Q ⟨n, (i, .c (.lst size [])) :: env, heap, nx, gl⟩) : Awp P c Q ⟨n, env, heap, nx, gl⟩ := by
  intro base w0 M a hs
  refine h base w0 M a ⟨hs.H, hs.nx, hs.n, fun j y hy => ?_, hs.gl, hs.heap, hs.below, hs.base, hs.defs, hs.old⟩
  have hy : look j ((i, AV.c (.lst size [])) :: env) = some y := hy
  rw [look_cons] at hy
  by_cases hj : i = j
  · subst hj
    rw [if_pos rfl] at hy
    simp only [Option.some.injEq] at hy; subst hy
    obtain ⟨u, h1, h2⟩ := hs.env i _ hi
    have := h2.bool
    subst this
    exact ⟨_, h1, .c .nil⟩
  · rw [if_neg hj] at hy
    exact hs.env j y hy
end
theorem star_comm {p q r : ObjP} {a b : Nat} : ∀ w g fp, (starP (starP p a q) b r).holds w g fp → (starP (starP p b r) a q).holds w g fp :=
  fun w g fp ⟨F1, f3, ⟨f1, f2, h1, h2, h3, h4, h5, h6⟩, k2, k3, k4, k5, k6⟩ => ⟨fun j => f1 j ∨ f3 j, f2, ⟨f1, f3, h1, k2, h3, k4, fun j a c => k5 j ((h6 j).2 (.inl a)) c, fun j => Iff.rfl⟩, h2, .inl h3, h4,
    fun j c d => by
      rcases c with c | c
      · exact h5 j c d
      · exact k5 j ((h6 j).2 (.inr d)) c,
    fun j => by
      rw [k6 j, h6 j]
      constructor
      · rintro ((c | c) | c)
        · exact .inl (.inl c)
        · exact .inr c
        · exact .inl (.inr c)
      · rintro ((c | c) | c)
        · exact .inl (.inl c)
        · exact .inr c
        · exact .inl (.inr c)⟩
theorem OCon.conv {P : Program} {gl : List (Nat × List CV)} {f : FuncId} {args : List OA} {p q p' q' : ObjP} {r : CV} (h : OCon P gl f args q r q') (h1 : ∀ w g fp, p.holds w g fp → q.holds w g fp) (h2 : ∀ w g fp, q'.holds w g fp → p'.holds w g fp) : OCon P gl f args p r p' :=
  ⟨h.1, fun w F fp g vals a b c d e f' g' => (h.2 w F fp g vals a b (h1 _ _ _ c) d e f' g').mono fun _ _ ⟨v, fp', x, y, z⟩ => ⟨v, fp', x, ⟨y.os, y.tape, y.output, y.size, y.block, h2 _ _ _ y.holds, y.root, y.lt⟩, z⟩⟩
theorem OCon.under {P : Program} {gl : List (Nat × List CV)} {f : FuncId} {args : List OA} {p p' s s' : ObjP} {b : Nat} {r : CV} (h : OCon P gl f args (starP p b s) r (starP p' b s')) (a : Nat) (q : ObjP) : OCon P gl f args (starP (starP p a q) b s) r (starP (starP p' a q) b s') :=
  (h.left a q).conv star_comm star_comm
end Go.Proofs.Ythkjkhffljlidaa.Ev
