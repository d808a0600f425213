/- Ev37 Ev43 Ev50 Ev51 Ev52: texts laid together. -/
import Derived.Test.YtdndfncpglfdeaaMrgE3
import Derived.MapKept
/- Contracts of functions that change an object, out of walks of their bodies; calls that change an object and return what depends on where it lies. Nothing here names a program. -/
namespace Go.Proofs.Ytdndfncpglfdeaa.Ev
set_option linter.unusedVariables false
set_option linter.unusedSimpArgs false
open Go.RowKit
def frameP (w : World) (ff : Nat → Prop) : ObjP where
  holds := fun _ w' _ fp => (∀ k, fp k ↔ ff k) ∧ ∀ k, ff k → w'.heap[k]? = w.heap[k]?
  stable := fun _ _ _ _ _ _ h _ hk => ⟨h.1, fun k hf => (hk k ((h.1 k).2 hf)).trans (h.2 k hf)⟩
def OConE {Γ : Type} (P : Program) (gl : List (Nat × List CV)) (f : FuncId) (args : List OA) (p : ObjP) (r : Γ → CV) (p' : Γ → ObjP) : Prop :=
  callableB P f = true ∧ ∀ (w : World) (F fp : Nat → Prop) (g : Nat) (vals : Array Value), (∀ b, F b → b < w.heap.size) → GlOK gl F w → p.holds F w g fp → fp g → (∀ k, fp k → k < w.heap.size ∧ ¬ F k) → args.length = vals.size → (∀ (i : Nat) (x : OA) (u : Value), args[i]? = some x → vals[i]? = some u → x.rel F w g u) →
    Calls P f vals w fun e w' => ∃ γ v fp', e = .returned v ∧ OPost w F fp g (p' γ) fp' w' ∧ RC (oF w F fp fp' w') w' (r γ) v
section
variable {P : Program} {base : Nat} {w0 : W0} {st : St} {M : Wd} {a : Act} {F' : Nat → Prop}
theorem res1_runV (hs : Sim base w0 st M a) (hF : ∀ b, M.F b → F' b) (hvec : ∀ b E s l, st.H b = some (.vec E s l) → M.H b = some (.vec E s l) ∧ ∀ g, (M.m b).block = some g → F' g) {v : ResultVar} {r : CV} (h : Res1 P st v r) :
    ∃ u, (res1 a v).run P M.w = .ok u M.w ∧ RC F' M.w r u := by
  cases h with
  | tmp h hc =>
    rename_i t y
    obtain ⟨u, h1, h2⟩ := hs.env t y h
    exact ⟨u, by simp [res1, Array.getD_eq_getD_getElem?, h1], cl_rc hs.heap hF hvec h2 hc⟩
  | cell_s I h hH hy hc =>
    rename_i ad t b off n t' l y
    obtain ⟨u, h1, h2⟩ := hs.env ad _ h
    cases h2 with
    | ptr hm =>
      rename_i g
      obtain ⟨g', arr, e1, _, _, e4, e5, e6⟩ := hs.heap.cells b t' l (by rw [hs.H]; exact hH)
      rw [hm] at e1; cases e1
      have hlt : off < arr.size := by rw [← e5]; exact (List.getElem?_eq_some_iff.1 hy).1
      refine ⟨arr[off], ?_, cl_rc hs.heap hF hvec (e6 off y _ hy (by simp [hlt])) hc⟩
      have := run_load_s I M.w ⟨g, off, none⟩ arr[off] (by simp [World.cell?, e4, hlt])
      simp only [Instr.loadAt, Instr.sureAddr, Sem.run_bind, Sem.run_pure, Result.andThen_ok] at this
      simp [res1, Array.getD_eq_getD_getElem?, h1, asAddr, this]
  | cell_a I h hH hy hn hc =>
    rename_i ad t b off n t' l ys rs
    obtain ⟨u, h1, h2⟩ := hs.env ad _ h
    cases h2 with
    | ptr hm =>
      rename_i g
      obtain ⟨g', arr, e1, _, _, e4, e5, e6⟩ := hs.heap.cells b t' l (by rw [hs.H]; exact hH)
      rw [hm] at e1; cases e1
      have hln : ((arr.toList.drop off).take n).length = n := by
        have : ((l.drop off).take n).length = n := by rw [hy]; exact hn
        simp only [List.length_take, List.length_drop, Array.length_toList] at this ⊢
        rw [← e5]; exact this
      have hRA : RA M (.agg ys) (.agg ((arr.toList.drop off).take n).toArray) := by
        refine .agg (by rw [hn]; simpa using hln.symm) (fun i y u hy' hu => ?_)
        subst hy
        have hi : i < n := by have := (List.getElem?_eq_some_iff.1 hy').1; omega
        rw [List.getElem?_take_of_lt hi, List.getElem?_drop] at hy'
        rw [List.getElem?_toArray, List.getElem?_take_of_lt hi, List.getElem?_drop, Array.getElem?_toList] at hu
        exact e6 _ y u hy' hu
      refine ⟨_, ?_, cl_rc hs.heap hF hvec hRA (cl_agg hc)⟩
      have := run_load_a I M.w g off ((arr.toList.drop off).take n) hln (fun j v hv => by
        have hj : j < n := by have := (List.getElem?_eq_some_iff.1 hv).1; omega
        rw [List.getElem?_take_of_lt hj, List.getElem?_drop, Array.getElem?_toList] at hv
        simp [World.cell?, e4, hv])
      simp only [Instr.loadAt, Instr.sureAddr, Sem.run_bind, Sem.run_pure, Result.andThen_ok] at this
      simp [res1, Array.getD_eq_getD_getElem?, h1, asAddr, this]
theorem resL_runV (hs : Sim base w0 st M a) (hF : ∀ b, M.F b → F' b) (hvec : ∀ b E s l, st.H b = some (.vec E s l) → M.H b = some (.vec E s l) ∧ ∀ g, (M.m b).block = some g → F' g) : ∀ {vs : List ResultVar} {rs : List CV}, ResL P st vs rs →
    ∃ us : List Value, (vs.mapM (res1 a)).run P M.w = .ok us M.w ∧ us.length = vs.length ∧ rs.length = us.length ∧ ∀ (i : Nat) (r : CV) (u : Value), rs[i]? = some r → us[i]? = some u → RC F' M.w r u
  | _, _, .nil => ⟨[], by simp, rfl, rfl, fun i r u h => by simp at h⟩
  | _, _, .cons h hs' => by
    obtain ⟨u, h1, h2⟩ := res1_runV hs hF hvec h
    obtain ⟨us, h3, h4, h5, h6⟩ := resL_runV hs hF hvec hs'
    refine ⟨u :: us, ?_, by simp [h4], by simp [h5], fun i r u' h7 h8 => ?_⟩
    · rw [List.mapM_cons, Sem.run_bind, h1]
      simp only [Result.andThen_ok, Sem.run_bind, h3, Sem.run_pure]
    · cases i with
      | zero => simp at h7 h8; subst h7; subst h8; exact h2
      | succ i => exact h6 i r u' (by simpa using h7) (by simpa using h8)
theorem results_runV {fn : Func} (hs : Sim base w0 st M a) (hF : ∀ b, M.F b → F' b) (hvec : ∀ b E s l, st.H b = some (.vec E s l) → M.H b = some (.vec E s l) ∧ ∀ g, (M.m b).block = some g → F' g) {r : CV} {e : Exit} (h : Ret P fn.results.toList r e st) :
    ∃ v, (results fn a.tmps).run P M.w = .ok v M.w ∧ RC F' M.w r v := by
  have hconv : ∀ us : List Value, (fn.results.toList.mapM (res1 a)).run P M.w = .ok us M.w → (results fn a.tmps).run P M.w = .ok (if h : us.toArray.size = 1 then us.toArray[0] else .tuple us.toArray) M.w := by
    intro us hu
    unfold results
    have hmap : Sem.run P (fn.results.mapM (res1 a)) M.w = Result.ok us.toArray M.w := by
      rw [Array.mapM_eq_mapM_toList, map_eq_pure_bind, Sem.run_bind, hu]; rfl
    change Sem.run P (fn.results.mapM (res1 a) >>= fun vs => pure (if h : vs.size = 1 then vs[0] else .tuple vs)) M.w = _
    rw [Sem.run_bind, hmap]; rfl
  obtain ⟨_, h⟩ := h
  rcases h with ⟨v, hv, h⟩ | ⟨hne, zs, rfl, h⟩
  · obtain ⟨u, h1, h2⟩ := res1_runV hs hF hvec h
    refine ⟨u, ?_, h2⟩
    have := hconv [u] (by rw [hv, List.mapM_cons, Sem.run_bind, h1]; simp)
    simpa using this
  · obtain ⟨us, h1, h2, h3, h4⟩ := resL_runV hs hF hvec h
    refine ⟨.tuple us.toArray, ?_, .tup (by simpa using h3) (fun i x u hx hu => h4 i x u hx (by simpa using hu))⟩
    have := hconv us h1
    rw [dif_neg (by simpa [h2] using hne)] at this
    exact this
end
def argEnvO : Nat → List OA → List (Nat × AV)
  | _, [] => []
  | k, x :: l => (k, avOf 0 x) :: argEnvO (k + 1) l
theorem argEnvO_get : ∀ (l : List OA) (k i : Nat) (y : AV), look i (argEnvO k l) = some y → ∃ x, k ≤ i ∧ l[i - k]? = some x ∧ y = avOf 0 x
  | [], k, i, y, h => by simp [argEnvO, look] at h
  | x :: l, k, i, y, h => by
    rw [argEnvO, look_cons] at h
    split at h
    · rename_i hk; subst hk; simp only [Option.some.injEq] at h; exact ⟨x, Nat.le_refl _, by simp, h.symm⟩
    · obtain ⟨x', h1, h2, h3⟩ := argEnvO_get l (k + 1) i y h
      refine ⟨x', by omega, ?_, h3⟩
      rw [show i - k = (i - (k + 1)) + 1 by omega]
      simpa using h2
def ORetE {Γ : Type} (P : Program) (rs : List ResultVar) (r : Γ → CV) (p' : Γ → ObjP) (fr : Option AB) : Exit → St → Prop :=
  fun e st => ∃ γ, Ret P rs (r γ) e st ∧ st.H 0 = some (.obj (p' γ)) ∧ look 1 st.heap = some fr
theorem weak_mkF {n : Nat} {env env' : List (Nat × AV)} {heap heap' : List (Nat × Option AB)} {nx nx' : Nat} {gl : List (Nat × List CV)} {fr : Option AB} (hfr : ∀ x, fr = some x → ∃ p, x = .obj p) (h : Nat.ble nx' nx = true) (h1 : Nat.blt 1 nx' = true) (hl : look 1 heap = some fr) (he : EnvW ⟨n, env, heap, nx, gl⟩ nx' env') (hh : HeapW ⟨n, env, heap, nx, gl⟩ nx' heap') : Weak ⟨n, env, heap, nx, gl⟩ ⟨n, env', (1, fr) :: heap', nx', gl⟩ := by
  refine ⟨rfl, rfl, Nat.le_of_ble_eq_true h, fun i x hx => EnvW.get he i x hx, fun b x hx => ?_⟩
  by_cases hb : 1 = b
  · subst hb
    have hx1 : St.H ⟨n, env', (1, fr) :: heap', nx', gl⟩ 1 = fr := by
      unfold St.H; rw [look_cons, if_pos rfl]; cases fr <;> rfl
    rw [hx1] at hx
    refine ⟨?_, blt_true h1, ?_⟩
    · unfold St.H; rw [hl, hx]
    · obtain ⟨p, rfl⟩ := hfr x hx
      rfl
  · refine HeapW.get hh b x (St.H_some (s := ⟨n, env', heap', nx', gl⟩) ?_)
    unfold St.H at hx ⊢
    rw [look_cons, if_neg hb] at hx
    exact hx
theorem ret_o {Γ : Type} {P : Program} {rs : List ResultVar} {r : Γ → CV} {p' : Γ → ObjP} {fr : Option AB} {e : Exit} {st : St} (γ : Γ) (h1 : Ret P rs (r γ) e st) (h2 : st.H 0 = some (.obj (p' γ))) (h3 : look 1 st.heap = some fr) : ORetE P rs r p' fr e st := ⟨γ, h1, h2, h3⟩
def FrOK (fr : Option AB) : Prop := ∀ x, fr = some x → ∃ p, x = .obj p
theorem st_H1 {st : St} {fr : Option AB} (h : look 1 st.heap = some fr) : st.H 1 = fr := by
  unfold St.H; rw [h]; cases fr <;> rfl
theorem oconE_of {Γ : Type} {P : Program} {gl : List (Nat × List CV)} {f : FuncId} {fn : Func} {c : Code} {args : List OA} {p : ObjP} {r : Γ → CV} {p' : Γ → ObjP} (hf : P.funcs[f]? = some fn) (hb : fn.body = some c) (hcall : callableB P f = true) (hn : Nat.ble args.length fn.ntmps = true) (ho : ∀ x ∈ args, ∀ h, x = .o h → ∀ g, (h g).oneCell' = true)
    (h : ∀ fr : Option AB, FrOK fr → Awp P c (ORetE P fn.results.toList r p' fr) { n := fn.ntmps, env := argEnvO 0 args, heap := [(0, some (.obj p)), (1, fr)], nx := 2, gl := gl }) : OConE P gl f args p r p' := by
  refine ⟨hcall, fun w F fp g vals hF hgl hp hg hfp hl hv => ?_⟩
  have hle := Nat.le_of_ble_eq_true hn
  refine calls_of_wp hf hb ?_
  let ff : Nat → Prop := fun k => k < w.heap.size ∧ ¬ F k ∧ ¬ fp k
  obtain ⟨fr, k0, hfr⟩ : ∃ (fr : Option AB) (k0 : Nat), (fr = some (.obj (frameP w ff)) ∧ ff k0) ∨ (fr = none ∧ ∀ k, ¬ ff k) := by
    rcases Classical.em (∃ k, ff k) with ⟨k, hk⟩ | hk
    · exact ⟨_, k, .inl ⟨rfl, hk⟩⟩
    · exact ⟨none, 0, .inr ⟨rfl, fun k h => hk ⟨k, h⟩⟩⟩
  let M : Wd := { m := fun b => if b = 0 then .blk g else if b = 1 ∧ fr ≠ none then .blk k0 else .row undef, H := St.H { n := fn.ntmps, env := argEnvO 0 args, heap := [(0, some (.obj p)), (1, fr)], nx := 2, gl := gl }, nx := 2, F := F, w := w, fp := fun b => if b = 0 then fp else ff }
  have hm0 : M.m 0 = .blk g := rfl
  have H0 : M.H 0 = some (.obj p) := rfl
  have H1 : M.H 1 = fr := st_H1 rfl
  have H2 : ∀ b, 2 ≤ b → M.H b = none := fun b hb => by
    show St.H _ b = none
    unfold St.H
    simp only [look_cons]
    rw [if_neg (by omega), if_neg (by omega)]
    rfl
  have hfr' : ∀ x, fr = some x → x = .obj (frameP w ff) ∧ ff k0 ∧ M.m 1 = .blk k0 := fun x hx => by
    rcases hfr with ⟨h1, h2⟩ | ⟨h1, _⟩
    · rw [h1] at hx; cases hx
      refine ⟨rfl, h2, ?_⟩
      show (if (1 : Nat) = 0 then Conc.blk g else if (1 : Nat) = 1 ∧ fr ≠ none then Conc.blk k0 else Conc.row undef) = Conc.blk k0
      rw [if_neg (by decide), if_pos ⟨rfl, by rw [h1]; simp⟩]
    · rw [h1] at hx; cases hx
  have hcase : ∀ b x, M.H b = some x → (b = 0 ∧ x = .obj p) ∨ (b = 1 ∧ x = .obj (frameP w ff) ∧ ff k0 ∧ M.m 1 = .blk k0) := fun b x hx => by
    match b with
    | 0 => rw [H0] at hx; cases hx; exact .inl ⟨rfl, rfl⟩
    | 1 => rw [H1] at hx; exact .inr ⟨rfl, hfr' x hx⟩
    | b + 2 => rw [H2 _ (by omega)] at hx; cases hx
  have hfpff : ∀ k, fp k → ¬ ff k := fun k h1 h2 => h2.2.2 h1
  have hsim : Sim 0 ⟨w, F⟩ { n := fn.ntmps, env := argEnvO 0 args, heap := [(0, some (.obj p)), (1, fr)], nx := 2, gl := gl } M { tmps := vals ++ Array.replicate (fn.ntmps - vals.size) undef, defers := [] } := by
    refine ⟨rfl, rfl, by simp; omega, fun i y hy => ?_, fun k xs hk => ?_, ⟨fun b t l hb => ?_, fun b E s l hb => ?_, fun b b' q hbb hb hb' hq => ?_, fun b hb => ?_, fun b hb q hq => ?_, hF, fun b q hb => ?_⟩, ⟨rfl, rfl, rfl, Nat.le_refl _, fun _ _ => rfl⟩, Nat.zero_le _, rfl, fun b _ h => absurd h (Nat.not_lt_zero _)⟩
    · obtain ⟨x, _, h1, rfl⟩ := argEnvO_get args 0 i y hy
      rw [Nat.sub_zero] at h1
      have hi : i < vals.size := by have := (List.getElem?_eq_some_iff.1 h1).1; omega
      have hrel := hv i x vals[i] h1 (by simp [hi])
      refine ⟨vals[i], by simp [Array.getElem?_append, hi], avOf_ra hm0 hrel (fun h' e => ?_)⟩
      subst e
      rw [show vals[i] = h' g from hrel]
      exact ho _ (List.mem_of_getElem? h1) _ rfl g
    · have := hgl k xs hk
      generalize hq : Value.pointer (some ⟨k, 0, none⟩) = q at this ⊢
      cases this with
      | eptr cs hF hcell hr => exact .eptr cs hF hcell hr
    · rcases hcase b _ hb with ⟨_, h⟩ | ⟨_, h, _⟩ <;> cases h
    · rcases hcase b _ hb with ⟨_, h⟩ | ⟨_, h, _⟩ <;> cases h
    · obtain ⟨x, hx⟩ := Option.ne_none_iff_exists'.1 hb
      obtain ⟨x', hx'⟩ := Option.ne_none_iff_exists'.1 hb'
      rcases hcase b x hx with ⟨rfl, _⟩ | ⟨rfl, _, h2, h3⟩ <;> rcases hcase b' x' hx' with ⟨rfl, _⟩ | ⟨rfl, _, h4, h5⟩
      · exact absurd rfl hbb
      · rw [hm0] at hq; rw [h5]
        have hq : some g = some q := hq
        cases hq
        intro hc
        have hc : some k0 = some g := hc
        cases hc
        exact hfpff _ hg h4
      · rw [h3] at hq; rw [hm0]
        have hq : some k0 = some q := hq
        cases hq
        intro hc
        have hc : some g = some k0 := hc
        cases hc
        exact hfpff _ hg h2
      · exact absurd rfl hbb
    · show b < 2
      rcases Nat.lt_or_ge b 2 with h | h
      · exact h
      · exact absurd (H2 b h) hb
    · have hb : 2 ≤ b := hb
      have : M.m b = .row undef := by
        show (if b = 0 then Conc.blk g else if b = 1 ∧ fr ≠ none then Conc.blk k0 else Conc.row undef) = Conc.row undef
        rw [if_neg (by omega), if_neg (fun h => by omega)]
      rw [this] at hq; cases hq
    · rcases hcase b _ hb with ⟨rfl, h⟩ | ⟨rfl, h, h2, h3⟩
      · cases h
        refine ⟨g, hm0, hg, hp, fun k hk => ⟨Nat.zero_le _, hfp k hk⟩, fun b' k hbb hk => ⟨fun hb' hq => ?_, fun p2 hp2 hq => ?_⟩⟩
        · obtain ⟨x', hx'⟩ := Option.ne_none_iff_exists'.1 hb'
          rcases hcase b' x' hx' with ⟨rfl, _⟩ | ⟨rfl, _, h4, h5⟩
          · exact hbb rfl
          · rw [h5] at hq
            simp only [Conc.block, Option.some.injEq] at hq
            subst hq; exact hfpff _ hk h4
        · have hq : (if b' = 0 then fp else ff) k := hq
          rw [if_neg hbb] at hq
          exact hfpff k hk hq
      · cases h
        refine ⟨k0, h3, h2, ⟨fun k => Iff.rfl, fun _ _ => rfl⟩, fun k hk => ⟨Nat.zero_le _, hk.1, hk.2.1⟩, fun b' k hbb hk => ⟨fun hb' hq => ?_, fun p2 hp2 hq => ?_⟩⟩
        · obtain ⟨x', hx'⟩ := Option.ne_none_iff_exists'.1 hb'
          rcases hcase b' x' hx' with ⟨rfl, _⟩ | ⟨rfl, _, h4, h5⟩
          · rw [hm0] at hq
            simp only [Conc.block, Option.some.injEq] at hq
            subst hq; exact hfpff _ hg hk
          · exact hbb rfl
        · rcases hcase b' _ hp2 with ⟨rfl, _⟩ | ⟨rfl, _⟩
          · exact hfpff k hq hk
          · exact hbb rfl
  refine Code.wp_mono ?_ (h fr (fun x hx => ⟨_, (hfr' x hx).1⟩) _ _ _ _ hsim)
  intro e a' w' ⟨M', st', h1, h2, h3, γ, h4, h5, h6⟩
  subst h1
  obtain ⟨g', q1, q2, q3, q4, q5⟩ := h2.heap.obj 0 _ (by rw [h2.H]; exact h5)
  have hg' : g' = g := by
    have := h3.m 0 g hm0
    rw [q1] at this; cases this; rfl
  subst hg'
  have hFr : ∀ k, ff k → M'.w.heap[k]? = w.heap[k]? ∧ ¬ M'.F k ∧ ¬ M'.fp 0 k ∧ ∀ b, b ≠ 1 → M'.H b ≠ none → (M'.m b).block ≠ some k := fun k hk => by
    rcases hfr with ⟨hfr, _⟩ | ⟨_, hfr⟩
    · obtain ⟨k1, r1, r2, r3, r4, r5⟩ := h2.heap.obj 1 (frameP w ff) (by rw [h2.H, st_H1 h6]; exact hfr)
      have hk1 := (r3.1 k).2 hk
      exact ⟨r3.2 k hk, (r4 k hk1).2.2, (r5 0 k (by decide) hk1).2 _ (by rw [h2.H]; exact h5), fun b hb hb' => (r5 b k hb hk1).1 hb'⟩
    · exact absurd hk (hfr k)
  have hold : ∀ k, k < w.heap.size → F k ∨ fp k ∨ ff k := fun k hk => by
    rcases Classical.em (F k) with h | h
    · exact .inl h
    · rcases Classical.em (fp k) with h' | h'
      · exact .inr (.inl h')
      · exact .inr (.inr ⟨hk, h, h'⟩)
  have hoF : ∀ b, M'.F b → oF w F fp (M'.fp 0) M'.w b := fun b hb' => by
    rcases Nat.lt_or_ge b w.heap.size with hc | hc
    · rcases hold b hc with h | h | h
      · exact .inl h
      · exact .inr ⟨h2.heap.frz b hb', fun hf => (q4 b hf).2.2 hb', .inl h⟩
      · exact absurd hb' (hFr b h).2.1
    · exact .inr ⟨h2.heap.frz b hb', fun hf => (q4 b hf).2.2 hb', .inr hc⟩
  have hpost : OPost w F fp g' (p' γ) (M'.fp 0) M'.w := by
    refine ⟨h2.below.os, h2.below.tape, h2.below.output, h2.below.size, fun k hk hnf => ?_, (p' γ).stable _ _ _ _ _ _ q3 (fun k hk => ⟨hoF k hk, rfl⟩) (fun _ _ => rfl), q2, fun k hk => ⟨(q4 k hk).2.1, ?_⟩⟩
    · rcases hold k hk with h | h | h
      · exact (h3.F k h).2
      · exact absurd h hnf
      · exact (hFr k h).1
    · rcases Nat.lt_or_ge k w.heap.size with h | h
      · rcases hold k h with h | h | h
        · exact absurd (h3.F k h).1 (q4 k hk).2.2
        · exact .inl h
        · exact absurd hk (hFr k h).2.2.1
      · exact .inr h
  have hres := results_runV (fn := fn) h2 (F' := oF w F fp (M'.fp 0) M'.w) hoF (fun b E s l hb => by
    rw [← h2.H] at hb
    refine ⟨hb, fun q hq => ?_⟩
    have hne : M'.H b ≠ none := by rw [hb]; simp
    obtain ⟨v, n, cs, e1, _, _, e4, _, e6⟩ := h2.heap.vec b E s l hb
    rw [e1] at hq
    have hlt := (World.ownsRow.lt e4 q hq).2
    have hb0 : b ≠ 0 := fun e => by rw [e, h2.H, h5] at hb; cases hb
    have hnf : ¬ M'.fp 0 q := fun hf => (q5 b q hb0 hf).1 hne (by rw [e1]; exact hq)
    rcases Nat.lt_or_ge q w.heap.size with hc | hc
    · rcases hold q hc with h | h | h
      · exact .inl h
      · exact .inr ⟨hlt, hnf, .inl h⟩
      · have hb1 : b ≠ 1 := fun e => by
          rw [e, h2.H, st_H1 h6] at hb
          cases (hfr' _ hb).1
        exact absurd (by rw [e1]; exact hq) ((hFr q h).2.2.2 b hb1 hne)
    · exact .inr ⟨hlt, hnf, .inr hc⟩) h4
  obtain ⟨v, hrun, hrc⟩ := hres
  have hpost2 : bodyPost P fn (fun e w' => ∃ γ v fp', e = .returned v ∧ OPost w F fp g' (p' γ) fp' w' ∧ RC (oF w F fp fp' w') w' (r γ) v) e a' M'.w := by
    rcases h4.1 with rfl | rfl
    · exact ⟨h2.defs, v, hrun, γ, v, _, rfl, hpost, hrc⟩
    · exact ⟨h2.defs, v, hrun, γ, v, _, rfl, hpost, hrc⟩
  exact hpost2
section
variable {P : Program} {ops : Array Oper} {Q : Exit → St → Prop} {rest : List Oper} {st : St} {d : Nat} {ty : TypeId} {pos : String} {af : Array Edge}
theorem ao_callOE {Γ : Type} {f : FuncId} {args : List Operand} {tys : Array TypeId} {ys : List AV} {zs : List OA} {r : Γ → CV} {p : ObjP} {p' : Γ → ObjP} (b : Nat) (hcon : OConE P st.gl f zs p r p') (hys : evs st args = some ys) (hz : oas b ys = some zs) (hb : st.H b = some (.obj p)) (hd : Nat.blt d st.n = true)
    (h : ∀ γ, AOps P ops Q rest ((st.set b (.obj (p' γ))).put d (ofC (r γ)))) : AOps P ops Q (⟨some d, .call ⟨.value (.func f), args.toArray, tys⟩, ty, pos, af, none⟩ :: rest) st := by
  intro base w0 M a hs
  have hbM : M.H b = some (.obj p) := by rw [hs.H]; exact hb
  obtain ⟨e1, e2⟩ := evs_get hys
  obtain ⟨e3, e4⟩ := oas_get hz
  obtain ⟨g, o1, o2, o3, o4, o5⟩ := hs.heap.obj b p hbM
  refine wl_enter rfl (run_call hcon.1 a M.w) (R := fun v w'' => ∃ γ fp', OPost M.w M.F (M.fp b) g (p' γ) fp' w'' ∧ RC (oF M.w M.F (M.fp b) fp' w'') w'' (r γ) v) (Calls.mono (hcon.2 M.w M.F (M.fp b) g _ hs.heap.frz (fun g xs hg => ?_) o3 o2 (fun k hk => (o4 k hk).2) (by simp; omega) (fun i x u hx hu => ?_)) (fun e w'' ⟨γ, v, fp', he, hp, hrc⟩ => ⟨v, he, γ, fp', hp, hrc⟩)) (fun v w'' hR => ?_)
  · have := hs.gl g xs hg
    generalize hq : Value.pointer (some ⟨g, 0, none⟩) = q at this ⊢
    cases this with
    | eptr cs hF hcell hr => exact .eptr cs hF hcell hr
  · have hi : i < args.length := by have := (List.getElem?_eq_some_iff.1 hx).1; omega
    obtain ⟨y, hy⟩ : ∃ y, ys[i]? = some y := ⟨_, List.getElem?_eq_getElem (by omega)⟩
    have hev := hs.ev (e2 i args[i] y (by simp [hi]) hy)
    have hu' : a.eval args[i] = u := by simpa [hi] using hu
    rw [hu'] at hev
    exact oaOf_rel hs.heap o1 hev (e4 i y x hy hx)
  · obtain ⟨γ, fp', hp, hrc⟩ := hR
    obtain ⟨M', h1, h2, h3, h4⟩ := hs.changeO hbM o1 hp
    have := h γ base w0 M' _ (h3.put hd (RA.ofC (M := M') (by rw [h2, h1]; exact hrc)))
    rw [← h1]
    exact wpList_monoQ (fun e a w => Lift.ext h4) _ _ _ this
end
end Go.Proofs.Ytdndfncpglfdeaa.Ev
/- Contracts of functions that make an object and return two values, out of walks of their bodies. Nothing here names a program. -/
namespace Go.Proofs.Ytdndfncpglfdeaa.Ev
set_option linter.unusedVariables false
set_option linter.unusedSimpArgs false
open Go.RowKit
def NConE {Γ : Type} (P : Program) (gl : List (Nat × List CV)) (f : FuncId) (args : List CV) (rs : Γ → List OA) (p : Γ → ObjP) : Prop :=
  callableB P f = true ∧ ∀ (w : World) (F : Nat → Prop) (vals : Array Value), (∀ b, F b → b < w.heap.size) → GlOK gl F w → args.length = vals.size → (∀ (i : Nat) (x : CV) (u : Value), args[i]? = some x → vals[i]? = some u → RC F w x u) →
    Calls P f vals w fun e w' => ∃ γ vs g fp, e = .returned (.tuple vs) ∧ NPost w F g (p γ) fp w' ∧ (rs γ).length = vs.size ∧ ∀ (i : Nat) (x : OA) (u : Value), (rs γ)[i]? = some x → vs[i]? = some u → x.rel (nF w F fp w') w' g u ∧ (∀ fn, x = .o fn → u.oneCell' = true)
def oaC (H : Nat → Option AB) (b : Nat) (y : AV) : OA → Prop
  | .p => y = .ptr b 0
  | .c x => cl H y x
  | .o _ => False
def NRet2 {Γ : Type} (t1 t2 : Nat) (r1 r2 : Γ → OA) (p : Γ → ObjP) : Exit → St → Prop :=
  fun e st => (e = .normal ∨ e = .ret) ∧ ∃ γ b y1 y2, st.H b = some (.obj (p γ)) ∧ look t1 st.env = some y1 ∧ look t2 st.env = some y2 ∧ oaC st.H b y1 (r1 γ) ∧ oaC st.H b y2 (r2 γ)
theorem nconE_of {Γ : Type} {P : Program} {gl : List (Nat × List CV)} {f : FuncId} {fn : Func} {c : Code} {args : List CV} {t1 t2 : Nat} {r1 r2 : Γ → OA} {p : Γ → ObjP} (hf : P.funcs[f]? = some fn) (hb : fn.body = some c) (hr : fn.results = #[.tmp t1, .tmp t2]) (hcall : callableB P f = true) (hn : Nat.ble args.length fn.ntmps = true)
    (h : Awp P c (NRet2 t1 t2 r1 r2 p) { n := fn.ntmps, env := argEnv 0 args, heap := [], nx := 0, gl := gl }) : NConE P gl f args (fun γ => [r1 γ, r2 γ]) p := by
  refine ⟨hcall, fun w F vals hF hgl hl hv => ?_⟩
  have hle := Nat.le_of_ble_eq_true hn
  refine calls_of_wp hf hb ?_
  have hsim : Sim w.heap.size ⟨w, F⟩ { n := fn.ntmps, env := argEnv 0 args, heap := [], nx := 0, gl := gl } { m := fun _ => .row undef, H := fun _ => none, nx := 0, F := F, w := w, fp := fun _ _ => False } { tmps := vals ++ Array.replicate (fn.ntmps - vals.size) undef, defers := [] } := by
    refine ⟨rfl, rfl, by simp; omega, fun i y hy => ?_, hgl, ⟨?_, ?_, fun b b' g _ h => absurd rfl h, fun b h => absurd rfl h, ?_, hF, ?_⟩, Below.refl _ _, Nat.le_refl _, rfl, fun b h _ => h⟩
    rotate_left
    · intro b t l h; cases h
    · intro b E s l h; cases h
    · intro b _ g h; cases h
    · intro b p h; cases h
    obtain ⟨x, _, h1, rfl⟩ := argEnv_get args 0 i y hy
    rw [Nat.sub_zero] at h1
    have hi : i < vals.size := by have := (List.getElem?_eq_some_iff.1 h1).1; omega
    refine ⟨vals[i], by simp [Array.getElem?_append, hi], RA.ofC (M := { m := fun _ => .row undef, H := fun _ => none, nx := 0, F := F, w := w, fp := fun _ _ => False }) (hv i x _ h1 (by simp [hi]))⟩
  refine Code.wp_mono ?_ (h _ _ _ _ hsim)
  intro e a' w' ⟨M', st', h1, h2, h3, he, γ, b, y1, y2, q1, q2, q3, q4, q5⟩
  subst h1
  obtain ⟨g, o1, o2, o3, o4, o5⟩ := h2.heap.obj b _ (by rw [h2.H]; exact q1)
  obtain ⟨u1, s1, s2⟩ := h2.env t1 y1 q2
  obtain ⟨u2, s3, s4⟩ := h2.env t2 y2 q3
  have hres : (results fn a'.tmps).run P M'.w = .ok (.tuple #[u1, u2]) M'.w := by
    unfold results
    rw [hr]
    simp [Array.getD_eq_getD_getElem?, s1, s3]
  have hF' : ∀ k, M'.F k → nF w F (M'.fp b) M'.w k := fun k hk => by
    rcases Nat.lt_or_ge k w.heap.size with hc | hc
    · exact .inl (h2.old k hk hc)
    · exact .inr ⟨hc, h2.heap.frz k hk, fun hf => (o4 k hf).2.2 hk⟩
  have hvec : ∀ b' E s l, st'.H b' = some (.vec E s l) → M'.H b' = some (.vec E s l) ∧ ∀ q, (M'.m b').block = some q → nF w F (M'.fp b) M'.w q := fun b' E s l hb' => by
    rw [← h2.H] at hb'
    refine ⟨hb', fun q hq => ?_⟩
    obtain ⟨v, n, cs, e1, _, _, e4, _⟩ := h2.heap.vec b' E s l hb'
    rw [e1] at hq
    obtain ⟨f1, f2⟩ := World.ownsRow.lt e4 q hq
    have hbb : b' ≠ b := fun e => by rw [e, h2.H, q1] at hb'; cases hb'
    exact .inr ⟨f1, f2, fun hf => (o5 b' q hbb hf).1 (by rw [hb']; simp) (by rw [e1]; exact hq)⟩
  have hone : ∀ (x : OA) (y : AV) (u : Value), RA M' y u → oaC st'.H b y x → x.rel (nF w F (M'.fp b) M'.w) M'.w g u ∧ (∀ fn, x = .o fn → u.oneCell' = true) := fun x y u hu hx => by
    cases x with
    | c x => exact ⟨cl_rc h2.heap hF' hvec hu hx, fun fn h => by cases h⟩
    | o f => exact absurd hx id
    | p =>
      cases (show y = .ptr b 0 from hx)
      cases hu with
      | ptr hm => rw [o1] at hm; cases hm; exact ⟨rfl, fun fn h => by cases h⟩
  have hpost : bodyPost P fn (fun e w' => ∃ γ vs g fp, e = .returned (.tuple vs) ∧ NPost w F g (p γ) fp w' ∧ [r1 γ, r2 γ].length = vs.size ∧ ∀ (i : Nat) (x : OA) (u : Value), [r1 γ, r2 γ][i]? = some x → vs[i]? = some u → x.rel (nF w F fp w') w' g u ∧ (∀ fn, x = .o fn → u.oneCell' = true)) e a' M'.w := by
    have key : ∃ γ vs g fp, (Ending.returned (.tuple #[u1, u2])) = .returned (.tuple vs) ∧ NPost w F g (p γ) fp M'.w ∧ [r1 γ, r2 γ].length = vs.size ∧ ∀ (i : Nat) (x : OA) (u : Value), [r1 γ, r2 γ][i]? = some x → vs[i]? = some u → x.rel (nF w F fp M'.w) M'.w g u ∧ (∀ fn, x = .o fn → u.oneCell' = true) := by
      refine ⟨γ, _, g, M'.fp b, rfl, ⟨h2.below, (p γ).stable _ _ _ _ _ _ o3 (fun k hk => ⟨hF' k hk, rfl⟩) (fun _ _ => rfl), o2, fun k hk => ⟨(o4 k hk).1, (o4 k hk).2.1⟩⟩, rfl, fun i x u hx hu => ?_⟩
      match i with
      | 0 => simp at hx hu; subst hx; subst hu; exact hone _ _ _ s2 q4
      | 1 => simp at hx hu; subst hx; subst hu; exact hone _ _ _ s4 q5
      | i + 2 => simp at hx
    rcases he with rfl | rfl
    · exact ⟨h2.defs, _, hres, key⟩
    · exact ⟨h2.defs, _, hres, key⟩
  exact hpost
section
variable {P : Program} {ops : Array Oper} {Q : Exit → St → Prop} {rest : List Oper} {d : Nat} {ty : TypeId} {pos : String} {af : Array Edge} {n : Nat} {env : List (Nat × AV)} {heap : List (Nat × Option AB)} {nx : Nat} {gl : List (Nat × List CV)}
theorem r_callNE {Γ : Type} {f : FuncId} {args : List Operand} {tys : Array TypeId} {ys : List AV} {zs : List CV} {rs : Γ → List OA} {p : Γ → ObjP} (hcon : NConE P gl f zs rs p) (hys : evs ⟨n, env, heap, nx, gl⟩ args = some ys) (hz : cl.clL (fun _ => none) ys zs) (hd : Nat.blt d n = true)
    (h : ∀ γ, AOps P ops Q rest ⟨n, (d, .tup ((rs γ).map (avOf nx))) :: env, (nx, some (.obj (p γ))) :: heap, nx + 1, gl⟩) : AOps P ops Q (⟨some d, .call ⟨.value (.func f), args.toArray, tys⟩, ty, pos, af, none⟩ :: rest) ⟨n, env, heap, nx, gl⟩ := by
  intro base w0 M a hs
  obtain ⟨e1, e2⟩ := evs_get hys
  obtain ⟨e3, e4⟩ := clL_get hz
  refine wl_enter rfl (run_call hcon.1 a M.w) (R := fun v w'' => ∃ γ vs g fp, v = .tuple vs ∧ NPost M.w M.F g (p γ) fp w'' ∧ (rs γ).length = vs.size ∧ ∀ (i : Nat) (x : OA) (u : Value), (rs γ)[i]? = some x → vs[i]? = some u → x.rel (nF M.w M.F fp w'') w'' g u ∧ (∀ fn, x = .o fn → u.oneCell' = true)) (Calls.mono (hcon.2 M.w M.F _ hs.heap.frz (fun g xs hg => ?_) (by simp; omega) (fun i x u hx hu => ?_)) (fun e w'' ⟨γ, vs, g, fp, he, hp, hrc⟩ => ⟨_, he, γ, vs, g, fp, rfl, hp, hrc⟩)) (fun v w'' hR => ?_)
  · have := hs.gl g xs hg
    generalize hq : Value.pointer (some ⟨g, 0, none⟩) = q at this ⊢
    cases this with
    | eptr cs hF hcell hr => exact .eptr cs hF hcell hr
  · have hi : i < args.length := by have := (List.getElem?_eq_some_iff.1 hx).1; omega
    obtain ⟨y, hy⟩ : ∃ y, ys[i]? = some y := ⟨_, List.getElem?_eq_getElem (by omega)⟩
    have hev := hs.ev (e2 i args[i] y (by simp [hi]) hy)
    have hu' : a.eval args[i] = u := by simpa [hi] using hu
    rw [hu'] at hev
    exact cl_rc hs.heap (F' := M.F) (fun _ h => h) (H := fun _ => none) (fun b E s l hb => by cases hb) hev (e4 i y x hy hx)
  · obtain ⟨γ, vs, g, fp, rfl, hp, hlen, hrel⟩ := hR
    obtain ⟨M', h1, h2, h3, h4, h5⟩ := hs.newO hp
    have hra : RA M' (.tup ((rs γ).map (avOf nx))) (.tuple vs) := by
      refine .tup (by simpa using hlen) (fun i x u hx hu => ?_)
      rw [List.getElem?_map, Option.map_eq_some_iff] at hx
      obtain ⟨y, hy, rfl⟩ := hx
      obtain ⟨r1, r2⟩ := hrel i y u hy hu
      rw [← show M.nx = nx from hs.nx]
      exact avOf_ra h3 (by rw [h2, h1]; exact r1) r2
    have := h γ base w0 M' _ (h4.put hd hra)
    rw [← h1]
    exact wpList_monoQ (fun e a w => Lift.ext h5) _ _ _ this
end
end Go.Proofs.Ytdndfncpglfdeaa.Ev
/- Rules of a walk: maps from numbers to numbers, as objects. Nothing here names a program. -/
namespace Go.Proofs.Ytdndfncpglfdeaa.Ev
set_option linter.unusedVariables false
set_option linter.unusedSimpArgs false
open Go.RowKit Go.MapKept
abbrev natV (k : Nat) : Value := .int .i64 (k : Int)
theorem natV_inj {a b : Nat} (h : natV a = natV b) : a = b := by cases h; rfl
theorem isKey_nat (k : Nat) : IsKey (.int .i64) (natV k) := by simp [IsKey]
structure MapIs (es : Array MapEntry) (f : Nat → Option Nat) : Prop where
  nums : ∀ e ∈ es.toList, ∃ a b : Nat, e.key = natV a ∧ e.val = natV b
  nodup : (es.toList.map (·.key)).Nodup
  at_ : ∀ k v, f k = some v ↔ ∃ e ∈ es.toList, e.key = natV k ∧ e.val = natV v
theorem MapIs.keys {es : Array MapEntry} {f : Nat → Option Nat} (h : MapIs es f) : ∀ e ∈ es.toList, IsKey (.int .i64) e.key := fun e he => by
  obtain ⟨a, b, h1, _⟩ := h.nums e he
  rw [h1]; exact isKey_nat a
theorem MapIs.find {es : Array MapEntry} {f : Nat → Option Nat} (h : MapIs es f) (k : Nat) : (Instr.findNow (.int .i64) (natV k) es.toList 0 = some none ∧ f k = none ∧ ∀ x ∈ es.toList, x.key ≠ natV k) ∨ ∃ j e v, Instr.findNow (.int .i64) (natV k) es.toList 0 = some (some (j, natV v)) ∧ es.toList[j]? = some e ∧ e.key = natV k ∧ e.val = natV v ∧ f k = some v := by
  rcases findNow_spec (isKey_nat k) es.toList 0 h.keys with ⟨h1, h2⟩ | ⟨j, e, h1, h2, h3⟩
  · refine .inl ⟨h1, ?_, h2⟩
    cases hf : f k with
    | none => rfl
    | some v =>
      obtain ⟨e, he, hk, _⟩ := (h.at_ k v).1 hf
      exact absurd hk (h2 e he)
  · have hm := List.mem_of_getElem? h2
    obtain ⟨a, b, _, hb⟩ := h.nums e hm
    exact .inr ⟨j, e, b, by rw [h1, hb, Nat.zero_add], h2, h3, hb, (h.at_ k b).2 ⟨e, hm, h3, hb⟩⟩
theorem mapIs_nil : MapIs #[] (fun _ => none) := ⟨fun e h => by simp at h, by simp, fun k v => by simp⟩
def updM (f : Nat → Option Nat) (b : Nat) (x : Option Nat) : Nat → Option Nat := fun k => if k = b then x else f k
theorem nodup_get {es : List MapEntry} (h : (es.map (·.key)).Nodup) {i j : Nat} {x y : MapEntry} (hi : es[i]? = some x) (hj : es[j]? = some y) (he : x.key = y.key) : i = j := by
  have h1 : (es.map (·.key))[i]? = some x.key := by rw [List.getElem?_map, hi]; rfl
  have h2 : (es.map (·.key))[j]? = some x.key := by rw [List.getElem?_map, hj, he]; rfl
  exact (List.getElem?_inj (List.getElem?_eq_some_iff.1 h1).1 h).1 (h1.trans h2.symm)
theorem MapIs.push {es : Array MapEntry} {f : Nat → Option Nat} (h : MapIs es f) {k : Nat} (hk : ∀ x ∈ es.toList, x.key ≠ natV k) (v clock : Nat) : MapIs (es.push { key := natV k, val := natV v, born := clock }) (updM f k (some v)) := by
  refine ⟨fun e he => ?_, ?_, fun k' v' => ?_⟩
  · rw [Array.toList_push, List.mem_append, List.mem_singleton] at he
    rcases he with he | rfl
    · exact h.nums e he
    · exact ⟨k, v, rfl, rfl⟩
  · rw [Array.toList_push, List.map_append, List.nodup_append]
    refine ⟨h.nodup, by simp, fun x hx y hy e => ?_⟩
    simp at hy; subst hy; subst e
    obtain ⟨e, he, hek⟩ := List.mem_map.1 hx
    exact hk e he hek
  · unfold updM
    rw [Array.toList_push]
    by_cases e : k' = k
    · subst e
      rw [if_pos rfl]
      constructor
      · intro hv; cases hv
        exact ⟨_, List.mem_append.2 (.inr (List.mem_singleton.2 rfl)), rfl, rfl⟩
      · rintro ⟨x, hx, h1, h2⟩
        rcases List.mem_append.1 hx with hx | hx
        · exact absurd h1 (hk x hx)
        · rw [List.mem_singleton.1 hx] at h2
          rw [natV_inj h2]
    · rw [if_neg e, h.at_]
      constructor
      · rintro ⟨x, hx, h1, h2⟩; exact ⟨x, List.mem_append.2 (.inl hx), h1, h2⟩
      · rintro ⟨x, hx, h1, h2⟩
        rcases List.mem_append.1 hx with hx | hx
        · exact ⟨x, hx, h1, h2⟩
        · rw [List.mem_singleton.1 hx] at h1
          exact absurd (natV_inj h1).symm e
theorem mem_get {es : List MapEntry} {x : MapEntry} (h : x ∈ es) : ∃ i : Nat, es[i]? = some x := by
  obtain ⟨i, hi, e⟩ := List.mem_iff_getElem.1 h
  exact ⟨i, by rw [List.getElem?_eq_getElem hi, e]⟩
theorem MapIs.modify {es : Array MapEntry} {f : Nat → Option Nat} (h : MapIs es f) {k j : Nat} {e : MapEntry} (hj : es.toList[j]? = some e) (hk : e.key = natV k) (v : Nat) : MapIs (es.modify j (fun e => { e with key := natV k, val := natV v })) (updM f k (some v)) := by
  have hget : ∀ i, (es.modify j (fun e => { e with key := natV k, val := natV v })).toList[i]? = if j = i then some { e with key := natV k, val := natV v } else es.toList[i]? := fun i => by
    rw [Array.getElem?_toList, Array.getElem?_modify]
    by_cases hij : j = i
    · subst hij
      rw [Array.getElem?_toList] at hj
      rw [if_pos rfl, if_pos rfl, hj]; rfl
    · rw [if_neg hij, if_neg hij, Array.getElem?_toList]
  have hmem : ∀ x, x ∈ (es.modify j (fun e => { e with key := natV k, val := natV v })).toList ↔ x = { e with key := natV k, val := natV v } ∨ (x ∈ es.toList ∧ x.key ≠ natV k) := fun x => by
    constructor
    · intro hx
      obtain ⟨i, hi⟩ := mem_get hx
      rw [hget i] at hi
      by_cases hij : j = i
      · rw [if_pos hij] at hi; cases hi; exact .inl rfl
      · rw [if_neg hij] at hi
        exact .inr ⟨List.mem_of_getElem? hi, fun hk' => hij (nodup_get h.nodup hj hi (hk.trans hk'.symm))⟩
    · rintro (rfl | ⟨hx, hne⟩)
      · exact List.mem_of_getElem? (i := j) (by rw [hget, if_pos rfl])
      · obtain ⟨i, hi⟩ := mem_get hx
        refine List.mem_of_getElem? (i := i) ?_
        rw [hget, if_neg (fun hij => ?_)]
        · exact hi
        · subst hij; rw [hj] at hi; cases hi; exact hne hk
  refine ⟨fun x hx => ?_, ?_, fun k' v' => ?_⟩
  · rcases (hmem x).1 hx with rfl | ⟨hx, _⟩
    · exact ⟨k, v, rfl, rfl⟩
    · exact h.nums x hx
  · rw [modify_keys j _ (fun e' he' => by rw [Array.getElem?_toList] at hj; rw [hj] at he'; cases he'; exact hk.symm)]
    exact h.nodup
  · unfold updM
    by_cases e : k' = k
    · subst e
      rw [if_pos rfl]
      constructor
      · intro hv; cases hv
        exact ⟨_, (hmem _).2 (.inl rfl), rfl, rfl⟩
      · rintro ⟨x, hx, h1, h2⟩
        rcases (hmem x).1 hx with rfl | ⟨_, hne⟩
        · rw [natV_inj h2]
        · exact absurd h1 hne
    · rw [if_neg e, h.at_]
      constructor
      · rintro ⟨x, hx, h1, h2⟩; exact ⟨x, (hmem x).2 (.inr ⟨hx, fun h3 => e (natV_inj (h1.symm.trans h3))⟩), h1, h2⟩
      · rintro ⟨x, hx, h1, h2⟩
        rcases (hmem x).1 hx with rfl | ⟨hx, _⟩
        · exact absurd (natV_inj h1).symm e
        · exact ⟨x, hx, h1, h2⟩
theorem MapIs.erase {es : Array MapEntry} {f : Nat → Option Nat} (h : MapIs es f) {k j : Nat} {e : MapEntry} (hj : es.toList[j]? = some e) (hk : e.key = natV k) : MapIs (es.eraseIdxIfInBounds j) (updM f k none) := by
  have hlt : j < es.size := by have := (List.getElem?_eq_some_iff.1 hj).1; simpa using this
  have hl : (es.eraseIdxIfInBounds j).toList = es.toList.eraseIdx j := by
    unfold Array.eraseIdxIfInBounds
    rw [dif_pos hlt, Array.toList_eraseIdx]
  have hmem : ∀ x, x ∈ es.toList.eraseIdx j ↔ x ∈ es.toList ∧ x.key ≠ natV k := fun x => by
    rw [List.mem_eraseIdx_iff_getElem?]
    constructor
    · rintro ⟨i, hne, hi⟩
      exact ⟨List.mem_of_getElem? hi, fun hk' => hne (nodup_get h.nodup hi hj (hk'.trans hk.symm))⟩
    · rintro ⟨hx, hne⟩
      obtain ⟨i, hi⟩ := mem_get hx
      exact ⟨i, fun hij => by subst hij; rw [hj] at hi; cases hi; exact hne hk, hi⟩
  refine ⟨fun x hx => ?_, ?_, fun k' v' => ?_⟩
  · rw [hl] at hx; exact h.nums x ((hmem x).1 hx).1
  · rw [hl]; exact ((List.eraseIdx_sublist _ _).map _).nodup h.nodup
  · rw [hl]
    unfold updM
    by_cases e : k' = k
    · subst e
      rw [if_pos rfl]
      constructor
      · intro hv; cases hv
      · rintro ⟨x, hx, h1, h2⟩
        exact absurd h1 ((hmem x).1 hx).2
    · rw [if_neg e, h.at_]
      constructor
      · rintro ⟨x, hx, h1, h2⟩; exact ⟨x, (hmem x).2 ⟨hx, fun h3 => e (natV_inj (h1.symm.trans h3))⟩, h1, h2⟩
      · rintro ⟨x, hx, h1, h2⟩; exact ⟨x, ((hmem x).1 hx).1, h1, h2⟩
theorem MapIs.erase_none {es : Array MapEntry} {f : Nat → Option Nat} (h : MapIs es f) {k : Nat} (hk : f k = none) : MapIs es (updM f k none) := by
  have : updM f k none = f := by
    funext x; unfold updM; split
    · rename_i e; rw [e, hk]
    · rfl
  rw [this]; exact h
def mapP (f : Nat → Option Nat) : ObjP where
  holds := fun _ w g fp => (∀ k, fp k ↔ k = g) ∧ ∃ es clock, w.heap[g]? = some (.map es clock) ∧ MapIs es f
  stable := fun _ _ _ _ g _ ⟨h1, es, clock, h2, h3⟩ _ hk => ⟨h1, es, clock, (hk g ((h1 g).2 rfl)).trans h2, h3⟩
def mapV (g : Nat) : Value := .map (some g)
def mapTB (P : Program) (t k : Nat) : Bool :=
  match P.underlying t with
  | some (.map k' e) => k' == k && (match P.underlying k with | some (.int .i64) => true | _ => false) && (match P.info? e with | some i => (match i.zero with | some (.int .i64 0) => true | _ => false) | none => false)
  | _ => false
class MapT (P : Program) (t : Nat) (k : outParam Nat) : Prop where
  h : mapTB P t k = true
theorem MapT.out {P : Program} {t k : Nat} (I : MapT P t k) : ∃ e, P.underlying t = some (.map k e) ∧ P.underlying k = some (.int .i64) ∧ ∀ w, (zeroValue e).run P w = .ok (.int .i64 0) w := by
  have h := I.h
  unfold mapTB at h
  split at h
  · rename_i k' e hu
    simp only [Bool.and_eq_true, beq_iff_eq] at h
    obtain ⟨⟨rfl, h2⟩, h3⟩ := h
    refine ⟨e, hu, ?_, ?_⟩
    · split at h2
      · assumption
      · cases h2
    · split at h3
      · rename_i i hi
        split at h3
        · rename_i hz
          intro w
          simp [zeroValue, typeInfo, hi, hz]
        · cases h3
      · cases h3
  · cases h
section
variable {P : Program} {w : World} {g t kt : Nat} {es : Array MapEntry} {clock : Nat} {f : Nat → Option Nat}
theorem run_lookup (I : MapT P t kt) (hb : w.heap[g]? = some (.map es clock)) (h : MapIs es f) (k : Nat) (c : Bool) : (Instr.lookup t (.map (some g)) (natV k) c).run P w = .ok (if c then .tuple #[natV ((f k).getD 0), .bool (f k).isSome] else natV ((f k).getD 0)) w := by
  obtain ⟨e, hu, hk, hz⟩ := I.out
  rcases h.find k with ⟨h1, h2, _⟩ | ⟨j, x, v, h1, _, _, _, h2⟩
  · rw [h2]
    simp [Instr.lookup, run_underlying hu, MapKept.run_getObj_map hb, run_checkKey hk (isKey_nat k), run_findKey hk h1, hz, Result.andThen]
    rfl
  · rw [h2]
    simp [Instr.lookup, run_underlying hu, MapKept.run_getObj_map hb, run_checkKey hk (isKey_nat k), run_findKey hk h1, Result.andThen]
theorem run_update (I : MapT P t kt) (hb : w.heap[g]? = some (.map es clock)) (h : MapIs es f) (k v : Nat) : ∃ es' clock', (Instr.mapUpdate t (.map (some g)) (natV k) (natV v)).run P w = .ok () { w with heap := w.heap.setIfInBounds g (.map es' clock') } ∧ MapIs es' (updM f k (some v)) := by
  obtain ⟨e, hu, hk, hz⟩ := I.out
  rcases h.find k with ⟨h1, _, h3⟩ | ⟨j, x, v', h1, h2, h3, _, _⟩
  · refine ⟨es.push { key := natV k, val := natV v, born := clock }, clock + 1, ?_, h.push h3 v clock⟩
    simp [Instr.mapUpdate, run_underlying hu, MapKept.run_getObj_map hb, run_checkKey hk (isKey_nat k), run_findKey hk h1, run_setObj_map _ hb, Result.andThen]
  · have hj : es[j]? = some x := by simpa using h2
    refine ⟨_, clock, ?_, h.modify h2 h3 v⟩
    simp [Instr.mapUpdate, run_underlying hu, MapKept.run_getObj_map hb, run_checkKey hk (isKey_nat k), run_findKey hk h1, hj, h3, run_keyThatStays (isKey_nat k), run_setObj_map _ hb, Result.andThen]
theorem run_delete (I : MapT P t kt) (hb : w.heap[g]? = some (.map es clock)) (h : MapIs es f) (k : Nat) (ty : TypeId) : ∃ es', (Builtin.delete_ #[t, kt] ty #[.map (some g), natV k]).run P w = .ok (.tuple #[]) { w with heap := w.heap.setIfInBounds g (.map es' clock) } ∧ MapIs es' (updM f k none) := by
  obtain ⟨e, hu, hk, hz⟩ := I.out
  rcases h.find k with ⟨h1, h2, h3⟩ | ⟨j, x, v', h1, h2, h3, _, _⟩
  · refine ⟨es, ?_, h.erase_none h2⟩
    simp [Builtin.delete_, run_underlying hu, MapKept.run_getObj_map hb, run_checkKey hk (isKey_nat k), run_findKey hk h1, run_setObj_map _ hb, Result.andThen]
  · refine ⟨_, ?_, h.erase h2 h3⟩
    simp [Builtin.delete_, run_underlying hu, MapKept.run_getObj_map hb, run_checkKey hk (isKey_nat k), run_findKey hk h1, run_setObj_map _ hb, Result.andThen]
end
section
variable {P : Program} {ops : Array Oper} {Q : Exit → St → Prop} {X : List Oper → St → Prop} {rest : List Oper} {d : Nat} {ty : TypeId} {pos : String} {af : Array Edge} {n : Nat} {env : List (Nat × AV)} {heap : List (Nat × Option AB)} {nx : Nat} {gl : List (Nat × List CV)}
theorem ref_eq {M : Wd} {b g : Nat} {f : Nat → Value} {u : Value} (h : RA M (.ref b f) u) (hm : M.m b = .blk g) : u = f g := by
  cases h with
  | ref h _ => rw [hm] at h; cases h; rfl
theorem r_mapok [W : Walk P X] {t kt b : Nat} {m x : Operand} {f : Nat → Option Nat} {k : Nat} {idx : Int} [I : MapT P t kt] (hm : St.ev ⟨n, env, heap, nx, gl⟩ m = some (.ref b mapV)) (hH : St.H ⟨n, env, heap, nx, gl⟩ b = some (.obj (mapP f))) (hx : St.ev ⟨n, env, heap, nx, gl⟩ x = some (.c (.v (.int .i64 idx)))) (hk : idx = (k : Int)) (hd : Nat.blt d n = true)
    (h : X rest ⟨n, (d, .tup [.c (.v (.int .i64 ((f k).getD 0 : Nat))), .c (.v (.bool (f k).isSome))]) :: env, heap, nx, gl⟩) : X (⟨some d, .lookup t m x true, ty, pos, af, none⟩ :: rest) ⟨n, env, heap, nx, gl⟩ := by
  refine ao_val (st := ⟨n, env, heap, nx, gl⟩) rfl rfl hd (fun _ _ M a hs => ?_) h
  subst hk
  have hxv := (hs.ev (by simp [Op.operands, Call.operands]) hx).bool
  obtain ⟨g, o1, _, ⟨_, es, clock, o3, o4⟩, _⟩ := hs.sim.heap.obj b _ (hs.H _ _ hH)
  have hmv := ref_eq (hs.ev (by simp [Op.operands, Call.operands]) hm) o1
  refine ⟨.tuple #[natV ((f k).getD 0), .bool (f k).isSome], ?_, .tup rfl (fun i x u hx hu => ?_)⟩
  · simp only [execOp, hmv, hxv]
    have := run_lookup I o3 o4 k true
    rw [if_pos rfl] at this
    rw [show mapV g = .map (some g) from rfl]
    simp [this, Result.andThen]
  · match i with
    | 0 => simp at hx hu; subst hx; subst hu; exact .c (.v _)
    | 1 => simp at hx hu; subst hx; subst hu; exact .c (.v _)
    | i + 2 => simp at hx
theorem r_mapget [W : Walk P X] {t kt b : Nat} {m x : Operand} {f : Nat → Option Nat} {k : Nat} {idx : Int} [I : MapT P t kt] (hm : St.ev ⟨n, env, heap, nx, gl⟩ m = some (.ref b mapV)) (hH : St.H ⟨n, env, heap, nx, gl⟩ b = some (.obj (mapP f))) (hx : St.ev ⟨n, env, heap, nx, gl⟩ x = some (.c (.v (.int .i64 idx)))) (hk : idx = (k : Int)) (hd : Nat.blt d n = true)
    (h : X rest ⟨n, (d, .c (.v (.int .i64 ((f k).getD 0 : Nat)))) :: env, heap, nx, gl⟩) : X (⟨some d, .lookup t m x false, ty, pos, af, none⟩ :: rest) ⟨n, env, heap, nx, gl⟩ := by
  refine ao_val (st := ⟨n, env, heap, nx, gl⟩) rfl rfl hd (fun _ _ M a hs => ?_) h
  subst hk
  have hxv := (hs.ev (by simp [Op.operands, Call.operands]) hx).bool
  obtain ⟨g, o1, _, ⟨_, es, clock, o3, o4⟩, _⟩ := hs.sim.heap.obj b _ (hs.H _ _ hH)
  have hmv := ref_eq (hs.ev (by simp [Op.operands, Call.operands]) hm) o1
  refine ⟨natV ((f k).getD 0), ?_, .c (.v _)⟩
  simp only [execOp, hmv, hxv]
  have := run_lookup I o3 o4 k false
  rw [if_neg (by decide)] at this
  rw [show mapV g = .map (some g) from rfl]
  simp [this, Result.andThen]
theorem opost_map {w : World} {F fp : Nat → Prop} {g : Nat} {es es' : Array MapEntry} {clock clock' : Nat} {f f' : Nat → Option Nat} (hb : w.heap[g]? = some (.map es clock)) (hfp : ∀ k, fp k ↔ k = g) (h : MapIs es' f') : OPost w F fp g (mapP f') fp { w with heap := w.heap.setIfInBounds g (.map es' clock') } := by
  have hlt := (Array.getElem?_eq_some_iff.1 hb).1
  refine ⟨rfl, rfl, rfl, by simp, fun k hk hn => ?_, ⟨hfp, es', clock', by simp [hlt], h⟩, (hfp g).2 rfl, fun k hk => ?_⟩
  · have : g ≠ k := fun e => hn ((hfp k).2 e.symm)
    simp [this]
  · have := (hfp k).1 hk; subst this
    exact ⟨by simpa using hlt, .inl hk⟩
theorem r_mapset {t kt b : Nat} {m x y : Operand} {f : Nat → Option Nat} {k v : Nat} {idx val : Int} [I : MapT P t kt] (hm : St.ev ⟨n, env, heap, nx, gl⟩ m = some (.ref b mapV)) (hH : St.H ⟨n, env, heap, nx, gl⟩ b = some (.obj (mapP f))) (hx : St.ev ⟨n, env, heap, nx, gl⟩ x = some (.c (.v (.int .i64 idx)))) (hk : idx = (k : Int)) (hy : St.ev ⟨n, env, heap, nx, gl⟩ y = some (.c (.v (.int .i64 val)))) (hv : val = (v : Int))
    (h : AOps P ops Q rest ⟨n, env, (b, some (.obj (mapP (updM f k (some v))))) :: heap, nx, gl⟩) : AOps P ops Q (⟨none, .mapUpdate t m x y, ty, pos, af, none⟩ :: rest) ⟨n, env, heap, nx, gl⟩ := by
  intro base w0 M a hs
  subst hk; subst hv
  have hxv := (hs.ev hx).bool
  have hyv := (hs.ev hy).bool
  have hbM : M.H b = some (.obj (mapP f)) := by rw [hs.H]; exact hH
  obtain ⟨g, o1, _, ⟨o2, es, clock, o3, o4⟩, _⟩ := hs.heap.obj b _ hbM
  have hmv := ref_eq (hs.ev hm) o1
  obtain ⟨es', clock', r1, r2⟩ := run_update I o3 o4 k v
  obtain ⟨M', h1, _, h3, h4⟩ := hs.changeO hbM o1 (opost_map (F := M.F) (f := f) (clock' := clock') o3 o2 r2)
  refine wl_skip (w' := { M.w with heap := M.w.heap.setIfInBounds g (.map es' clock') }) rfl ?_ ?_
  · simp only [execOp, hmv, hxv, hyv]
    rw [show mapV g = .map (some g) from rfl]
    simp [r1, Result.andThen]
  · rw [← h1]
    exact wpList_monoQ (fun e a w => Lift.ext h4) _ _ _ (h base w0 M' a h3)
theorem r_makemap {t kt : Nat} [I : MapT P t kt] (hd : Nat.blt d n = true)
    (h : AOps P ops Q rest ⟨n, (d, .ref nx mapV) :: env, (nx, some (.obj (mapP (fun _ => none)))) :: heap, nx + 1, gl⟩) : AOps P ops Q (⟨some d, .makeMap t none, ty, pos, af, none⟩ :: rest) ⟨n, env, heap, nx, gl⟩ := by
  intro base w0 M a hs
  have hp : NPost M.w M.F M.w.heap.size (mapP (fun _ => none)) (fun k => k = M.w.heap.size) (M.w.alloc (.map #[] 0)) := by
    refine ⟨⟨rfl, rfl, rfl, by rw [alloc_size]; omega, fun k hk => alloc_heap _ _ _ hk⟩, ⟨fun _ => Iff.rfl, #[], 0, alloc_new _ _, mapIs_nil⟩, rfl, fun k hk => ?_⟩
    subst hk
    exact ⟨Nat.le_refl _, by rw [alloc_size]; omega⟩
  obtain ⟨M', h1, _, h3, h4, h5⟩ := hs.newO hp
  refine wl_value (w' := M.w.alloc (.map #[] 0)) (u := .map (some M.w.heap.size)) rfl ?_ ?_
  · simp [execOp, Instr.makeMap, newObj, Sem.run, Result.andThen]
  · rw [← h1]
    have hn : M.nx = nx := hs.nx
    rw [hn] at h3
    exact wpList_monoQ (fun e a w => Lift.ext h5) _ _ _ (h base w0 M' _ (h4.put hd (.ref (f := mapV) h3 rfl)))
end
end Go.Proofs.Ytdndfncpglfdeaa.Ev
/- Rules of a walk: an object is taken apart into a box and a second object, and put together again. Nothing here names a program. -/
namespace Go.Proofs.Ytdndfncpglfdeaa.Ev
set_option linter.unusedVariables false
set_option linter.unusedSimpArgs false
open Go.RowKit
section
variable {base : Nat} {w0 : W0} {st : St} {M : Wd} {a : Act}
theorem Sim.closeO (hs : Sim base w0 st M a) {b b2 t : Nat} {l : List AV} {p q : ObjP} (hb : st.H b = some (.cells t l)) (hb2 : st.H b2 = some (.obj q)) (hne : b ≠ b2)
    (hp : ∀ (g gm : Nat) (fp2 : Nat → Prop) (arr : Array Value), M.m b = .blk g → M.m b2 = .blk gm → M.w.heap[g]? = some (.cells arr t (0, 0)) → l.length = arr.size → (∀ (i : Nat) (x : AV) (u : Value), l[i]? = some x → arr[i]? = some u → RA M x u) → q.holds M.F M.w gm fp2 → fp2 gm → ¬ fp2 g → p.holds M.F M.w g (fun k => k = g ∨ fp2 k)) :
    ∃ M', M'.w = M.w ∧ Sim base w0 { st with heap := (b, some (.obj p)) :: (b2, none) :: st.heap } M' a ∧ Ext M M' := by
  have hbM : M.H b = some (.cells t l) := by rw [hs.H]; exact hb
  have hb2M : M.H b2 = some (.obj q) := by rw [hs.H]; exact hb2
  obtain ⟨g, arr, c1, c2, c3, c4, c5, c6⟩ := hs.heap.cells b t l hbM
  obtain ⟨gm, t1, t2, t3, t4, t5⟩ := hs.heap.obj b2 _ hb2M
  have hg2 : ¬ M.fp b2 g := fun hf => (t5 b g hne hf).1 (by rw [hbM]; simp) (by rw [c1]; rfl)
  have hold := hp g gm (M.fp b2) arr c1 t1 c4 c5 c6 t3 t2 hg2
  let M' : Wd := { M with H := St.H { st with heap := (b, some (.obj p)) :: (b2, none) :: st.heap }, fp := fun k => if k = b then (fun j => j = g ∨ M.fp b2 j) else M.fp k }
  have hH : ∀ k, M'.H k = if b = k then some (.obj p) else if b2 = k then none else M.H k := fun k => by
    show St.H _ k = _
    unfold St.H
    simp only [look_cons]
    by_cases h1 : b = k
    · rw [if_pos h1, if_pos h1]
    · rw [if_neg h1, if_neg h1]
      by_cases h2 : b2 = k
      · rw [if_pos h2, if_pos h2]
      · rw [if_neg h2, if_neg h2, hs.H]; rfl
  have hold2 : ∀ k, b ≠ k → ∀ x, M'.H k = some x → M.H k = some x ∧ b2 ≠ k := fun k hk x hx => by
    rw [hH, if_neg hk] at hx
    by_cases h2 : b2 = k
    · rw [if_pos h2] at hx; cases hx
    · rw [if_neg h2] at hx; exact ⟨hx, h2⟩
  have hno : ∀ k, M'.H k ≠ none → M.H k ≠ none ∧ b2 ≠ k := fun k hk => by
    by_cases h1 : b = k
    · subst h1; exact ⟨by rw [hbM]; simp, Ne.symm hne⟩
    · obtain ⟨x, hx⟩ := Option.ne_none_iff_exists'.1 hk
      obtain ⟨h2, h3⟩ := hold2 k h1 x hx
      exact ⟨by rw [h2]; simp, h3⟩
  have hext : Ext M M' := ⟨fun _ _ h => h, fun k E size' l' _ hl => by
    by_cases h : b = k
    · rw [hH, if_pos h] at hl; cases hl
    · exact ⟨l', (hold2 k h _ hl).1, Nat.le_refl _, fun _ => rfl⟩, Nat.le_refl _, fun k hk => ⟨hk, rfl⟩⟩
  have hfpb : M'.fp b = (fun j => j = g ∨ M.fp b2 j) := by simp [M']
  have hfpk : ∀ k, b ≠ k → M'.fp k = M.fp k := fun k hk => by simp [M', Ne.symm hk]
  refine ⟨M', rfl, ⟨rfl, hs.nx, hs.n, fun i y hy => ?_, fun g xs hg => (hs.gl g xs hg).mono hext, ⟨?_, ?_, ?_, ?_, hs.heap.fresh, hs.heap.frz, ?_⟩, hs.below, hs.base, hs.defs, hs.old⟩, hext⟩
  · obtain ⟨u, h1, h2⟩ := hs.env i y hy
    exact ⟨u, h1, h2.mono hext⟩
  · intro k t l hl
    have hk : b ≠ k := fun e => by rw [hH, if_pos e] at hl; cases hl
    obtain ⟨g, arr, g1, g2, g3, g4, g5, g6⟩ := hs.heap.cells k t l (hold2 k hk _ hl).1
    exact ⟨g, arr, g1, g2, g3, g4, g5, fun i x u hx hu => (g6 i x u hx hu).mono hext⟩
  · intro k E size l hl
    have hk : b ≠ k := fun e => by rw [hH, if_pos e] at hl; cases hl
    exact hs.heap.vec k E size l (hold2 k hk _ hl).1
  · intro k k' g hkk hk hk'
    exact hs.heap.sep k k' g hkk (hno k hk).1 (hno k' hk').1
  · exact fun k hk => hs.heap.lt k (hno k hk).1
  · intro k x hx
    by_cases hk : b = k
    · subst hk
      rw [hH, if_pos rfl] at hx
      simp only [Option.some.injEq, AB.obj.injEq] at hx; subst hx
      refine ⟨g, c1, by rw [hfpb]; exact .inl rfl, by rw [hfpb]; exact hold, fun c hc => ?_, fun b' c hbb hc => ⟨fun hb' hq => ?_, fun p2 hp2 hf => ?_⟩⟩
      · rw [hfpb] at hc
        rcases hc with rfl | hc
        · exact ⟨c2, (Array.getElem?_eq_some_iff.1 c4).1, c3⟩
        · exact t4 c hc
      · rw [hfpb] at hc
        obtain ⟨n1, n2⟩ := hno b' hb'
        rcases hc with rfl | hc
        · exact hs.heap.sep b b' _ (Ne.symm hbb) (by rw [hbM]; simp) n1 (by rw [c1]; rfl) hq
        · exact (t5 b' c (Ne.symm n2) hc).1 n1 hq
      · rw [hfpb] at hc
        rw [hfpk b' (Ne.symm hbb)] at hf
        obtain ⟨n1, n2⟩ := hold2 b' (Ne.symm hbb) _ hp2
        rcases hc with rfl | hc
        · obtain ⟨_, _, _, _, _, r5⟩ := hs.heap.obj b' p2 n1
          exact (r5 b _ (Ne.symm hbb) hf).1 (by rw [hbM]; simp) (by rw [c1]; rfl)
        · exact (t5 b' c (Ne.symm n2) hc).2 p2 n1 hf
    · obtain ⟨n1, n2⟩ := hold2 k hk _ hx
      obtain ⟨g', e1, e2, e3, e4, e5⟩ := hs.heap.obj k x n1
      rw [hfpk k hk]
      refine ⟨g', e1, e2, e3, e4, fun b' c hbb hc => ⟨fun hb' => (e5 b' c hbb hc).1 (hno b' hb').1, fun p2 hp2 hf => ?_⟩⟩
      by_cases hbe : b = b'
      · subst hbe
        rw [hfpb] at hf
        rcases hf with rfl | hf
        · exact (e5 b _ hbb hc).1 (by rw [hbM]; simp) (by rw [c1]; rfl)
        · exact (e5 b2 c n2 hc).2 _ hb2M hf
      · rw [hfpk b' hbe] at hf
        exact (e5 b' c hbb hc).2 p2 (hold2 b' hbe _ hp2).1 hf
theorem Sim.openO (hs : Sim base w0 st M a) {b t : Nat} {l : List AV} {p q : ObjP} (hb : st.H b = some (.obj p))
    (hp : ∀ (g : Nat) (fp : Nat → Prop), p.holds M.F M.w g fp → ∃ (gm : Nat) (fp2 : Nat → Prop) (arr : Array Value), M.w.heap[g]? = some (.cells arr t (0, 0)) ∧ l.length = arr.size ∧ q.holds M.F M.w gm fp2 ∧ fp gm ∧ fp2 gm ∧ ¬ fp2 g ∧ (∀ k, fp2 k → fp k) ∧ ∀ M' : Wd, M'.m M.nx = .blk gm → M'.F = M.F → M'.w = M.w → ∀ (i : Nat) (x : AV) (u : Value), l[i]? = some x → arr[i]? = some u → RA M' x u) :
    ∃ M', M'.w = M.w ∧ Sim base w0 { st with heap := (b, some (.cells t l)) :: (st.nx, some (.obj q)) :: st.heap, nx := st.nx + 1 } M' a ∧ Ext M M' := by
  have hbM : M.H b = some (.obj p) := by rw [hs.H]; exact hb
  obtain ⟨g, o1, o2, o3, o4, o5⟩ := hs.heap.obj b p hbM
  obtain ⟨gm, fp2, arr, a1, a2, a3, a4, a5, a6, a7, a8⟩ := hp g (M.fp b) o3
  have hbn : b < M.nx := hs.heap.lt b (by rw [hbM]; simp)
  let M' : Wd := { M with m := fun k => if k = M.nx then .blk gm else M.m k, H := St.H { st with heap := (b, some (.cells t l)) :: (st.nx, some (.obj q)) :: st.heap, nx := st.nx + 1 }, nx := M.nx + 1, fp := fun k => if k = M.nx then fp2 else M.fp k }
  have hH : ∀ k, M'.H k = if b = k then some (.cells t l) else if M.nx = k then some (.obj q) else M.H k := fun k => by
    show St.H _ k = _
    unfold St.H
    simp only [look_cons, hs.nx]
    by_cases h1 : b = k
    · rw [if_pos h1, if_pos h1]
    · rw [if_neg h1, if_neg h1]
      by_cases h2 : st.nx = k
      · rw [if_pos h2, if_pos h2]
      · rw [if_neg h2, if_neg h2, hs.H]; rfl
  have hm : M'.m M.nx = .blk gm := by simp [M']
  have hm' : ∀ k, M.nx ≠ k → M'.m k = M.m k := fun k hk => by simp [M', Ne.symm hk]
  have hfp : M'.fp M.nx = fp2 := by simp [M']
  have hfp' : ∀ k, M.nx ≠ k → M'.fp k = M.fp k := fun k hk => by simp [M', Ne.symm hk]
  have hmb : M'.m b = .blk g := by rw [hm' b (by omega)]; exact o1
  have hold : ∀ k, b ≠ k → M.nx ≠ k → ∀ x, M'.H k = some x → M.H k = some x := fun k h1 h2 x hx => by rwa [hH, if_neg h1, if_neg h2] at hx
  have hno : ∀ k, M.nx ≠ k → M'.H k ≠ none → M.H k ≠ none := fun k h2 hk => by
    by_cases h1 : b = k
    · subst h1; rw [hbM]; simp
    · rwa [hH, if_neg h1, if_neg h2] at hk
  have hext : Ext M M' := by
    refine ⟨fun k g' hk => ?_, fun k E size' l' hk hl => ?_, by simp [M'], fun k hk => ⟨hk, rfl⟩⟩
    · rw [hm' k (fun he => hs.heap.fresh k (by omega) g' hk)]; exact hk
    · have h1 : b ≠ k := fun e => by rw [hH, if_pos e] at hl; cases hl
      exact ⟨l', hold k h1 (by omega) _ hl, Nat.le_refl _, fun _ => hm' k (by omega)⟩
  have hgm : g ≠ gm := fun e => a6 (by rw [e]; exact a5)
  refine ⟨M', rfl, ⟨rfl, by show M.nx + 1 = st.nx + 1; rw [hs.nx], hs.n, fun i y hy => ?_, fun g xs hg => (hs.gl g xs hg).mono hext, ⟨?_, ?_, ?_, ?_, ?_, hs.heap.frz, ?_⟩, hs.below, hs.base, hs.defs, hs.old⟩, hext⟩
  · obtain ⟨u, h1, h2⟩ := hs.env i y hy
    exact ⟨u, h1, h2.mono hext⟩
  · intro k t' l' hl
    by_cases h1 : b = k
    · subst h1
      rw [hH, if_pos rfl] at hl
      simp only [Option.some.injEq, AB.cells.injEq] at hl
      obtain ⟨rfl, rfl⟩ := hl
      obtain ⟨r1, r2, r3⟩ := o4 g o2
      exact ⟨g, arr, hmb, r1, r3, a1, a2, a8 M' hm rfl rfl⟩
    · have h2 : M.nx ≠ k := fun e => by rw [hH, if_neg h1, if_pos e] at hl; cases hl
      obtain ⟨g', arr', e1, e2, e3, e4, e5, e6⟩ := hs.heap.cells k t' l' (hold k h1 h2 _ hl)
      exact ⟨g', arr', by rw [hm' k h2]; exact e1, e2, e3, e4, e5, fun i x u hx hu => (e6 i x u hx hu).mono hext⟩
  · intro k E size l' hl
    have h1 : b ≠ k := fun e => by rw [hH, if_pos e] at hl; cases hl
    have h2 : M.nx ≠ k := fun e => by rw [hH, if_neg h1, if_pos e] at hl; cases hl
    obtain ⟨v, n, cs, e1, e2⟩ := hs.heap.vec k E size l' (hold k h1 h2 _ hl)
    exact ⟨v, n, cs, by rw [hm' k h2]; exact e1, e2⟩
  · intro k k' q' hkk hk hk' hq hq'
    by_cases h1 : M.nx = k
    · subst h1
      rw [hm] at hq
      simp only [Conc.block, Option.some.injEq] at hq; subst hq
      rw [hm' k' hkk] at hq'
      by_cases h2 : b = k'
      · subst h2
        rw [o1] at hq'
        simp only [Conc.block, Option.some.injEq] at hq'
        exact hgm hq'
      · exact (o5 k' _ (Ne.symm h2) a4).1 (hno k' hkk hk') hq'
    · by_cases h2 : M.nx = k'
      · subst h2
        rw [hm] at hq'
        simp only [Conc.block, Option.some.injEq] at hq'; subst hq'
        rw [hm' k h1] at hq
        by_cases h3 : b = k
        · subst h3
          rw [o1] at hq
          simp only [Conc.block, Option.some.injEq] at hq
          exact hgm hq
        · exact (o5 k _ (Ne.symm h3) a4).1 (hno k h1 hk) hq
      · rw [hm' k h1] at hq
        rw [hm' k' h2] at hq'
        exact hs.heap.sep k k' q' hkk (hno k h1 hk) (hno k' h2 hk') hq hq'
  · intro k hk
    show k < M.nx + 1
    by_cases h1 : M.nx = k
    · omega
    · have := hs.heap.lt k (hno k h1 hk); omega
  · intro k hk g'
    have hk : M.nx + 1 ≤ k := hk
    rw [hm' k (by omega)]
    exact hs.heap.fresh k (by omega) g'
  · intro k x hx
    have h1 : b ≠ k := fun e => by rw [hH, if_pos e] at hx; cases hx
    by_cases hk : M.nx = k
    · subst hk
      rw [hH, if_neg h1, if_pos rfl] at hx
      simp only [Option.some.injEq, AB.obj.injEq] at hx; subst hx
      refine ⟨gm, hm, by rw [hfp]; exact a5, by rw [hfp]; exact a3, fun c hc => ?_, fun b' c hbb hc => ⟨fun hb' hq => ?_, fun p2 hp2 hf => ?_⟩⟩
      · rw [hfp] at hc; exact o4 c (a7 c hc)
      · rw [hfp] at hc
        rw [hm' b' (Ne.symm hbb)] at hq
        by_cases h3 : b = b'
        · subst h3
          rw [o1] at hq
          simp only [Conc.block, Option.some.injEq] at hq; subst hq
          exact a6 hc
        · exact (o5 b' c (Ne.symm h3) (a7 c hc)).1 (hno b' (Ne.symm hbb) hb') hq
      · rw [hfp] at hc
        rw [hfp' b' (Ne.symm hbb)] at hf
        have h3 : b ≠ b' := fun e => by rw [hH, if_pos e] at hp2; cases hp2
        exact (o5 b' c (Ne.symm h3) (a7 c hc)).2 p2 (hold b' h3 (Ne.symm hbb) _ hp2) hf
    · have hxo := hold k h1 hk _ hx
      obtain ⟨g', e1, e2, e3, e4, e5⟩ := hs.heap.obj k x hxo
      rw [hfp' k hk]
      refine ⟨g', by rw [hm' k hk]; exact e1, e2, e3, e4, fun b' c hbb hc => ⟨fun hb' hq => ?_, fun p2 hp2 hf => ?_⟩⟩
      · by_cases h3 : M.nx = b'
        · subst h3
          rw [hm] at hq
          simp only [Conc.block, Option.some.injEq] at hq; subst hq
          exact (e5 b _ h1 hc).2 _ hbM a4
        · rw [hm' b' h3] at hq
          exact (e5 b' c hbb hc).1 (hno b' h3 hb') hq
      · by_cases h3 : M.nx = b'
        · subst h3
          rw [hfp] at hf
          exact (e5 b c h1 hc).2 _ hbM (a7 c hf)
        · rw [hfp' b' h3] at hf
          have h4 : b ≠ b' := fun e => by rw [hH, if_pos e] at hp2; cases hp2
          exact (e5 b' c hbb hc).2 p2 (hold b' h4 h3 _ hp2) hf
end
end Go.Proofs.Ytdndfncpglfdeaa.Ev
/- Rules of a walk: loops whose rounds make new memory in place of the old one: blocks get other names. Nothing here names a program. -/
namespace Go.Proofs.Ytdndfncpglfdeaa.Ev
set_option linter.unusedVariables false
set_option linter.unusedSimpArgs false
open Go.RowKit
def renA (π : List (Nat × Nat)) (b : Nat) : Nat := match look b π with | some c => c | none => b
def AV.ren (π : List (Nat × Nat)) : AV → AV
  | .c x => .c x
  | .agg xs => .agg (renL π xs)
  | .tup xs => .tup (renL π xs)
  | .ptr b off => .ptr (renA π b) off
  | .vec b n => .vec (renA π b) n
  | .vptr b n off => .vptr (renA π b) n off
  | .eptr xs off => .eptr xs off
  | .fn f xs => .fn f (renL π xs)
  | .ghost b n v => .ghost (renA π b) n v
  | .ref b f => .ref (renA π b) f
where renL (π : List (Nat × Nat)) : List AV → List AV
  | [] => []
  | x :: l => AV.ren π x :: renL π l
theorem renL_len {π : List (Nat × Nat)} : ∀ (xs : List AV), (AV.ren.renL π xs).length = xs.length
  | [] => rfl
  | _ :: l => by simp only [AV.ren.renL, List.length_cons]; rw [renL_len l]
theorem renL_get {π : List (Nat × Nat)} : ∀ {xs : List AV} {i : Nat} {x : AV}, xs[i]? = some x → (AV.ren.renL π xs)[i]? = some (x.ren π)
  | [], i, x, h => by simp at h
  | y :: l, 0, x, h => by simp at h; subst h; rfl
  | y :: l, i + 1, x, h => renL_get (xs := l) (by simpa using h)
def abRen (π : List (Nat × Nat)) : AB → AB
  | .cells t l => .cells t (AV.ren.renL π l)
  | .vec E size l => .vec E size l
  | .obj p => .obj p
structure Ren (π : List (Nat × Nat)) (nx0 : Nat) (s s' : St) : Prop where
  n : s'.n = s.n
  gl : s'.gl = s.gl
  lo : nx0 ≤ s'.nx
  id : ∀ b, b < nx0 → renA π b = b
  env : ∀ i x, look i s'.env = some x → look i s.env = some (x.ren π) ∧ AV.lt s'.nx x = true
  heap : ∀ b x, s'.H b = some x → s.H (renA π b) = some (abRen π x) ∧ b < s'.nx ∧ abLt s'.nx x = true
  inj : ∀ b b', s'.H b ≠ none → s'.H b' ≠ none → renA π b = renA π b' → b = b'
def Wd.ren (M : Wd) (π : List (Nat × Nat)) (s : St) : Wd := { m := fun b => if b < s.nx then M.m (renA π b) else .row undef, H := s.H, nx := s.nx, F := M.F, w := M.w, fp := fun b => M.fp (renA π b) }
theorem RA.ren {M : Wd} {π : List (Nat × Nat)} {nx0 : Nat} {s s' : St} (hH : M.H = s.H) (hw : Ren π nx0 s s') {y : AV} {u : Value} (h : RA M y u) : ∀ x, x.ren π = y → AV.lt s'.nx x = true → RA (M.ren π s') x u := by
  have hv : ∀ b E size l, s'.H b = some (.vec E size l) → M.H (renA π b) = some (.vec E size l) := fun b E size l hl => by
    rw [hH]; exact (hw.heap b _ hl).1
  have hm : ∀ b, b < s'.nx → (M.ren π s').m b = M.m (renA π b) := fun b hb => by simp only [Wd.ren]; rw [if_pos hb]
  induction h with
  | c h => intro x hx hlt; cases x <;> simp only [AV.ren] at hx <;> cases hx; exact .c h
  | agg hl _ ih =>
    intro x hx hlt
    cases x <;> simp only [AV.ren] at hx <;> cases hx
    exact .agg (by rw [← hl, renL_len]) (fun i x u h1 h2 => ih i _ u (renL_get h1) h2 x rfl (ltL_get hlt i x h1))
  | tup hl _ ih =>
    intro x hx hlt
    cases x <;> simp only [AV.ren] at hx <;> cases hx
    exact .tup (by rw [← hl, renL_len]) (fun i x u h1 h2 => ih i _ u (renL_get h1) h2 x rfl (ltL_get hlt i x h1))
  | fn hl _ ih =>
    intro x hx hlt
    cases x <;> simp only [AV.ren] at hx <;> cases hx
    exact .fn (by rw [← hl, renL_len]) (fun i x u h1 h2 => ih i _ u (renL_get h1) h2 x rfl (ltL_get hlt i x h1))
  | ptr hb =>
    intro x hx hlt
    cases x <;> simp only [AV.ren] at hx <;> cases hx
    exact .ptr (by rw [hm _ (blt_true hlt)]; exact hb)
  | vec hb ho h =>
    intro x hx hlt
    cases x <;> simp only [AV.ren] at hx <;> cases hx
    have hlt := blt_true hlt
    refine .vec hlt ho (fun E size l hl => ?_)
    obtain ⟨h1, h2⟩ := h E size l (hv _ _ _ _ hl)
    exact ⟨h1, fun hh => by rw [hm _ hlt]; exact h2 hh⟩
  | vptr hb ho h =>
    intro x hx hlt
    cases x <;> simp only [AV.ren] at hx <;> cases hx
    have hlt := blt_true hlt
    refine .vptr hlt ho (fun E size l hl => ?_)
    obtain ⟨h1, h2⟩ := h E size l (hv _ _ _ _ hl)
    exact ⟨h1, fun hh => by rw [hm _ hlt]; exact h2 hh⟩
  | eptr cs hF hcell hr => intro x hx hlt; cases x <;> simp only [AV.ren] at hx <;> cases hx; exact .eptr cs hF hcell hr
  | ghost hb ho h =>
    intro x hx hlt
    cases x <;> simp only [AV.ren] at hx <;> cases hx
    have hlt := blt_true hlt
    refine .ghost hlt ho (fun E size l hl => ?_)
    obtain ⟨h1, h2⟩ := h E size l (hv _ _ _ _ hl)
    exact ⟨h1, fun hh => by rw [hm _ hlt]; exact h2 hh⟩
  | ref hb ho =>
    intro x hx hlt
    cases x <;> simp only [AV.ren] at hx <;> cases hx
    exact .ref (by rw [hm _ (blt_true hlt)]; exact hb) ho
theorem Sim.ren {base : Nat} {w0 : W0} {π : List (Nat × Nat)} {nx0 : Nat} {s s' : St} {M : Wd} {a : Act} (h : Sim base w0 s M a) (hw : Ren π nx0 s s') : Sim base w0 s' (M.ren π s') a := by
  have hget : ∀ b x, s'.H b = some x → M.H (renA π b) = some (abRen π x) ∧ b < s'.nx ∧ abLt s'.nx x = true := fun b x hx => by
    rw [h.H]; exact hw.heap b x hx
  have hne : ∀ b, s'.H b ≠ none → M.H (renA π b) ≠ none ∧ b < s'.nx := fun b hb => by
    cases hx : s'.H b with
    | none => exact absurd hx hb
    | some x => exact ⟨by rw [(hget b x hx).1]; simp, (hget b x hx).2.1⟩
  have hm : ∀ b, b < s'.nx → (M.ren π s').m b = M.m (renA π b) := fun b hb => by simp only [Wd.ren]; rw [if_pos hb]
  have hdiff : ∀ b b', b ≠ b' → s'.H b ≠ none → s'.H b' ≠ none → renA π b ≠ renA π b' := fun b b' hbb h1 h2 e => hbb (hw.inj b b' h1 h2 e)
  refine ⟨rfl, rfl, by rw [h.n, hw.n], fun i x hx => ?_, fun g xs hg => ?_, ⟨?_, ?_, ?_, ?_, ?_, h.heap.frz, ?_⟩, h.below, h.base, h.defs, h.old⟩
  · obtain ⟨h1, h2⟩ := hw.env i x hx
    obtain ⟨v, h3, h4⟩ := h.env i _ h1
    exact ⟨v, h3, h4.ren h.H hw x rfl h2⟩
  · rw [hw.gl] at hg
    exact (h.gl g xs hg).ren h.H hw (.eptr xs 0) rfl rfl
  · intro b t l hl
    obtain ⟨h1, h2, h3⟩ := hget b _ hl
    obtain ⟨g, arr, e1, e2, e3, e4, e5, e6⟩ := h.heap.cells _ t _ h1
    exact ⟨g, arr, by rw [hm b h2]; exact e1, e2, e3, e4, by rw [← e5, renL_len], fun i x u hx hu => (e6 i _ u (renL_get hx) hu).ren h.H hw x rfl (ltL_get h3 i x hx)⟩
  · intro b E size l hl
    obtain ⟨h1, h2, h3⟩ := hget b _ hl
    obtain ⟨v, n, cs, e1, e2⟩ := h.heap.vec _ E size l h1
    exact ⟨v, n, cs, by rw [hm b h2]; exact e1, e2⟩
  · intro b b' g hbb hb hb'
    obtain ⟨h1, h2⟩ := hne b hb
    obtain ⟨h1', h2'⟩ := hne b' hb'
    rw [hm b h2, hm b' h2']
    exact h.heap.sep _ _ g (hdiff b b' hbb hb hb') h1 h1'
  · exact fun b hb => (hne b hb).2
  · intro b hb g
    simp only [Wd.ren] at hb ⊢
    rw [if_neg (by omega)]
    simp
  · intro b p hp
    obtain ⟨h1, h2, _⟩ := hget b _ hp
    obtain ⟨g, e1, e2, e3, e4, e5⟩ := h.heap.obj _ p h1
    have hb0 : s'.H b ≠ none := by rw [show s'.H b = some (.obj p) from hp]; simp
    refine ⟨g, by rw [hm b h2]; exact e1, e2, e3, e4, fun b' k hbb hk => ⟨fun hb' => ?_, fun p' hp' => ?_⟩⟩
    · obtain ⟨h3, h4⟩ := hne b' hb'
      rw [hm b' h4]
      exact (e5 _ k (hdiff b' b hbb hb' hb0) hk).1 h3
    · have hb' : s'.H b' ≠ none := by rw [show s'.H b' = some (.obj p') from hp']; simp
      exact (e5 _ k (hdiff b' b hbb hb' hb0) hk).2 p' (hget b' _ hp').1
theorem Ext.ren {M0 M : Wd} {π : List (Nat × Nat)} {s s' : St} (h : Ext M0 M) (hf : ∀ b, M0.nx ≤ b → ∀ g, M0.m b ≠ .blk g) (hH : M.H = s.H) (hw : Ren π M0.nx s s') : Ext M0 (M.ren π s') where
  m := fun b g hb => by
    have hlt : b < M0.nx := by
      rcases Nat.lt_or_ge b M0.nx with hc | hc
      · exact hc
      · exact absurd hb (hf b hc g)
    have := hw.lo
    simp only [Wd.ren]; rw [if_pos (by omega), hw.id b hlt]; exact h.m b g hb
  v := fun b E size l' hb hl => by
    have h1 : M.H b = some (.vec E size l') := by
      have := (hw.heap b _ hl).1
      rw [hw.id b hb] at this
      rw [hH]; exact this
    obtain ⟨l, e1, e2, e3⟩ := h.v b E size l' hb h1
    have := hw.lo
    exact ⟨l, e1, e2, fun hh => by simp only [Wd.ren]; rw [if_pos (by omega), hw.id b hb]; exact e3 hh⟩
  nx := hw.lo
  F := h.F
section
variable {P : Program}
theorem aw_loopR (I : Nat → St → Prop) {c : Code} {Q : Exit → St → Prop} {st : St} (n0 : Nat) (h0 : ∃ s π, I n0 s ∧ Ren π st.nx st s)
    (round : ∀ n s, I n s → Awp P c (thn (fun st' => ∃ n' s' π, n' < n ∧ I n' s' ∧ Ren π st.nx st' s') Q) s) : Awp P (.loop c) Q st := by
  intro base w0 M a hs
  let J : Act → World → Nat → Prop := fun a' w' n => ∃ M' s, I n s ∧ M'.w = w' ∧ Sim base w0 s M' a' ∧ Ext M M'
  have hμ : ∃ μ : Act → World → Nat, ∀ a' w' n, J a' w' n → J a' w' (μ a' w') ∧ μ a' w' ≤ n := by
    refine ⟨fun a' w' => @dite _ (∃ n, J a' w' n) (Classical.propDecidable _) (fun h => Classical.choose (least (J := J a' w') _ (Classical.choose_spec h))) (fun _ => 0), fun a' w' n hn => ?_⟩
    have hex : ∃ n, J a' w' n := ⟨n, hn⟩
    simp only [dif_pos hex]
    have hsp := Classical.choose_spec (least (J := J a' w') _ (Classical.choose_spec hex))
    exact ⟨hsp.1, hsp.2 n hn⟩
  obtain ⟨μ, hμ⟩ := hμ
  have hnx := hs.nx
  refine wp_loop (fun a' w' => ∃ n, J a' w' n) μ ?_ ?_
  · obtain ⟨s, π, h1, h2⟩ := h0
    rw [← hnx] at h2
    exact ⟨n0, M.ren π s, s, h1, rfl, hs.ren h2, (Ext.refl M).ren hs.heap.fresh hs.H h2⟩
  · rintro a' w' ⟨n, hn⟩
    obtain ⟨⟨M', s, h1, h2, h3, h4⟩, _⟩ := hμ a' w' n hn
    subst h2
    refine wp_mono (round _ s h1 base w0 M' a' h3) ?_
    intro e a'' w'' ⟨M'', st', g1, g2, g3, g4⟩
    cases e with
    | normal =>
      obtain ⟨n', s', π, j1, j2, j3⟩ := g4
      rw [← hnx] at j3
      have hJ : J a'' w'' n' := ⟨M''.ren π s', s', j2, g1, g2.ren j3, (h4.trans g3).ren hs.heap.fresh g2.H j3⟩
      exact ⟨⟨n', hJ⟩, Nat.lt_of_le_of_lt (hμ a'' w'' n' hJ).2 j1⟩
    | _ => exact ⟨M'', st', g1, g2, h4.trans g3, g4⟩
end
def EnvR (π : List (Nat × Nat)) (s : St) (nx : Nat) : List (Nat × AV) → Prop
  | [] => True
  | (i, x) :: l => look i s.env = some (x.ren π) ∧ AV.lt nx x = true ∧ EnvR π s nx l
def HeapR (π : List (Nat × Nat)) (s : St) (nx : Nat) : List (Nat × Option AB) → Prop
  | [] => True
  | (i, some x) :: l => s.H (renA π i) = some (abRen π x) ∧ Nat.blt i nx = true ∧ abLt nx x = true ∧ HeapR π s nx l
  | (_, none) :: _ => False
theorem EnvR.get {π : List (Nat × Nat)} {s : St} {nx : Nat} : ∀ {l : List (Nat × AV)}, EnvR π s nx l → ∀ i x, look i l = some x → look i s.env = some (x.ren π) ∧ AV.lt nx x = true
  | [], _, i, x, h => by simp [look] at h
  | (j, y) :: l, ⟨h1, h2, h3⟩, i, x, h => by
    rw [look_cons] at h
    split at h
    · rename_i hj; subst hj; simp only [Option.some.injEq] at h; subst h; exact ⟨h1, h2⟩
    · exact EnvR.get h3 i x h
theorem HeapR.get {π : List (Nat × Nat)} {s : St} {nx : Nat} : ∀ {l : List (Nat × Option AB)}, HeapR π s nx l → ∀ i x, look i l = some (some x) → s.H (renA π i) = some (abRen π x) ∧ i < nx ∧ abLt nx x = true
  | [], _, i, x, h => by simp [look] at h
  | (j, some y) :: l, ⟨h1, h0, h2, h3⟩, i, x, h => by
    rw [look_cons] at h
    split at h
    · rename_i hj; subst hj; simp only [Option.some.injEq] at h; subst h; exact ⟨h1, blt_true h0, h2⟩
    · exact HeapR.get h3 i x h
theorem envR_nil {π : List (Nat × Nat)} {s : St} {nx : Nat} : EnvR π s nx [] := trivial
theorem envR_cons {π : List (Nat × Nat)} {s : St} {nx i : Nat} {x : AV} {l : List (Nat × AV)} (h1 : look i s.env = some (x.ren π)) (h2 : AV.lt nx x = true) (h3 : EnvR π s nx l) : EnvR π s nx ((i, x) :: l) := ⟨h1, h2, h3⟩
theorem heapR_nil {π : List (Nat × Nat)} {s : St} {nx : Nat} : HeapR π s nx [] := trivial
theorem heapR_cons {π : List (Nat × Nat)} {s : St} {nx i : Nat} {x : AB} {l : List (Nat × Option AB)} (h1 : s.H (renA π i) = some (abRen π x)) (h0 : Nat.blt i nx = true) (h2 : abLt nx x = true) (h3 : HeapR π s nx l) : HeapR π s nx ((i, some x) :: l) := ⟨h1, h0, h2, h3⟩
theorem look_mem {α : Type} {k : Nat} {x : α} : ∀ {l : List (Nat × α)}, look k l = some x → k ∈ l.map Prod.fst
  | [], h => by simp [look] at h
  | (j, y) :: l, h => by
    rw [look_cons] at h
    split at h
    · rename_i hj; subst hj; simp
    · exact List.mem_cons_of_mem _ (look_mem h)
def freshK (π : List (Nat × Nat)) (k : Nat) : List (Nat × Option AB) → Bool
  | [] => true
  | (j, _) :: l => !(Nat.beq (renA π k) (renA π j)) && freshK π k l
def distK (π : List (Nat × Nat)) : List (Nat × Option AB) → Bool
  | [] => true
  | (k, _) :: l => freshK π k l && distK π l
theorem freshK_ne {π : List (Nat × Nat)} {k : Nat} : ∀ {l : List (Nat × Option AB)}, freshK π k l = true → ∀ j ∈ l.map Prod.fst, renA π k ≠ renA π j
  | [], _, j, h => by cases h
  | (i, x) :: l, hf, j, h => by
    simp only [freshK, Bool.and_eq_true, Bool.not_eq_true'] at hf
    rcases List.mem_cons.1 h with rfl | h
    · exact beq_false hf.1
    · exact freshK_ne hf.2 j h
theorem distK_inj {π : List (Nat × Nat)} : ∀ {l : List (Nat × Option AB)}, distK π l = true → ∀ i ∈ l.map Prod.fst, ∀ j ∈ l.map Prod.fst, renA π i = renA π j → i = j
  | [], _, i, h, _, _, _ => by cases h
  | (k, x) :: l, hd, i, hi, j, hj, e => by
    simp only [distK, Bool.and_eq_true] at hd
    rcases List.mem_cons.1 hi with hi1 | hi1
    · rcases List.mem_cons.1 hj with hj1 | hj1
      · rw [hi1, hj1]
      · have hi1 : i = k := hi1
        rw [hi1] at e
        exact absurd e (freshK_ne hd.1 j hj1)
    · rcases List.mem_cons.1 hj with hj1 | hj1
      · have hj1 : j = k := hj1
        rw [hj1] at e
        exact absurd e.symm (freshK_ne hd.1 i hi1)
      · exact distK_inj hd.2 i hi1 j hj1 e
theorem renA_id {π : List (Nat × Nat)} {nx0 : Nat} (hid : π.all (fun x => Nat.ble nx0 x.1) = true) {b : Nat} (hb : b < nx0) : renA π b = b := by
  unfold renA
  cases hl : look b π with
  | none => rfl
  | some c =>
    obtain ⟨x, hx, hxe⟩ := List.mem_map.1 (look_mem hl)
    have := Nat.le_of_ble_eq_true (List.all_eq_true.1 hid x hx)
    omega
theorem ren_mk {n : Nat} {env env' : List (Nat × AV)} {heap heap' : List (Nat × Option AB)} {nx nx' nx0 : Nat} {gl : List (Nat × List CV)} (π : List (Nat × Nat)) (h : Nat.ble nx0 nx' = true) (hid : π.all (fun x => Nat.ble nx0 x.1) = true) (hin : distK π heap' = true) (he : EnvR π ⟨n, env, heap, nx, gl⟩ nx' env') (hh : HeapR π ⟨n, env, heap, nx, gl⟩ nx' heap') : Ren π nx0 ⟨n, env, heap, nx, gl⟩ ⟨n, env', heap', nx', gl⟩ := by
  refine ⟨rfl, rfl, Nat.le_of_ble_eq_true h, fun b hb => renA_id hid hb, fun i x hx => EnvR.get he i x hx, fun b x hx => HeapR.get hh b x (St.H_some hx), fun b b' h1 h2 e => ?_⟩
  obtain ⟨x, hx⟩ := Option.ne_none_iff_exists'.1 h1
  obtain ⟨y, hy⟩ := Option.ne_none_iff_exists'.1 h2
  exact distK_inj hin b (look_mem (St.H_some hx)) b' (look_mem (St.H_some hy)) e
theorem ren_mkF {n : Nat} {env env' : List (Nat × AV)} {heap heap' : List (Nat × Option AB)} {nx nx' nx0 : Nat} {gl : List (Nat × List CV)} {fr : Option AB} (hfr : ∀ x, fr = some x → ∃ p, x = .obj p) (π : List (Nat × Nat)) (h : Nat.ble nx0 nx' = true) (h1 : Nat.blt 1 nx' = true) (h2 : Nat.blt 1 nx0 = true) (hid : π.all (fun x => Nat.ble nx0 x.1) = true) (hin : distK π ((1, none) :: heap') = true) (hl : look 1 heap = some fr) (he : EnvR π ⟨n, env, heap, nx, gl⟩ nx' env') (hh : HeapR π ⟨n, env, heap, nx, gl⟩ nx' heap') : Ren π nx0 ⟨n, env, heap, nx, gl⟩ ⟨n, env', (1, fr) :: heap', nx', gl⟩ := by
  have h11 : renA π 1 = 1 := renA_id hid (blt_true h2)
  have hmem : ∀ b, St.H ⟨n, env', (1, fr) :: heap', nx', gl⟩ b ≠ none → b ∈ ((1, (none : Option AB)) :: heap').map Prod.fst := fun b hb => by
    obtain ⟨x, hx⟩ := Option.ne_none_iff_exists'.1 hb
    exact look_mem (l := (1, fr) :: heap') (St.H_some hx)
  refine ⟨rfl, rfl, Nat.le_of_ble_eq_true h, fun b hb => renA_id hid hb, fun i x hx => EnvR.get he i x hx, fun b x hx => ?_, fun b b' h1 h2 e => distK_inj hin b (hmem b h1) b' (hmem b' h2) e⟩
  by_cases hb : 1 = b
  · subst hb
    have hx1 : St.H ⟨n, env', (1, fr) :: heap', nx', gl⟩ 1 = fr := by
      unfold St.H; rw [look_cons, if_pos rfl]; cases fr <;> rfl
    rw [hx1] at hx
    obtain ⟨p, rfl⟩ := hfr x hx
    refine ⟨?_, blt_true h1, rfl⟩
    rw [h11]
    unfold St.H
    rw [hl, hx]; rfl
  · refine HeapR.get hh b x (St.H_some (s := ⟨n, env', heap', nx', gl⟩) ?_)
    unfold St.H at hx ⊢
    rw [look_cons, if_neg hb] at hx
    exact hx
theorem aw_loopRG {P : Program} {c : Code} {Q : Exit → St → Prop} {n : Nat} {env : List (Nat × AV)} {heap : List (Nat × Option AB)} {nx : Nat} {gl : List (Nat × List CV)} {G : Type} (inv : G → Prop) (μ : G → Nat) (E : G → List (Nat × AV)) (Hp : G → List (Nat × Option AB)) (X : Nat) (g0 : G) (h0 : inv g0) (π0 : List (Nat × Nat))
    (hw : Ren π0 nx ⟨n, env, heap, nx, gl⟩ ⟨n, E g0, Hp g0, X, gl⟩)
    (round : ∀ g, inv g → Awp P c (thn (fun st' => ∃ g' π, μ g' < μ g ∧ inv g' ∧ Ren π nx st' ⟨n, E g', Hp g', X, gl⟩) Q) ⟨n, E g, Hp g, X, gl⟩) : Awp P (.loop c) Q ⟨n, env, heap, nx, gl⟩ :=
  aw_loopR (fun m st => ∃ g, m = μ g ∧ inv g ∧ st = ⟨n, E g, Hp g, X, gl⟩) (μ g0) ⟨_, π0, ⟨g0, rfl, h0, rfl⟩, hw⟩ (by
    rintro _ _ ⟨g, rfl, hg, rfl⟩
    refine aw_mono (round g hg) fun e st hq => ?_
    cases e with
    | normal =>
      obtain ⟨g', π, h1, h2, h3⟩ := hq
      exact ⟨_, _, π, h1, ⟨g', rfl, h2, rfl⟩, h3⟩
    | _ => exact hq)
end Go.Proofs.Ytdndfncpglfdeaa.Ev
