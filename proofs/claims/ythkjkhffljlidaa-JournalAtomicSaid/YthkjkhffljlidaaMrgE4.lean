/- Ev38 Ev39 Ev40 Ev41 Ev42 Ev43 Ev44 Ev45 Ev48 Ev46: texts laid together. -/
import Derived.Test.YthkjkhffljlidaaMrgE3
/- Rules of a walk: objects at known blocks, objects in two parts, their fields, pointers to them as closed values. Nothing here names a program. -/
namespace Go.Proofs.Ythkjkhffljlidaa.Ev
set_option linter.unusedVariables false
set_option linter.unusedSimpArgs false
open Go.RowKit
def ObjP.at (p : ObjP) (k : Nat) : ObjP where
  holds := fun w g fp => g = k ∧ p.holds w g fp
  stable := fun w w' g fp h hk => ⟨h.1, p.stable w w' g fp h.2 hk⟩
def starP (p : ObjP) (k : Nat) (q : ObjP) : ObjP where
  holds := fun w g fp => ∃ f1 f2 : Nat → Prop, p.holds w g f1 ∧ q.holds w k f2 ∧ f1 g ∧ f2 k ∧ (∀ j, f1 j → ¬ f2 j) ∧ ∀ j, fp j ↔ (f1 j ∨ f2 j)
  stable := fun w w' g fp ⟨f1, f2, h1, h2, h3, h4, h5, h6⟩ hk => ⟨f1, f2, p.stable w w' g f1 h1 (fun j hj => hk j ((h6 j).2 (.inl hj))), q.stable w w' k f2 h2 (fun j hj => hk j ((h6 j).2 (.inr hj))), h3, h4, h5, h6⟩
abbrev ptrV (k off : Nat) : CV := .v (.pointer (some ⟨k, off, none⟩))
def OA.cl (k : Nat) : OA → OA
  | .p => .c (ptrV k 0)
  | .o f => .c (.v (f k))
  | x => x
theorem OA.cl_rel {F : Nat → Prop} {w : World} {g k : Nat} {x : OA} {u : Value} (h : (x.cl k).rel F w g u) : x.rel F w k u := by
  cases x with
  | c x => exact h
  | o f => cases (show RC F w (.v (f k)) u from h); rfl
  | p => cases (show RC F w (ptrV k 0) u from h); rfl
section
variable {P : Program} {gl : List (Nat × List CV)} {f : FuncId} {args : List OA} {Γ : Type}
theorem cl_rels {F : Nat → Prop} {w : World} {g k : Nat} {vals : Array Value} (h : ∀ (i : Nat) (x : OA) (u : Value), (args.map (OA.cl k))[i]? = some x → vals[i]? = some u → x.rel F w g u) : ∀ (i : Nat) (x : OA) (u : Value), args[i]? = some x → vals[i]? = some u → x.rel F w k u :=
  fun i x u hx hu => OA.cl_rel (h i (x.cl k) u (by rw [List.getElem?_map, hx]; rfl) hu)
theorem OConE.at {p : ObjP} {r : Γ → CV} {p' : Γ → ObjP} (h : OConE P gl f args p r p') (k : Nat) : OConE P gl f (args.map (OA.cl k)) (p.at k) r (fun γ => (p' γ).at k) :=
  ⟨h.1, fun w F fp g vals h1 h2 h3 h4 h5 h6 h7 => by
    obtain ⟨rfl, h3⟩ := h3
    exact (h.2 w F fp g vals h1 h2 h3 h4 h5 (by simpa using h6) (cl_rels h7)).mono fun _ _ ⟨γ, v, fp', a, b, c⟩ => ⟨γ, v, fp', a, ⟨b.os, b.tape, b.output, b.size, b.block, ⟨rfl, b.holds⟩, b.root, b.lt⟩, c⟩⟩
theorem OCon.at {p p' : ObjP} {r : CV} (h : OCon P gl f args p r p') (k : Nat) : OCon P gl f (args.map (OA.cl k)) (p.at k) r (p'.at k) :=
  ⟨h.1, fun w F fp g vals h1 h2 h3 h4 h5 h6 h7 => by
    obtain ⟨rfl, h3⟩ := h3
    exact (h.2 w F fp g vals h1 h2 h3 h4 h5 (by simpa using h6) (cl_rels h7)).mono fun _ _ ⟨v, fp', a, b, c⟩ => ⟨v, fp', a, ⟨b.os, b.tape, b.output, b.size, b.block, ⟨rfl, b.holds⟩, b.root, b.lt⟩, c⟩⟩
theorem OConE.at0 {p : ObjP} {r : Γ → CV} {p' : Γ → ObjP} (h : OConE P gl f args p r p') (k : Nat) : OConE P gl f args (p.at k) r (fun γ => (p' γ).at k) :=
  ⟨h.1, fun w F fp g vals h1 h2 h3 h4 h5 h6 h7 => by
    obtain ⟨rfl, h3⟩ := h3
    exact (h.2 w F fp g vals h1 h2 h3 h4 h5 h6 h7).mono fun _ _ ⟨γ, v, fp', a, b, c⟩ => ⟨γ, v, fp', a, ⟨b.os, b.tape, b.output, b.size, b.block, ⟨rfl, b.holds⟩, b.root, b.lt⟩, c⟩⟩
theorem OCon.at0 {p p' : ObjP} {r : CV} (h : OCon P gl f args p r p') (k : Nat) : OCon P gl f args (p.at k) r (p'.at k) :=
  ⟨h.1, fun w F fp g vals h1 h2 h3 h4 h5 h6 h7 => by
    obtain ⟨rfl, h3⟩ := h3
    exact (h.2 w F fp g vals h1 h2 h3 h4 h5 h6 h7).mono fun _ _ ⟨v, fp', a, b, c⟩ => ⟨v, fp', a, ⟨b.os, b.tape, b.output, b.size, b.block, ⟨rfl, b.holds⟩, b.root, b.lt⟩, c⟩⟩
theorem opost_left {w w' : World} {F fp f1 f2 f1' : Nat → Prop} {g k : Nat} {p' q : ObjP} (hlt : ∀ j, fp j → j < w.heap.size ∧ ¬ F j) (h2 : q.holds w k f2) (h4 : f2 k) (h5 : ∀ j, f1 j → ¬ f2 j) (h6 : ∀ j, fp j ↔ (f1 j ∨ f2 j)) (h : OPost w F f1 g p' f1' w') :
    OPost w F fp g (starP p' k q) (fun j => f1' j ∨ f2 j) w' ∧ ∀ j, oF w F f1 f1' w' j → oF w F fp (fun j => f1' j ∨ f2 j) w' j := by
  have hdis : ∀ j, f1' j → ¬ f2 j := fun j a b => by
    rcases (h.lt j a).2 with c | c
    · exact h5 j c b
    · have := (hlt j ((h6 j).2 (.inr b))).1; omega
  refine ⟨⟨h.os, h.tape, h.output, h.size, fun j a b => h.block j a (fun c => b ((h6 j).2 (.inl c))), ⟨f1', f2, h.holds, q.stable _ _ _ _ h2 (fun j a => h.block j (hlt j ((h6 j).2 (.inr a))).1 (fun c => h5 j c a)), h.root, h4, hdis, fun _ => Iff.rfl⟩, .inl h.root, fun j a => ?_⟩, fun j a => ?_⟩
  · rcases a with a | a
    · refine ⟨(h.lt j a).1, ?_⟩
      rcases (h.lt j a).2 with c | c
      · exact .inl ((h6 j).2 (.inl c))
      · exact .inr c
    · have := (hlt j ((h6 j).2 (.inr a))).1
      exact ⟨Nat.lt_of_lt_of_le this h.size, .inl ((h6 j).2 (.inr a))⟩
  · rcases a with a | ⟨a1, a2, a3⟩
    · exact .inl a
    · refine .inr ⟨a1, fun c => ?_, ?_⟩
      · rcases c with c | c
        · exact a2 c
        · rcases a3 with d | d
          · exact h5 j d c
          · have := (hlt j ((h6 j).2 (.inr c))).1; omega
      · rcases a3 with d | d
        · exact .inl ((h6 j).2 (.inl d))
        · exact .inr d
theorem OConE.left {p : ObjP} {r : Γ → CV} {p' : Γ → ObjP} (h : OConE P gl f args p r p') (k : Nat) (q : ObjP) : OConE P gl f args (starP p k q) r (fun γ => starP (p' γ) k q) :=
  ⟨h.1, fun w F fp g vals h1 h2 ⟨f1, f2, s1, s2, s3, s4, s5, s6⟩ h4 h5 h6 h7 =>
    (h.2 w F f1 g vals h1 h2 s1 s3 (fun j hj => h5 j ((s6 j).2 (.inl hj))) h6 h7).mono fun _ _ ⟨γ, v, fp', a, b, c⟩ =>
      ⟨γ, v, _, a, (opost_left h5 s2 s4 s5 s6 b).1, c.mono fun j hj => ⟨(opost_left h5 s2 s4 s5 s6 b).2 j hj, rfl⟩⟩⟩
theorem OCon.left {p p' : ObjP} {r : CV} (h : OCon P gl f args p r p') (k : Nat) (q : ObjP) : OCon P gl f args (starP p k q) r (starP p' k q) :=
  ⟨h.1, fun w F fp g vals h1 h2 ⟨f1, f2, s1, s2, s3, s4, s5, s6⟩ h4 h5 h6 h7 =>
    (h.2 w F f1 g vals h1 h2 s1 s3 (fun j hj => h5 j ((s6 j).2 (.inl hj))) h6 h7).mono fun _ _ ⟨v, fp', a, b, c⟩ =>
      ⟨v, _, a, (opost_left h5 s2 s4 s5 s6 b).1, c.mono fun j hj => ⟨(opost_left h5 s2 s4 s5 s6 b).2 j hj, rfl⟩⟩⟩
theorem opost_right {w w' : World} {F fp f1 f2 f2' : Nat → Prop} {g k : Nat} {p q' : ObjP} (hlt : ∀ j, fp j → j < w.heap.size ∧ ¬ F j) (h1 : p.holds w g f1) (h3 : f1 g) (h5 : ∀ j, f1 j → ¬ f2 j) (h6 : ∀ j, fp j ↔ (f1 j ∨ f2 j)) (h : OPost w F f2 k q' f2' w') :
    OPost w F fp g (starP p k q') (fun j => f1 j ∨ f2' j) w' ∧ ∀ j, oF w F f2 f2' w' j → oF w F fp (fun j => f1 j ∨ f2' j) w' j := by
  have hdis : ∀ j, f1 j → ¬ f2' j := fun j b a => by
    rcases (h.lt j a).2 with c | c
    · exact h5 j b c
    · have := (hlt j ((h6 j).2 (.inl b))).1; omega
  refine ⟨⟨h.os, h.tape, h.output, h.size, fun j a b => h.block j a (fun c => b ((h6 j).2 (.inr c))), ⟨f1, f2', p.stable _ _ _ _ h1 (fun j a => h.block j (hlt j ((h6 j).2 (.inl a))).1 (fun c => h5 j a c)), h.holds, h3, h.root, hdis, fun _ => Iff.rfl⟩, .inl h3, fun j a => ?_⟩, fun j a => ?_⟩
  · rcases a with a | a
    · have := (hlt j ((h6 j).2 (.inl a))).1
      exact ⟨Nat.lt_of_lt_of_le this h.size, .inl ((h6 j).2 (.inl a))⟩
    · refine ⟨(h.lt j a).1, ?_⟩
      rcases (h.lt j a).2 with c | c
      · exact .inl ((h6 j).2 (.inr c))
      · exact .inr c
  · rcases a with a | ⟨a1, a2, a3⟩
    · exact .inl a
    · refine .inr ⟨a1, fun c => ?_, ?_⟩
      · rcases c with c | c
        · rcases a3 with d | d
          · exact h5 j c d
          · have := (hlt j ((h6 j).2 (.inl c))).1; omega
        · exact a2 c
      · rcases a3 with d | d
        · exact .inl ((h6 j).2 (.inr d))
        · exact .inr d
theorem OCon.right {q q' : ObjP} {r : CV} (h : OCon P gl f args q r q') (p : ObjP) (k : Nat) : OCon P gl f (args.map (OA.cl k)) (starP p k q) r (starP p k q') :=
  ⟨h.1, fun w F fp g vals h1 h2 ⟨f1, f2, s1, s2, s3, s4, s5, s6⟩ h4 h5 h6 h7 =>
    (h.2 w F f2 k vals h1 h2 s2 s4 (fun j hj => h5 j ((s6 j).2 (.inr hj))) (by simpa using h6) (cl_rels h7)).mono fun _ _ ⟨v, fp', a, b, c⟩ =>
      ⟨v, _, a, (opost_right h5 s1 s3 s5 s6 b).1, c.mono fun j hj => ⟨(opost_right h5 s1 s3 s5 s6 b).2 j hj, rfl⟩⟩⟩
end
section
variable {base : Nat} {w0 : W0} {st : St} {M : Wd} {a : Act}
theorem Sim.objW (hs : Sim base w0 st M a) {b : Nat} {p p' : ObjP} (hb : M.H b = some (.obj p)) {g : Nat} (hm : M.m b = .blk g) (hw : ∀ fp, p.holds M.w g fp → fp g → ∃ fp', p'.holds M.w g fp' ∧ fp' g ∧ ∀ j, fp' j → fp j) :
    ∃ M', M'.w = M.w ∧ Sim base w0 (st.set b (.obj p')) M' a ∧ Ext M M' := by
  obtain ⟨g0, o1, o2, o3, o4, o5⟩ := hs.heap.obj b p hb
  rw [hm] at o1; cases o1
  obtain ⟨fp', q1, q2, q3⟩ := hw _ o3 o2
  obtain ⟨M', h1, _, h3, h4⟩ := hs.changeO (w' := M.w) (p' := p') (fp' := fp') hb hm ⟨rfl, rfl, rfl, Nat.le_refl _, fun _ _ _ => rfl, q1, q2, fun k hk => ⟨(o4 k (q3 k hk)).2.1, .inl (q3 k hk)⟩⟩
  exact ⟨M', h1, h3, h4⟩
theorem Sim.join (hs : Sim base w0 st M a) {b b2 k2 : Nat} {p q : ObjP} (hb : M.H b = some (.obj p)) (hb2 : M.H b2 = some (.obj (q.at k2))) (hne : b ≠ b2) :
    ∃ M', M'.w = M.w ∧ Sim base w0 { st with heap := (b, some (.obj (starP p k2 q))) :: (b2, none) :: st.heap } M' a ∧ Ext M M' := by
  obtain ⟨g, o1, o2, o3, o4, o5⟩ := hs.heap.obj b p hb
  obtain ⟨g2, t1, t2, ⟨rfl, t3⟩, t4, t5⟩ := hs.heap.obj b2 _ hb2
  have hdis : ∀ j, M.fp b j → ¬ M.fp b2 j := fun j hj => (o5 b2 j (Ne.symm hne) hj).2 _ hb2
  let M' : Wd := { M with H := St.H { st with heap := (b, some (.obj (starP p g2 q))) :: (b2, none) :: st.heap }, fp := fun k => if k = b then (fun j => M.fp b j ∨ M.fp b2 j) else M.fp k }
  have hH : ∀ k, M'.H k = if b = k then some (.obj (starP p g2 q)) else if b2 = k then none else M.H k := fun k => by
    show St.H _ k = _
    unfold St.H
    simp only [look_cons]
    by_cases h1 : b = k
    · rw [if_pos h1, if_pos h1]
    · rw [if_neg h1, if_neg h1]
      by_cases h2 : b2 = k
      · rw [if_pos h2, if_pos h2]
      · rw [if_neg h2, if_neg h2, hs.H]; rfl
  have hold : ∀ k, b ≠ k → ∀ x, M'.H k = some x → M.H k = some x ∧ b2 ≠ k := fun k hk x hx => by
    rw [hH, if_neg hk] at hx
    by_cases h2 : b2 = k
    · rw [if_pos h2] at hx; cases hx
    · rw [if_neg h2] at hx; exact ⟨hx, h2⟩
  have hno : ∀ k, M'.H k ≠ none → M.H k ≠ none ∧ b2 ≠ k := fun k hk => by
    by_cases h1 : b = k
    · subst h1; exact ⟨by rw [hb]; simp, Ne.symm hne⟩
    · obtain ⟨x, hx⟩ := Option.ne_none_iff_exists'.1 hk
      obtain ⟨h2, h3⟩ := hold k h1 x hx
      exact ⟨by rw [h2]; simp, h3⟩
  have hext : Ext M M' := ⟨fun _ _ h => h, fun k E size' l' _ hl => by
    by_cases h : b = k
    · rw [hH, if_pos h] at hl; cases hl
    · exact ⟨l', (hold k h _ hl).1, Nat.le_refl _, fun _ => rfl⟩, Nat.le_refl _, fun k hk => ⟨hk, rfl⟩⟩
  have hfpb : M'.fp b = (fun j => M.fp b j ∨ M.fp b2 j) := by simp [M']
  have hfpk : ∀ k, b ≠ k → M'.fp k = M.fp k := fun k hk => by simp [M', Ne.symm hk]
  refine ⟨M', rfl, ⟨rfl, hs.nx, hs.n, fun i y hy => ?_, fun g xs hg => (hs.gl g xs hg).mono hext, ⟨?_, ?_, ?_, ?_, hs.heap.fresh, hs.heap.frz, ?_⟩, hs.below, hs.base, hs.defs, hs.old⟩, hext⟩
  · obtain ⟨u, h1, h2⟩ := hs.env i y hy
    exact ⟨u, h1, h2.mono hext⟩
  · intro k t l hl
    have hk : b ≠ k := fun e => by rw [hH, if_pos e] at hl; cases hl
    obtain ⟨g, arr, g1, g2, g3, g4, g5, g6⟩ := hs.heap.cells k t l (hold k hk _ hl).1
    exact ⟨g, arr, g1, g2, g3, g4, g5, fun i x u hx hu => (g6 i x u hx hu).mono hext⟩
  · intro k E size l hl
    have hk : b ≠ k := fun e => by rw [hH, if_pos e] at hl; cases hl
    exact hs.heap.vec k E size l (hold k hk _ hl).1
  · intro k k' g hkk hk hk'
    exact hs.heap.sep k k' g hkk (hno k hk).1 (hno k' hk').1
  · exact fun k hk => hs.heap.lt k (hno k hk).1
  · intro k x hx
    by_cases hk : b = k
    · subst hk
      rw [hH, if_pos rfl] at hx
      simp only [Option.some.injEq, AB.obj.injEq] at hx; subst hx
      refine ⟨g, o1, by rw [hfpb]; exact .inl o2, by rw [hfpb]; exact ⟨_, _, o3, t3, o2, t2, hdis, fun _ => Iff.rfl⟩, fun c hc => ?_, fun b' c hbb hc => ⟨fun hb' hq => ?_, fun p2 hp2 hf => ?_⟩⟩
      · rw [hfpb] at hc
        rcases hc with hc | hc
        · exact o4 c hc
        · exact t4 c hc
      · rw [hfpb] at hc
        obtain ⟨n1, n2⟩ := hno b' hb'
        rcases hc with hc | hc
        · exact (o5 b' c hbb hc).1 n1 hq
        · exact (t5 b' c (Ne.symm n2) hc).1 n1 hq
      · rw [hfpb] at hc
        rw [hfpk b' (Ne.symm hbb)] at hf
        obtain ⟨n1, n2⟩ := hold b' (Ne.symm hbb) _ hp2
        rcases hc with hc | hc
        · exact (o5 b' c hbb hc).2 p2 n1 hf
        · exact (t5 b' c (Ne.symm n2) hc).2 p2 n1 hf
    · obtain ⟨n1, n2⟩ := hold k hk _ hx
      obtain ⟨g', e1, e2, e3, e4, e5⟩ := hs.heap.obj k x n1
      rw [hfpk k hk]
      refine ⟨g', e1, e2, e3, e4, fun b' c hbb hc => ⟨fun hb' => (e5 b' c hbb hc).1 (hno b' hb').1, fun p2 hp2 hf => ?_⟩⟩
      by_cases hbe : b = b'
      · subst hbe
        rw [hfpb] at hf
        rcases hf with hf | hf
        · exact (e5 b c hbb hc).2 _ hb hf
        · exact (e5 b2 c n2 hc).2 _ hb2 hf
      · rw [hfpk b' hbe] at hf
        exact (e5 b' c hbb hc).2 p2 (hold b' hbe _ hp2).1 hf
def valOf (b k : Nat) : AV → Option Value
  | .c (.v v) => some v
  | .ref b' f => bif Nat.beq b b' then some (f k) else none
  | .ptr b' off => bif Nat.beq b b' then some (.pointer (some ⟨k, off, none⟩)) else none
  | _ => none
def valsOf (b k : Nat) : List AV → Option (List Value)
  | [] => some []
  | x :: l => match valOf b k x, valsOf b k l with | some y, some ys => some (y :: ys) | _, _ => none
theorem valsOf_get {b k : Nat} : ∀ {xs : List AV} {ys : List Value}, valsOf b k xs = some ys → xs.length = ys.length ∧ ∀ (i : Nat) (x : AV) (y : Value), xs[i]? = some x → ys[i]? = some y → valOf b k x = some y
  | [], ys, h => by simp only [valsOf, Option.some.injEq] at h; subst h; exact ⟨rfl, fun i x y h => by simp at h⟩
  | x :: l, ys, h => by
    simp only [valsOf] at h
    split at h
    · rename_i y ys' h1 h2
      simp only [Option.some.injEq] at h; subst h
      obtain ⟨e1, e2⟩ := valsOf_get h2
      refine ⟨by simp [e1], fun i x' y' h3 h4 => ?_⟩
      cases i with
      | zero => simp at h3 h4; subst h3; subst h4; exact h1
      | succ i => exact e2 i x' y' (by simpa using h3) (by simpa using h4)
    · cases h
theorem valOf_eq {b k : Nat} (hm : M.m b = .blk k) {x : AV} {u v : Value} (h : RA M x u) (hv : valOf b k x = some v) : u = v := by
  cases h with
  | c h =>
    cases h with
    | v x => simp only [valOf, Option.some.injEq] at hv; exact hv
    | _ => simp [valOf] at hv
  | @ref b' g f h ho =>
    simp only [valOf] at hv
    cases hc : Nat.beq b b' with
    | false => rw [hc] at hv; cases hv
    | true =>
      rw [hc] at hv
      simp only [cond_true, Option.some.injEq] at hv; subst hv
      obtain rfl := beq_true hc
      rw [hm] at h; cases h; rfl
  | @ptr b' off g h =>
    simp only [valOf] at hv
    cases hc : Nat.beq b b' with
    | false => rw [hc] at hv; cases hv
    | true =>
      rw [hc] at hv
      simp only [cond_true, Option.some.injEq] at hv; subst hv
      obtain rfl := beq_true hc
      rw [hm] at h; cases h; rfl
  | _ => simp [valOf] at hv
theorem Sim.root (hs : Sim base w0 st M a) {b k : Nat} {p : ObjP} (hb : M.H b = some (.obj (p.at k))) : M.m b = .blk k := by
  obtain ⟨g, o1, _, ⟨rfl, _⟩, _⟩ := hs.heap.obj b _ hb
  exact o1
end
section
variable {P : Program} {c : Code} {Q : Exit → St → Prop} {n : Nat} {env : List (Nat × AV)} {heap : List (Nat × Option AB)} {nx : Nat} {gl : List (Nat × List CV)}
theorem aw_objW (b : Nat) {p : ObjP} (p' : ObjP) (hb : St.H ⟨n, env, heap, nx, gl⟩ b = some (.obj p)) (hw : ∀ w g fp, p.holds w g fp → fp g → ∃ fp', p'.holds w g fp' ∧ fp' g ∧ ∀ j, fp' j → fp j)
    (h : Awp P c Q ⟨n, env, (b, some (.obj p')) :: heap, nx, gl⟩) : Awp P c Q ⟨n, env, heap, nx, gl⟩ := by
  intro base w0 M a hs
  have hbM : M.H b = some (.obj p) := by rw [hs.H]; exact hb
  obtain ⟨g, o1, _⟩ := hs.heap.obj b p hbM
  obtain ⟨M', h1, h2, h3⟩ := hs.objW hbM o1 (hw M.w g)
  rw [← h1]
  exact wp_mono (h base w0 M' a h2) fun e a w => Lift.ext h3
end
end Go.Proofs.Ythkjkhffljlidaa.Ev
/- Rules of a walk: fields of objects, nil, calls through closed interface values. Nothing here names a program. -/
namespace Go.Proofs.Ythkjkhffljlidaa.Ev
set_option linter.unusedVariables false
set_option linter.unusedSimpArgs false
open Go.RowKit
class PtrT (P : Program) (t : Nat) : Prop where
  h : ∃ e, P.underlying t = some (.pointer e)
section
variable {P : Program} {ops : Array Oper} {Q : Exit → St → Prop} {X : List Oper → St → Prop} {rest : List Oper} {d : Nat} {ty : TypeId} {pos : String} {af : Array Edge} {n : Nat} {env : List (Nat × AV)} {heap : List (Nat × Option AB)} {nx : Nat} {gl : List (Nat × List CV)}
theorem r_nilp [W : Walk P X] {x : Operand} {b off : Nat} (hx : St.ev ⟨n, env, heap, nx, gl⟩ x = some (.ptr b off)) (hd : Nat.blt d n = true) (h : X rest ⟨n, (d, .ptr b off) :: env, heap, nx, gl⟩) : X (⟨some d, .nilCheck x, ty, pos, af, none⟩ :: rest) ⟨n, env, heap, nx, gl⟩ := by
  refine ao_val (st := ⟨n, env, heap, nx, gl⟩) rfl rfl hd (fun _ _ M e hs => ?_) h
  have hv := hs.ev (by simp [Op.operands, Call.operands]) hx
  generalize he : e.eval x = u at hv
  cases hv with
  | ptr hm =>
    refine ⟨_, ?_, .ptr hm⟩
    simp only [execOp, he]
    rfl
theorem r_nilc [W : Walk P X] {x : Operand} {p : Addr} (hx : St.ev ⟨n, env, heap, nx, gl⟩ x = some (.c (.v (.pointer (some p))))) (hd : Nat.blt d n = true) (h : X rest ⟨n, (d, .c (.v (.pointer (some p)))) :: env, heap, nx, gl⟩) : X (⟨some d, .nilCheck x, ty, pos, af, none⟩ :: rest) ⟨n, env, heap, nx, gl⟩ := by
  refine ao_val (st := ⟨n, env, heap, nx, gl⟩) rfl rfl hd (fun _ _ M e hs => ⟨.pointer (some p), ?_, .c (.v _)⟩) h
  simp only [execOp, (hs.ev (by simp [Op.operands, Call.operands]) hx).bool]
  rfl
theorem r_nilIfc [W : Walk P X] {x : Operand} {t k : Nat} (hx : St.ev ⟨n, env, heap, nx, gl⟩ x = some (.c (.v (ifcP t k)))) (hd : Nat.blt d n = true) (h : X rest ⟨n, (d, .c (.v (ifcP t k))) :: env, heap, nx, gl⟩) : X (⟨some d, .nilCheck x, ty, pos, af, none⟩ :: rest) ⟨n, env, heap, nx, gl⟩ := by
  refine ao_val (st := ⟨n, env, heap, nx, gl⟩) rfl rfl hd (fun _ _ M e hs => ⟨ifcP t k, ?_, .c (.v _)⟩) h
  simp only [execOp, (hs.ev (by simp [Op.operands, Call.operands]) hx).bool, ifcP]
  rfl
theorem run_eqnil {w : World} {t : TypeId} (I : PtrT P t) (p : Option Addr) : (binOp .eql t (.pointer p) (.pointer none)).run P w = .ok (.bool p.isNone) w := by
  obtain ⟨e, he⟩ := I.h
  cases p <;> simp [go_sem, he]
theorem r_eqnilp [W : Walk P X] {x y : Operand} {t t2 : TypeId} {b off : Nat} [I : PtrT P t] (hx : St.ev ⟨n, env, heap, nx, gl⟩ x = some (.ptr b off)) (hy : St.ev ⟨n, env, heap, nx, gl⟩ y = some (.c (.v (.pointer none)))) (hd : Nat.blt d n = true) (h : X rest ⟨n, (d, .c (.v (.bool false))) :: env, heap, nx, gl⟩) : X (⟨some d, .binOp .eql t x y t2, ty, pos, af, none⟩ :: rest) ⟨n, env, heap, nx, gl⟩ := by
  refine ao_val (st := ⟨n, env, heap, nx, gl⟩) rfl rfl hd (fun _ _ M e hs => ⟨.bool false, ?_, .c (.v _)⟩) h
  have hv := hs.ev (by simp [Op.operands, Call.operands]) hx
  generalize he : e.eval x = u at hv
  cases hv with
  | ptr hm =>
    simp only [execOp, he, (hs.ev (by simp [Op.operands, Call.operands]) hy).bool]
    rw [Sem.run_bind, Sem.run_bind]
    show (((binOp .eql t (.pointer _) (.pointer none)).run P M.w).andThen _) = _
    rw [run_eqnil I]; rfl
theorem r_eqnilc [W : Walk P X] {x y : Operand} {t t2 : TypeId} {p : Option Addr} [I : PtrT P t] (hx : St.ev ⟨n, env, heap, nx, gl⟩ x = some (.c (.v (.pointer p)))) (hy : St.ev ⟨n, env, heap, nx, gl⟩ y = some (.c (.v (.pointer none)))) (hd : Nat.blt d n = true) (h : X rest ⟨n, (d, .c (.v (.bool p.isNone))) :: env, heap, nx, gl⟩) : X (⟨some d, .binOp .eql t x y t2, ty, pos, af, none⟩ :: rest) ⟨n, env, heap, nx, gl⟩ := by
  refine ao_val (st := ⟨n, env, heap, nx, gl⟩) rfl rfl hd (fun _ _ M e hs => ⟨.bool p.isNone, ?_, .c (.v _)⟩) h
  simp only [execOp, (hs.ev (by simp [Op.operands, Call.operands]) hx).bool, (hs.ev (by simp [Op.operands, Call.operands]) hy).bool]
  rw [Sem.run_bind, Sem.run_bind]
  show (((binOp .eql t (.pointer _) (.pointer none)).run P M.w).andThen _) = _
  rw [run_eqnil I]; rfl
theorem r_field_c [W : Walk P X] {x : Operand} {s i k g o : Nat} [I : FieldAt P s i k] (hx : St.ev ⟨n, env, heap, nx, gl⟩ x = some (.c (ptrV g o))) (hd : Nat.blt d n = true) (h : X rest ⟨n, (d, .c (ptrV g (o + k))) :: env, heap, nx, gl⟩) : X (⟨some d, .fieldAddr s x i, ty, pos, af, none⟩ :: rest) ⟨n, env, heap, nx, gl⟩ := by
  refine ao_val (st := ⟨n, env, heap, nx, gl⟩) rfl rfl hd (fun _ _ M e hs => ⟨.pointer (some ⟨g, o + k, none⟩), ?_, .c (.v _)⟩) h
  simp only [execOp, (hs.ev (by simp [Op.operands, Call.operands]) hx).bool]
  simp [run_fieldAt I]
theorem r_load_o [W : Walk P X] {x : Operand} {t b off n1 : Nat} {p : ObjP} {v : Value} [I : TyC P t false n1] (hx : St.ev ⟨n, env, heap, nx, gl⟩ x = some (.ptr b off)) (hH : St.H ⟨n, env, heap, nx, gl⟩ b = some (.obj p)) (hp : ∀ w g fp, p.holds w g fp → w.cell? ⟨g, off, none⟩ = some v) (hd : Nat.blt d n = true) (h : X rest ⟨n, (d, .c (.v v)) :: env, heap, nx, gl⟩) : X (⟨some d, .load t x, ty, pos, af, none⟩ :: rest) ⟨n, env, heap, nx, gl⟩ := by
  refine ao_val (st := ⟨n, env, heap, nx, gl⟩) rfl rfl hd (fun _ _ M e hs => ⟨v, ?_, .c (.v _)⟩) h
  have hv := hs.ev (by simp [Op.operands, Call.operands]) hx
  obtain ⟨g, o1, o2, o3, _⟩ := hs.sim.heap.obj b p (hs.H _ _ hH)
  generalize he : e.eval x = u at hv
  cases hv with
  | ptr hm =>
    rw [hm] at o1; cases o1
    exact ex_load_s I he (hp _ _ _ o3)
theorem r_load_oc [W : Walk P X] {x : Operand} {t k off n1 : Nat} {p : ObjP} {v : Value} [I : TyC P t false n1] (b : Nat) (hx : St.ev ⟨n, env, heap, nx, gl⟩ x = some (.c (ptrV k off))) (hH : St.H ⟨n, env, heap, nx, gl⟩ b = some (.obj p)) (hp : ∀ w g fp, p.holds w g fp → w.cell? ⟨k, off, none⟩ = some v) (hd : Nat.blt d n = true) (h : X rest ⟨n, (d, .c (.v v)) :: env, heap, nx, gl⟩) : X (⟨some d, .load t x, ty, pos, af, none⟩ :: rest) ⟨n, env, heap, nx, gl⟩ := by
  refine ao_val (st := ⟨n, env, heap, nx, gl⟩) rfl rfl hd (fun _ _ M e hs => ⟨v, ?_, .c (.v _)⟩) h
  obtain ⟨g, o1, o2, o3, _⟩ := hs.sim.heap.obj b p (hs.H _ _ hH)
  have hv := (hs.ev (by simp [Op.operands, Call.operands]) hx).bool
  exact ex_load_s I hv (hp _ _ _ o3)
def StoreO (p : ObjP) (k : Nat → Nat) (off : Nat) (v : Value) (p' : ObjP) : Prop :=
  ∀ w g fp, p.holds w g fp → ∃ arr t, fp (k g) ∧ w.heap[k g]? = some (.cells arr t (0, 0)) ∧ off < arr.size ∧ ∀ w' : World, w'.heap[k g]? = some (.cells (arr.setIfInBounds off v) t (0, 0)) → (∀ j, j ≠ k g → w'.heap[j]? = w.heap[j]?) → p'.holds w' g fp
theorem store_obj {st : St} {base : Nat} {w0 : W0} {M : Wd} {a : Act} {t n1 b off g : Nat} {ag : Bool} {p p' : ObjP} {v : Value} {k : Nat → Nat} (I : TyC P t ag n1) (h1 : n1 = 1) (hone : v.oneCell' = true) (hs : Sim base w0 st M a) (hH : st.H b = some (.obj p)) (hm : M.m b = .blk g) (hp : StoreO p k off v p') :
    ∃ w' M', (Instr.storeAt t (.pointer (some ⟨k g, off, none⟩)) v).run P M.w = .ok () w' ∧ M'.w = w' ∧ Sim base w0 (st.set b (.obj p')) M' a ∧ Ext M M' := by
  have hb : M.H b = some (.obj p) := by rw [hs.H]; exact hH
  obtain ⟨g', o1, o2, o3, o4, o5⟩ := hs.heap.obj b p hb
  rw [hm] at o1; cases o1
  obtain ⟨arr, t', q1, q2, q3, q4⟩ := hp _ _ _ o3
  have hrun := run_store_row I M.w (k g) off t' arr v q2 (by rw [cells_one hone, h1]; rfl) (by omega) (by rw [cells_one hone]; simpa using hone)
  have harr : (arr.toList.take off ++ v.cells.toList ++ arr.toList.drop (off + n1)).toArray = arr.setIfInBounds off v := by
    rw [cells_one hone, h1, ← Array.toList_inj]
    simp only [Array.toList_setIfInBounds]
    rw [List.set_eq_take_append_cons_drop, if_pos (by simpa using q3)]
    simp
  rw [harr] at hrun
  obtain ⟨M', m1, _, m3, m4⟩ := hs.changeO (p' := p') (fp' := M.fp b) (w' := M.w.setRow (k g) (arr.setIfInBounds off v)) hb hm
    ⟨rfl, rfl, rfl, by rw [setRow_size]; exact Nat.le_refl _, fun j _ hj => setRow_heap_ne _ _ _ _ (fun e => hj (by rw [e]; exact q1)), q4 _ (setRow_heap _ _ _ _ _ _ q2) (fun j hj => setRow_heap_ne _ _ _ _ hj), o2, fun j hj => ⟨by rw [setRow_size]; exact (o4 j hj).2.1, .inl hj⟩⟩
  exact ⟨_, M', hrun, m1, m3, m4⟩
theorem r_store_o {x z : Operand} {t n1 b off : Nat} {ag : Bool} {p : ObjP} (p' : ObjP) {v : Value} [I : TyC P t ag n1] (hx : St.ev ⟨n, env, heap, nx, gl⟩ x = some (.ptr b off)) (hz : St.ev ⟨n, env, heap, nx, gl⟩ z = some (.c (.v v))) (hc : v.oneCell' = true) (h1 : n1 = 1) (hH : St.H ⟨n, env, heap, nx, gl⟩ b = some (.obj p)) (hp : StoreO p (fun g => g) off v p')
    (h : AOps P ops Q rest ⟨n, env, (b, some (.obj p')) :: heap, nx, gl⟩) : AOps P ops Q (⟨none, .store t x z, ty, pos, af, none⟩ :: rest) ⟨n, env, heap, nx, gl⟩ := by
  refine ao_store_gen (st := ⟨n, env, heap, nx, gl⟩) (s2 := ⟨n, env, (b, some (.obj p')) :: heap, nx, gl⟩) (fun base w0 M a hs => ?_) h
  have hv := hs.ev hx
  have hu := (hs.ev hz).bool
  generalize he : a.eval x = u at hv
  rw [hu]
  cases hv with
  | ptr hm => exact store_obj I h1 hc hs hH hm hp
theorem r_store_oc {x z : Operand} {t n1 k off : Nat} {ag : Bool} {p : ObjP} (b : Nat) (p' : ObjP) {v : Value} [I : TyC P t ag n1] (hx : St.ev ⟨n, env, heap, nx, gl⟩ x = some (.c (ptrV k off))) (hz : St.ev ⟨n, env, heap, nx, gl⟩ z = some (.c (.v v))) (hc : v.oneCell' = true) (h1 : n1 = 1) (hH : St.H ⟨n, env, heap, nx, gl⟩ b = some (.obj p)) (hp : StoreO p (fun _ => k) off v p')
    (h : AOps P ops Q rest ⟨n, env, (b, some (.obj p')) :: heap, nx, gl⟩) : AOps P ops Q (⟨none, .store t x z, ty, pos, af, none⟩ :: rest) ⟨n, env, heap, nx, gl⟩ := by
  refine ao_store_gen (st := ⟨n, env, heap, nx, gl⟩) (s2 := ⟨n, env, (b, some (.obj p')) :: heap, nx, gl⟩) (fun base w0 M a hs => ?_) h
  have hv := (hs.ev hx).bool
  have hu := (hs.ev hz).bool
  obtain ⟨g, o1, _⟩ := hs.heap.obj b p (by rw [hs.H]; exact hH)
  rw [hu, hv]
  exact store_obj I h1 hc hs hH o1 hp
theorem r_callOE {Γ : Type} {f : FuncId} {args : List Operand} {tys : Array TypeId} {ys : List AV} {zs : List OA} {r : Γ → CV} {p : ObjP} {p' : Γ → ObjP} (b : Nat) (hcon : OConE P gl f zs p r p') (hys : evs ⟨n, env, heap, nx, gl⟩ args = some ys) (hz : oas b ys = some zs) (hb : St.H ⟨n, env, heap, nx, gl⟩ b = some (.obj p)) (hd : Nat.blt d n = true)
    (h : ∀ γ, AOps P ops Q rest ⟨n, (d, ofC (r γ)) :: env, (b, some (.obj (p' γ))) :: heap, nx, gl⟩) : AOps P ops Q (⟨some d, .call ⟨.value (.func f), args.toArray, tys⟩, ty, pos, af, none⟩ :: rest) ⟨n, env, heap, nx, gl⟩ :=
  ao_callOE (st := ⟨n, env, heap, nx, gl⟩) b hcon hys hz hb hd h
theorem ao_invokeC {st : St} {f : FuncId} {t k : Nat} {name : String} {recv : Operand} {args : List Operand} {tys : Array TypeId} {ys : List AV} {zs : List OA} {r : CV} {p p' : ObjP} (b : Nat) [I : MethT P t name f] (hr : st.ev recv = some (.c (.v (ifcP t k)))) (hcon : OCon P st.gl f (.c (ptrV k 0) :: zs) p r p') (hys : evs st args = some ys) (hz : oas b ys = some zs) (hb : st.H b = some (.obj p)) (hd : Nat.blt d st.n = true)
    (h : AOps P ops Q rest ((st.set b (.obj p')).put d (ofC r))) : AOps P ops Q (⟨some d, .call ⟨.invoke recv name, args.toArray, tys⟩, ty, pos, af, none⟩ :: rest) st := by
  intro base w0 M a hs
  have hbM : M.H b = some (.obj p) := by rw [hs.H]; exact hb
  obtain ⟨e1, e2⟩ := evs_get hys
  obtain ⟨e3, e4⟩ := oas_get hz
  obtain ⟨g, o1, o2, o3, o4, o5⟩ := hs.heap.obj b p hbM
  have hrv : a.eval recv = ifcP t k := (hs.ev hr).bool
  refine wl_enter rfl (run_invoke hcon.1 I a M.w hrv) (R := fun v w'' => ∃ fp', OPost M.w M.F (M.fp b) g p' fp' w'' ∧ RC (oF M.w M.F (M.fp b) fp' w'') w'' r v) (Calls.mono (hcon.2 M.w M.F (M.fp b) g _ hs.heap.frz (fun g xs hg => ?_) o3 o2 (fun k hk => (o4 k hk).2) (by simp; omega) (fun i x u hx hu => ?_)) (fun e w'' ⟨v, fp', he, hp, hrc⟩ => ⟨v, he, fp', hp, hrc⟩)) (fun v w'' hR => ?_)
  · have := hs.gl g xs hg
    generalize hq : Value.pointer (some ⟨g, 0, none⟩) = q at this ⊢
    cases this with
    | eptr cs hF hcell hr => exact .eptr cs hF hcell hr
  · cases i with
    | zero => simp at hx hu; subst hx; subst hu; exact RC.v _
    | succ i =>
      have hx : zs[i]? = some x := by simpa using hx
      have hi : i < args.length := by have := (List.getElem?_eq_some_iff.1 hx).1; omega
      obtain ⟨y, hy⟩ : ∃ y, ys[i]? = some y := ⟨_, List.getElem?_eq_getElem (by omega)⟩
      have hev := hs.ev (e2 i args[i] y (by simp [hi]) hy)
      have hu' : a.eval args[i] = u := by simpa [hi] using hu
      rw [hu'] at hev
      exact oaOf_rel hs.heap o1 hev (e4 i y x hy hx)
  · obtain ⟨fp', hp, hrc⟩ := hR
    obtain ⟨M', h1, h2, h3, h4⟩ := hs.changeO hbM o1 hp
    have := h base w0 M' _ (h3.put hd (RA.ofC (M := M') (by rw [h2, h1]; exact hrc)))
    rw [← h1]
    exact wpList_monoQ (fun e a w => Lift.ext h4) _ _ _ this
theorem r_invokeC {f : FuncId} {t k : Nat} {name : String} {recv : Operand} {args : List Operand} {tys : Array TypeId} {ys : List AV} {zs : List OA} {r : CV} {p p' : ObjP} (b : Nat) [I : MethT P t name f] (hr : St.ev ⟨n, env, heap, nx, gl⟩ recv = some (.c (.v (ifcP t k)))) (hcon : OCon P gl f (.c (ptrV k 0) :: zs) p r p') (hys : evs ⟨n, env, heap, nx, gl⟩ args = some ys) (hz : oas b ys = some zs) (hb : St.H ⟨n, env, heap, nx, gl⟩ b = some (.obj p)) (hd : Nat.blt d n = true)
    (h : AOps P ops Q rest ⟨n, (d, ofC r) :: env, (b, some (.obj p')) :: heap, nx, gl⟩) : AOps P ops Q (⟨some d, .call ⟨.invoke recv name, args.toArray, tys⟩, ty, pos, af, none⟩ :: rest) ⟨n, env, heap, nx, gl⟩ :=
  ao_invokeC (st := ⟨n, env, heap, nx, gl⟩) b hr hcon hys hz hb hd h
end
end Go.Proofs.Ythkjkhffljlidaa.Ev
/- Rules of a walk: methods of pointers' types, boxes as objects. Nothing here names a program. -/
namespace Go.Proofs.Ythkjkhffljlidaa.Ev
set_option linter.unusedVariables false
set_option linter.unusedSimpArgs false
open Go.RowKit
def methB (P : Program) (t : TypeId) (name : String) : Option FuncId :=
  match P.info? t with
  | some i => match i.methods.find? (·.name == name) with
    | some m => match m.func with
      | some (f, true) => if m.path.toList = [] then some f else none
      | _ => none
    | none => none
  | none => none
theorem methT_of {P : Program} {t : Nat} {name : String} {f : Nat} (I : PtrT P t) (h : methB P t name = some f) : MethT P t name f := by
  constructor
  intro w g
  obtain ⟨e, he⟩ := I.h
  unfold methB at h
  cases hi : P.info? t with
  | none => rw [hi] at h; cases h
  | some i =>
    rw [hi] at h; simp only at h
    cases hm : i.methods.find? (·.name == name) with
    | none => rw [hm] at h; cases h
    | some m =>
      rw [hm] at h; simp only at h
      cases hf : m.func with
      | none => rw [hf] at h; cases h
      | some fb =>
        obtain ⟨f', b⟩ := fb
        rw [hf] at h
        cases b with
        | false => cases h
        | true =>
          simp only at h
          split at h
          · rename_i hp
            simp only [Option.some.injEq] at h; subst h
            obtain ⟨k, hk⟩ : ∃ k, P.types.size + Made.depth = k + 1 := by
              cases hc : P.types.size with
              | zero =>
                have := hi
                exact ⟨Made.depth - 1, by
                  have h0 : 0 < Made.depth := by decide
                  omega⟩
              | succ n => exact ⟨n + Made.depth, by omega⟩
            rw [hk]
            simp only [method, Sem.run_bind]
            have ht : (typeInfo t).run P w = .ok i w := by simp [typeInfo, hi]
            rw [ht]
            simp only [Result.andThen_ok, hm, hp, follow, Sem.run_bind, Sem.run_pure, hf]
            simp [receiverAt, run_underlying he, Place.get, Sem.run_bind, Result.andThen]
          · cases h
def boxP (t : TypeId) (vs : List Value) : ObjP where
  holds := fun w g fp => w.heap[g]? = some (.cells vs.toArray t (0, 0)) ∧ ∀ k, fp k ↔ k = g
  stable := fun w w' g fp h hk => ⟨(hk g ((h.2 g).2 rfl)).trans h.1, h.2⟩
theorem boxP_new (t : TypeId) (vs : List Value) (w : World) (g : Nat) (h : w.heap[g]? = some (.cells vs.toArray t (0, 0))) : (boxP t vs).holds w g (fun k => k = g) := ⟨h, fun _ => Iff.rfl⟩
theorem boxP_load {t : TypeId} {vs : List Value} {off : Nat} {v : Value} (h : vs[off]? = some v) : ∀ w g fp, (boxP t vs).holds w g fp → w.cell? ⟨g, off, none⟩ = some v := fun w g fp hp => by
  simp [World.cell?, hp.1, h]
theorem boxP_store {t : TypeId} {vs : List Value} {off : Nat} (v : Value) (h : Nat.blt off vs.length = true) : StoreO (boxP t vs) (fun g => g) off v (boxP t (vs.set off v)) := fun w g fp hp =>
  ⟨vs.toArray, t, (hp.2 g).2 rfl, hp.1, by simpa using blt_true h, fun w' h1 h2 => ⟨by rw [h1]; simp, hp.2⟩⟩
end Go.Proofs.Ythkjkhffljlidaa.Ev
/- Rules of a walk: bits, with the result that is known. Nothing here names a program. -/
namespace Go.Proofs.Ythkjkhffljlidaa.Ev
set_option linter.unusedVariables false
set_option linter.unusedSimpArgs false
open Go.RowKit
section
variable {P : Program} {X : List Oper → St → Prop} {rest : List Oper} {d : Nat} {ty : TypeId} {pos : String} {af : Array Edge} {n : Nat} {env : List (Nat × AV)} {heap : List (Nat × Option AB)} {nx : Nat} {gl : List (Nat × List CV)}
theorem r_andv [W : Walk P X] {x y : Operand} {t t2 : TypeId} {k : IntKind} {a b : Int} (c : Int) (hx : St.ev ⟨n, env, heap, nx, gl⟩ x = some (.c (.v (.int k a)))) (hy : St.ev ⟨n, env, heap, nx, gl⟩ y = some (.c (.v (.int k b)))) (hc : bits .and k a b = c) (hd : Nat.blt d n = true) (h : X rest ⟨n, (d, .c (.v (.int k c))) :: env, heap, nx, gl⟩) : X (⟨some d, .binOp .and t x y t2, ty, pos, af, none⟩ :: rest) ⟨n, env, heap, nx, gl⟩ := by
  subst hc
  refine ao_val (st := ⟨n, env, heap, nx, gl⟩) rfl rfl hd (fun _ _ M e hs => ⟨.int k (bits .and k a b), ?_, .c (.v _)⟩) h
  simp only [execOp, (hs.ev (by simp [Op.operands, Call.operands]) hx).bool, (hs.ev (by simp [Op.operands, Call.operands]) hy).bool]
  simp [go_sem]
theorem r_orv [W : Walk P X] {x y : Operand} {t t2 : TypeId} {k : IntKind} {a b : Int} (c : Int) (hx : St.ev ⟨n, env, heap, nx, gl⟩ x = some (.c (.v (.int k a)))) (hy : St.ev ⟨n, env, heap, nx, gl⟩ y = some (.c (.v (.int k b)))) (hc : bits .or k a b = c) (hd : Nat.blt d n = true) (h : X rest ⟨n, (d, .c (.v (.int k c))) :: env, heap, nx, gl⟩) : X (⟨some d, .binOp .or t x y t2, ty, pos, af, none⟩ :: rest) ⟨n, env, heap, nx, gl⟩ := by
  subst hc
  refine ao_val (st := ⟨n, env, heap, nx, gl⟩) rfl rfl hd (fun _ _ M e hs => ⟨.int k (bits .or k a b), ?_, .c (.v _)⟩) h
  simp only [execOp, (hs.ev (by simp [Op.operands, Call.operands]) hx).bool, (hs.ev (by simp [Op.operands, Call.operands]) hy).bool]
  simp [go_sem]
theorem r_shlv [W : Walk P X] {x y : Operand} {t t2 : TypeId} {k k2 : IntKind} {a b : Int} (c : Int) (hx : St.ev ⟨n, env, heap, nx, gl⟩ x = some (.c (.v (.int k a)))) (hy : St.ev ⟨n, env, heap, nx, gl⟩ y = some (.c (.v (.int k2 b)))) (h0 : 0 ≤ b) (h1 : b < k.bits) (hc : k.wrap (a * 2 ^ b.toNat) = c) (hd : Nat.blt d n = true) (h : X rest ⟨n, (d, .c (.v (.int k c))) :: env, heap, nx, gl⟩) : X (⟨some d, .binOp .shl t x y t2, ty, pos, af, none⟩ :: rest) ⟨n, env, heap, nx, gl⟩ := by
  subst hc
  refine ao_val (st := ⟨n, env, heap, nx, gl⟩) rfl rfl hd (fun _ _ M e hs => ⟨.int k (k.wrap (a * 2 ^ b.toNat)), ?_, .c (.v _)⟩) h
  simp only [execOp, (hs.ev (by simp [Op.operands, Call.operands]) hx).bool, (hs.ev (by simp [Op.operands, Call.operands]) hy).bool]
  have e1 : min b.toNat k.bits = b.toNat := by omega
  have e3 : (binOp .shl t (.int k a) (.int k2 b)).run P M.w = .ok (.int k (k.wrap (a * 2 ^ b.toNat))) M.w := by
    show (Op.shift .shl k a k2 b).run P M.w = _
    unfold Op.shift
    rw [if_neg (by omega)]
    dsimp only
    rw [e1]; rfl
  simp only [Sem.run_bind]
  rw [show (eqGuard .shl t x y (.int k a) (.int k2 b)).run P M.w = .ok () M.w from rfl]
  show (Sem.run P (binOp .shl t (.int k a) (.int k2 b)) M.w).andThen _ = _
  rw [e3]; rfl
theorem r_addv [W : Walk P X] {x y : Operand} {t t2 : TypeId} {k : IntKind} {a b : Int} (c : Int) (hx : St.ev ⟨n, env, heap, nx, gl⟩ x = some (.c (.v (.int k a)))) (hy : St.ev ⟨n, env, heap, nx, gl⟩ y = some (.c (.v (.int k b)))) (hc : k.wrap (a + b) = c) (hd : Nat.blt d n = true) (h : X rest ⟨n, (d, .c (.v (.int k c))) :: env, heap, nx, gl⟩) : X (⟨some d, .binOp .add t x y t2, ty, pos, af, none⟩ :: rest) ⟨n, env, heap, nx, gl⟩ := by
  subst hc; exact r_add_w hx hy hd h
theorem r_subv [W : Walk P X] {x y : Operand} {t t2 : TypeId} {k : IntKind} {a b : Int} (c : Int) (hx : St.ev ⟨n, env, heap, nx, gl⟩ x = some (.c (.v (.int k a)))) (hy : St.ev ⟨n, env, heap, nx, gl⟩ y = some (.c (.v (.int k b)))) (hc : k.wrap (a - b) = c) (hd : Nat.blt d n = true) (h : X rest ⟨n, (d, .c (.v (.int k c))) :: env, heap, nx, gl⟩) : X (⟨some d, .binOp .sub t x y t2, ty, pos, af, none⟩ :: rest) ⟨n, env, heap, nx, gl⟩ := by
  subst hc; exact r_sub_w hx hy hd h
theorem r_remv [W : Walk P X] {x y : Operand} {t t2 : TypeId} {k : IntKind} {a b : Int} (c : Int) (hx : St.ev ⟨n, env, heap, nx, gl⟩ x = some (.c (.v (.int k a)))) (hy : St.ev ⟨n, env, heap, nx, gl⟩ y = some (.c (.v (.int k b)))) (h0 : b ≠ 0) (hc : a.tmod b = c) (hd : Nat.blt d n = true) (h : X rest ⟨n, (d, .c (.v (.int k c))) :: env, heap, nx, gl⟩) : X (⟨some d, .binOp .rem t x y t2, ty, pos, af, none⟩ :: rest) ⟨n, env, heap, nx, gl⟩ := by
  subst hc; exact r_remw hx hy h0 hd h
end
end Go.Proofs.Ythkjkhffljlidaa.Ev
/- Rules of a walk: objects at known blocks, inside a region. Nothing here names a program. -/
namespace Go.Proofs.Ythkjkhffljlidaa.Ev
set_option linter.unusedVariables false
set_option linter.unusedSimpArgs false
open Go.RowKit
section
variable {P : Program} {ops : Array Oper} {l0 : List Oper} {Q : Exit → St → Prop} {n : Nat} {env : List (Nat × AV)} {heap : List (Nat × Option AB)} {nx : Nat} {gl : List (Nat × List CV)}
theorem ao_objW (b : Nat) {p : ObjP} (p' : ObjP) (hb : St.H ⟨n, env, heap, nx, gl⟩ b = some (.obj p)) (hw : ∀ w g fp, p.holds w g fp → fp g → ∃ fp', p'.holds w g fp' ∧ fp' g ∧ ∀ j, fp' j → fp j)
    (h : AOps P ops Q l0 ⟨n, env, (b, some (.obj p')) :: heap, nx, gl⟩) : AOps P ops Q l0 ⟨n, env, heap, nx, gl⟩ := by
  intro base w0 M a hs
  have hbM : M.H b = some (.obj p) := by rw [hs.H]; exact hb
  obtain ⟨g, o1, _⟩ := hs.heap.obj b p hbM
  obtain ⟨M', h1, h2, h3⟩ := hs.objW hbM o1 (hw M.w g)
  rw [← h1]
  exact wpList_monoQ (fun e a w => Lift.ext h3) _ _ _ (h base w0 M' a h2)
theorem ao_root (b : Nat) {p : ObjP} (hb : St.H ⟨n, env, heap, nx, gl⟩ b = some (.obj p))
    (h : ∀ k, AOps P ops Q l0 ⟨n, env, (b, some (.obj (p.at k))) :: heap, nx, gl⟩) : AOps P ops Q l0 ⟨n, env, heap, nx, gl⟩ := by
  intro base w0 M a hs
  have hbM : M.H b = some (.obj p) := by rw [hs.H]; exact hb
  obtain ⟨g, o1, _⟩ := hs.heap.obj b p hbM
  obtain ⟨M', h1, h2, h3⟩ := hs.objW (p' := p.at g) hbM o1 (fun fp h1 h2 => ⟨fp, ⟨rfl, h1⟩, h2, fun _ h => h⟩)
  rw [← h1]
  exact wpList_monoQ (fun e a w => Lift.ext h3) _ _ _ (h g base w0 M' a h2)
theorem ao_slot (i b k : Nat) {p : ObjP} {x : AV} {v : Value} (hb : St.H ⟨n, env, heap, nx, gl⟩ b = some (.obj (p.at k))) (hi : look i env = some x) (hv : valOf b k x = some v)
    (h : AOps P ops Q l0 ⟨n, (i, .c (.v v)) :: env, heap, nx, gl⟩) : AOps P ops Q l0 ⟨n, env, heap, nx, gl⟩ := by
  intro base w0 M a hs
  have hm := hs.root (by rw [hs.H]; exact hb)
  refine h base w0 M a ⟨hs.H, hs.nx, hs.n, fun j y hy => ?_, hs.gl, hs.heap, hs.below, hs.base, hs.defs, hs.old⟩
  have hy : look j ((i, AV.c (.v v)) :: env) = some y := hy
  rw [look_cons] at hy
  by_cases hj : i = j
  · subst hj
    rw [if_pos rfl] at hy
    simp only [Option.some.injEq] at hy; subst hy
    obtain ⟨u, h1, h2⟩ := hs.env i x hi
    exact ⟨u, h1, by rw [valOf_eq hm h2 hv]; exact .c (.v v)⟩
  · rw [if_neg hj] at hy
    exact hs.env j y hy
theorem ao_boxObjR (b2 b k : Nat) {t : Nat} {l : List AV} {vs : List Value} {p q : ObjP} (hb2 : St.H ⟨n, env, heap, nx, gl⟩ b2 = some (.cells t l)) (hb : St.H ⟨n, env, heap, nx, gl⟩ b = some (.obj (p.at k))) (hv : valsOf b k l = some vs) (hq : ∀ (w : World) (g : Nat), w.heap[g]? = some (.cells vs.toArray t (0, 0)) → q.holds w g (fun k => k = g))
    (h : AOps P ops Q l0 ⟨n, env, (b2, some (.obj q)) :: heap, nx, gl⟩) : AOps P ops Q l0 ⟨n, env, heap, nx, gl⟩ := by
  intro base w0 M a hs
  have hm := hs.root (by rw [hs.H]; exact hb)
  obtain ⟨e1, e2⟩ := valsOf_get hv
  obtain ⟨M', h1, h2, h3⟩ := hs.boxObjG (vs := vs) hb2 (fun arr h1 h2 => by
    apply Array.ext_getElem?
    intro i
    by_cases hi : i < vs.length
    · have hia : i < arr.size := by omega
      have hil : i < l.length := by omega
      have := valOf_eq hm (h2 i l[i] arr[i] (by simp [hil]) (by simp [hia])) (e2 i l[i] vs[i] (by simp [hil]) (by simp [hi]))
      simp [hia, hi, this]
    · rw [Array.getElem?_eq_none (by omega), Array.getElem?_eq_none (by simp; omega)]) hq
  rw [← h1]
  exact wpList_monoQ (fun e a w => Lift.ext h3) _ _ _ (h base w0 M' a h2)
theorem ao_join (b b2 k2 : Nat) {p q : ObjP} (hb : St.H ⟨n, env, heap, nx, gl⟩ b = some (.obj p)) (hb2 : St.H ⟨n, env, heap, nx, gl⟩ b2 = some (.obj (q.at k2))) (hne : Nat.beq b b2 = false)
    (h : AOps P ops Q l0 ⟨n, env, (b, some (.obj (starP p k2 q))) :: (b2, none) :: heap, nx, gl⟩) : AOps P ops Q l0 ⟨n, env, heap, nx, gl⟩ := by
  intro base w0 M a hs
  obtain ⟨M', h1, h2, h3⟩ := hs.join (by rw [hs.H]; exact hb) (by rw [hs.H]; exact hb2) (beq_false hne)
  rw [← h1]
  exact wpList_monoQ (fun e a w => Lift.ext h3) _ _ _ (h base w0 M' a h2)
end
theorem ao_nilvec {P : Program} {ops : Array Oper} {l0 : List Oper} {Q : Exit → St → Prop} {n : Nat} {env : List (Nat × AV)} {heap : List (Nat × Option AB)} {nx : Nat} {gl : List (Nat × List CV)} (i E size : Nat) (hi : look i env = some (.c (.v (.slice none 0 0)))) (hpos : Nat.blt 0 size = true) (h : AOps P ops Q l0 ⟨n, (i, .vec nx 0) :: env, (nx, some (.vec E size [])) :: heap, nx + 1, gl⟩) : AOps P ops Q l0 ⟨n, env, heap, nx, gl⟩ := by
  intro base w0 M a hs
  obtain ⟨M', m1, m2, m3, m4⟩ := hs.newNil E size (blt_true hpos)
  obtain ⟨v, g1, g2⟩ := hs.env i _ hi
  have hv := g2.bool
  subst hv
  have hs' : Sim base w0 ⟨n, (i, .vec nx 0) :: env, (nx, some (.vec E size [])) :: heap, nx + 1, gl⟩ M' a := by
    refine ⟨m3.H, m3.nx, m3.n, fun j y hy => ?_, m3.gl, m3.heap, m3.below, m3.base, m3.defs, m3.old⟩
    rw [look_cons] at hy
    split at hy
    · rename_i hj; subst hj; simp only [Option.some.injEq] at hy; subst hy
      refine ⟨_, g1, .vec (by rw [m3.nx]; exact Nat.lt_succ_self _) rfl (fun E' s' l' hl => ?_)⟩
      have hl' : some (AB.vec E size []) = some (.vec E' s' l') := by
        have : (St.new ⟨n, env, heap, nx, gl⟩ (.vec E size [])).H nx = some (.vec E' s' l') := by rw [← m3.H]; exact hl
        rwa [H_new, if_pos rfl] at this
      simp only [Option.some.injEq, AB.vec.injEq] at hl'
      obtain ⟨rfl, rfl, rfl⟩ := hl'
      exact ⟨by simp, fun _ => by rw [← show M.nx = nx from hs.nx]; exact m2⟩
    · exact m3.env j y hy
  rw [← m1]
  exact wpList_monoQ (fun e a w => Lift.ext m4) _ _ _ (h base w0 M' a hs')
section
variable {P : Program} {ops : Array Oper} {Q : Exit → St → Prop} {rest : List Oper} {d : Nat} {ty : TypeId} {pos : String} {af : Array Edge} {n : Nat} {env : List (Nat × AV)} {heap : List (Nat × Option AB)} {nx : Nat} {gl : List (Nat × List CV)}
theorem r_invokeO0 {f : FuncId} {t b : Nat} {name : String} {recv : Operand} {r : CV} {p p' : ObjP} [I : MethT P t name f] (hr : St.ev ⟨n, env, heap, nx, gl⟩ recv = some (.ref b (ifcP t))) (hcon : OCon P gl f [.p] p r p') (hb : St.H ⟨n, env, heap, nx, gl⟩ b = some (.obj p)) (hd : Nat.blt d n = true)
    (h : AOps P ops Q rest ⟨n, (d, ofC r) :: env, (b, some (.obj p')) :: heap, nx, gl⟩) : AOps P ops Q (⟨some d, .call ⟨.invoke recv name, #[], #[]⟩, ty, pos, af, none⟩ :: rest) ⟨n, env, heap, nx, gl⟩ :=
  r_invokeO (args := []) (tys := #[]) hr hcon rfl rfl hb hd h
theorem r_invokeC0 {f : FuncId} {t k : Nat} {name : String} {recv : Operand} {r : CV} {p p' : ObjP} (b : Nat) [I : MethT P t name f] (hr : St.ev ⟨n, env, heap, nx, gl⟩ recv = some (.c (.v (ifcP t k)))) (hcon : OCon P gl f [.c (ptrV k 0)] p r p') (hb : St.H ⟨n, env, heap, nx, gl⟩ b = some (.obj p)) (hd : Nat.blt d n = true)
    (h : AOps P ops Q rest ⟨n, (d, ofC r) :: env, (b, some (.obj p')) :: heap, nx, gl⟩) : AOps P ops Q (⟨some d, .call ⟨.invoke recv name, #[], #[]⟩, ty, pos, af, none⟩ :: rest) ⟨n, env, heap, nx, gl⟩ :=
  r_invokeC (args := []) (tys := #[]) b hr hcon rfl rfl hb hd h
end
section
variable {P : Program} {X : List Oper → St → Prop} {rest : List Oper} {d : Nat} {ty : TypeId} {pos : String} {af : Array Edge} {n : Nat} {env : List (Nat × AV)} {heap : List (Nat × Option AB)} {nx : Nat} {gl : List (Nat × List CV)}
theorem chg_same {base : Nat} {w0 : W0} {s : St} {M : Wd} {a : Act} {b : Nat} {p : ObjP} (hb : M.H b = some (.obj p)) {g : Nat} (hm : M.m b = .blk g) {fp' : Nat → Prop} {w' : World} (h : OPost M.w M.F (M.fp b) g p fp' w') (hs : Sim base w0 s M a) : Sim base w0 s (M.chg b p fp' w') a := by
  obtain ⟨h1, _⟩ := hs.chg hb hm h
  refine ⟨?_, h1.nx, h1.n, h1.env, h1.gl, h1.heap, h1.below, h1.base, h1.defs, h1.old⟩
  funext k
  show (if b = k then some (AB.obj p) else M.H k) = s.H k
  by_cases hk : b = k
  · subst hk; rw [if_pos rfl, ← hs.H, hb]
  · rw [if_neg hk, hs.H]
theorem ext_same {M : Wd} {base : Nat} (hok : HeapOK M base) {b : Nat} {p : ObjP} (hb : M.H b = some (.obj p)) {g : Nat} {fp' : Nat → Prop} {w' : World} (h : OPost M.w M.F (M.fp b) g p fp' w') : Ext M (M.chg b p fp' w') := by
  obtain ⟨g0, _, _, _, o4, _⟩ := hok.obj b p hb
  refine ⟨fun _ _ h => h, fun k E size l' _ hl => ⟨l', ?_, Nat.le_refl _, fun _ => rfl⟩, Nat.le_refl _, fun k hk => ⟨Or.inl hk, h.block k (hok.frz k hk) (fun hf => (o4 k hf).2.2 hk)⟩⟩
  have hl : (if b = k then some (AB.obj p) else M.H k) = some (.vec E size l') := hl
  by_cases hk : b = k
  · rw [if_pos hk] at hl; cases hl
  · rwa [if_neg hk] at hl
theorem r_callqO [W : Walk P X] {f : FuncId} {args : List Operand} {tys : Array TypeId} {ys : List AV} {zs : List OA} {r : CV} {y : AV} {p : ObjP} (b : Nat) (hcon : OCon P gl f zs p r p) (hys : evs ⟨n, env, heap, nx, gl⟩ args = some ys) (hz : oas b ys = some zs) (hb : St.H ⟨n, env, heap, nx, gl⟩ b = some (.obj p)) (hy : ofC r = y) (hd : Nat.blt d n = true)
    (h : X rest ⟨n, (d, y) :: env, heap, nx, gl⟩) : X (⟨some d, .call ⟨.value (.func f), args.toArray, tys⟩, ty, pos, af, none⟩ :: rest) ⟨n, env, heap, nx, gl⟩ := by
  subst hy
  refine W.step (st := ⟨n, env, heap, nx, gl⟩) rfl rfl hd (fun base w0 M a hs K Q hK => ?_) h
  have hbM : M.H b = some (.obj p) := hs.H _ _ hb
  obtain ⟨e1, e2⟩ := evs_get hys
  obtain ⟨e3, e4⟩ := oas_get hz
  obtain ⟨g, o1, o2, o3, o4, o5⟩ := hs.sim.heap.obj b p hbM
  unfold Oper.wp
  rw [run_call hcon.1 a M.w]
  refine Calls.mono (hcon.2 M.w M.F (M.fp b) g _ hs.sim.heap.frz (fun g xs hg => ?_) o3 o2 (fun k hk => (o4 k hk).2) (by simp; omega) (fun i x u hx hu => ?_)) (fun e w'' hR => ?_)
  · have := hs.sim.gl g xs hg
    generalize hq : Value.pointer (some ⟨g, 0, none⟩) = q at this ⊢
    cases this with
    | eptr cs hF hcell hr => exact .eptr cs hF hcell hr
  · have hi : i < args.length := by have := (List.getElem?_eq_some_iff.1 hx).1; omega
    obtain ⟨y, hy⟩ : ∃ y, ys[i]? = some y := ⟨_, List.getElem?_eq_getElem (by omega)⟩
    have hev := hs.ev (by simp [Op.operands, Call.operands]; exact Or.inr (List.getElem_mem hi)) (e2 i args[i] y (by simp [hi]) hy)
    have hu' : a.eval args[i] = u := by simpa [hi] using hu
    rw [hu'] at hev
    exact oaOf_rel hs.sim.heap o1 hev (e4 i y x hy hx)
  · obtain ⟨v, fp', rfl, hp, hrc⟩ := hR
    exact hK v (M.chg b p fp' w'') (ext_same hs.sim.heap hbM hp) (fun s hs' => chg_same hbM o1 hp hs') (RA.ofC (M := M.chg b p fp' w'') hrc)
theorem r_invokeq [W : Walk P X] {f : FuncId} {t k : Nat} {name : String} {recv : Operand} {r : CV} {y : AV} {p : ObjP} (b : Nat) [I : MethT P t name f] (hr : St.ev ⟨n, env, heap, nx, gl⟩ recv = some (.c (.v (ifcP t k)))) (hcon : OCon P gl f [.c (ptrV k 0)] p r p) (hb : St.H ⟨n, env, heap, nx, gl⟩ b = some (.obj p)) (hy : ofC r = y) (hd : Nat.blt d n = true)
    (h : X rest ⟨n, (d, y) :: env, heap, nx, gl⟩) : X (⟨some d, .call ⟨.invoke recv name, #[], #[]⟩, ty, pos, af, none⟩ :: rest) ⟨n, env, heap, nx, gl⟩ := by
  subst hy
  refine W.step (st := ⟨n, env, heap, nx, gl⟩) rfl rfl hd (fun base w0 M a hs K Q hK => ?_) h
  have hbM : M.H b = some (.obj p) := hs.H _ _ hb
  obtain ⟨g, o1, o2, o3, o4, o5⟩ := hs.sim.heap.obj b p hbM
  have hrv : a.eval recv = ifcP t k := (hs.ev (by simp [Op.operands, Call.operands]) hr).bool
  unfold Oper.wp
  have hrun := run_invoke (dst := some d) (ty := ty) (pos := pos) (af := af) (args := []) (tys := #[]) hcon.1 I a M.w hrv
  simp only [List.map_nil] at hrun
  rw [hrun]
  refine Calls.mono (hcon.2 M.w M.F (M.fp b) g _ hs.sim.heap.frz (fun g xs hg => ?_) o3 o2 (fun k hk => (o4 k hk).2) (by simp) (fun i x u hx hu => ?_)) (fun e w'' hR => ?_)
  · have := hs.sim.gl g xs hg
    generalize hq : Value.pointer (some ⟨g, 0, none⟩) = q at this ⊢
    cases this with
    | eptr cs hF hcell hr => exact .eptr cs hF hcell hr
  · cases i with
    | zero => simp at hx hu; subst hx; subst hu; exact RC.v _
    | succ i => simp at hx
  · obtain ⟨v, fp', rfl, hp, hrc⟩ := hR
    exact hK v (M.chg b p fp' w'') (ext_same hs.sim.heap hbM hp) (fun s hs' => chg_same hbM o1 hp hs') (RA.ofC (M := M.chg b p fp' w'') hrc)
end
section
variable {P : Program} {X : List Oper → St → Prop} {rest : List Oper} {d : Nat} {ty : TypeId} {pos : String} {af : Array Edge} {n : Nat} {env : List (Nat × AV)} {heap : List (Nat × Option AB)} {nx : Nat} {gl : List (Nat × List CV)}
theorem r_eqnil1 [W : Walk P X] {x y : Operand} {t t2 : TypeId} {p : Addr} [I : PtrT P t] (hx : St.ev ⟨n, env, heap, nx, gl⟩ x = some (.c (.v (.pointer (some p))))) (hy : St.ev ⟨n, env, heap, nx, gl⟩ y = some (.c (.v (.pointer none)))) (hd : Nat.blt d n = true) (h : X rest ⟨n, (d, .c (.v (.bool false))) :: env, heap, nx, gl⟩) : X (⟨some d, .binOp .eql t x y t2, ty, pos, af, none⟩ :: rest) ⟨n, env, heap, nx, gl⟩ :=
  r_eqnilc hx hy hd h
end
end Go.Proofs.Ythkjkhffljlidaa.Ev
/- Contracts of functions that make an object and return two values, out of walks of their bodies. Nothing here names a program. -/
namespace Go.Proofs.Ythkjkhffljlidaa.Ev
set_option linter.unusedVariables false
set_option linter.unusedSimpArgs false
open Go.RowKit
def NConE {Γ : Type} (P : Program) (gl : List (Nat × List CV)) (f : FuncId) (args : List CV) (rs : Γ → List OA) (p : Γ → ObjP) : Prop :=
  callableB P f = true ∧ ∀ (w : World) (F : Nat → Prop) (vals : Array Value), (∀ b, F b → b < w.heap.size) → GlOK gl F w → args.length = vals.size → (∀ (i : Nat) (x : CV) (u : Value), args[i]? = some x → vals[i]? = some u → RC F w x u) →
    Calls P f vals w fun e w' => ∃ γ vs g fp, e = .returned (.tuple vs) ∧ NPost w g (p γ) fp w' ∧ (rs γ).length = vs.size ∧ ∀ (i : Nat) (x : OA) (u : Value), (rs γ)[i]? = some x → vs[i]? = some u → x.rel (nF w F fp w') w' g u ∧ (∀ fn, x = .o fn → u.oneCell' = true)
def oaC (H : Nat → Option AB) (b : Nat) (y : AV) : OA → Prop
  | .p => y = .ptr b 0
  | .c x => cl H y x
  | .o _ => False
def NRet2 {Γ : Type} (t1 t2 : Nat) (r1 r2 : Γ → OA) (p : Γ → ObjP) : Exit → St → Prop :=
  fun e st => (e = .normal ∨ e = .ret) ∧ ∃ γ b y1 y2, st.H b = some (.obj (p γ)) ∧ look t1 st.env = some y1 ∧ look t2 st.env = some y2 ∧ oaC st.H b y1 (r1 γ) ∧ oaC st.H b y2 (r2 γ)
theorem nconE_of {Γ : Type} {P : Program} {gl : List (Nat × List CV)} {f : FuncId} {fn : Func} {c : Code} {args : List CV} {t1 t2 : Nat} {r1 r2 : Γ → OA} {p : Γ → ObjP} (hf : P.funcs[f]? = some fn) (hb : fn.body = some c) (hr : fn.results = #[.tmp t1, .tmp t2]) (hcall : callableB P f = true) (hn : Nat.ble args.length fn.ntmps = true)
    (h : Awp P c (NRet2 t1 t2 r1 r2 p) { n := fn.ntmps, env := argEnv 0 args, heap := [], nx := 0, gl := gl }) : NConE P gl f args (fun γ => [r1 γ, r2 γ]) p := by
  refine ⟨hcall, fun w F vals hF hgl hl hv => ?_⟩
  have hle := Nat.le_of_ble_eq_true hn
  refine calls_of_wp hf hb ?_
  have hsim : Sim w.heap.size ⟨w, F⟩ { n := fn.ntmps, env := argEnv 0 args, heap := [], nx := 0, gl := gl } { m := fun _ => .row undef, H := fun _ => none, nx := 0, F := F, w := w, fp := fun _ _ => False } { tmps := vals ++ Array.replicate (fn.ntmps - vals.size) undef, defers := [] } := by
    refine ⟨rfl, rfl, by simp; omega, fun i y hy => ?_, hgl, ⟨?_, ?_, fun b b' g _ h => absurd rfl h, fun b h => absurd rfl h, ?_, hF, ?_⟩, Below.refl _ _, Nat.le_refl _, rfl, fun b h _ => h⟩
    rotate_left
    · intro b t l h; cases h
    · intro b E s l h; cases h
    · intro b _ g h; cases h
    · intro b p h; cases h
    obtain ⟨x, _, h1, rfl⟩ := argEnv_get args 0 i y hy
    rw [Nat.sub_zero] at h1
    have hi : i < vals.size := by have := (List.getElem?_eq_some_iff.1 h1).1; omega
    refine ⟨vals[i], by simp [Array.getElem?_append, hi], RA.ofC (M := { m := fun _ => .row undef, H := fun _ => none, nx := 0, F := F, w := w, fp := fun _ _ => False }) (hv i x _ h1 (by simp [hi]))⟩
  refine Code.wp_mono ?_ (h _ _ _ _ hsim)
  intro e a' w' ⟨M', st', h1, h2, h3, he, γ, b, y1, y2, q1, q2, q3, q4, q5⟩
  subst h1
  obtain ⟨g, o1, o2, o3, o4, o5⟩ := h2.heap.obj b _ (by rw [h2.H]; exact q1)
  obtain ⟨u1, s1, s2⟩ := h2.env t1 y1 q2
  obtain ⟨u2, s3, s4⟩ := h2.env t2 y2 q3
  have hres : (results fn a'.tmps).run P M'.w = .ok (.tuple #[u1, u2]) M'.w := by
    unfold results
    rw [hr]
    simp [Array.getD_eq_getD_getElem?, s1, s3]
  have hF' : ∀ k, M'.F k → nF w F (M'.fp b) M'.w k := fun k hk => by
    rcases Nat.lt_or_ge k w.heap.size with hc | hc
    · exact .inl (h2.old k hk hc)
    · exact .inr ⟨hc, h2.heap.frz k hk, fun hf => (o4 k hf).2.2 hk⟩
  have hvec : ∀ b' E s l, st'.H b' = some (.vec E s l) → M'.H b' = some (.vec E s l) ∧ ∀ q, (M'.m b').block = some q → nF w F (M'.fp b) M'.w q := fun b' E s l hb' => by
    rw [← h2.H] at hb'
    refine ⟨hb', fun q hq => ?_⟩
    obtain ⟨v, n, cs, e1, _, _, e4, _⟩ := h2.heap.vec b' E s l hb'
    rw [e1] at hq
    obtain ⟨f1, f2⟩ := World.ownsRow.lt e4 q hq
    have hbb : b' ≠ b := fun e => by rw [e, h2.H, q1] at hb'; cases hb'
    exact .inr ⟨f1, f2, fun hf => (o5 b' q hbb hf).1 (by rw [hb']; simp) (by rw [e1]; exact hq)⟩
  have hone : ∀ (x : OA) (y : AV) (u : Value), RA M' y u → oaC st'.H b y x → x.rel (nF w F (M'.fp b) M'.w) M'.w g u ∧ (∀ fn, x = .o fn → u.oneCell' = true) := fun x y u hu hx => by
    cases x with
    | c x => exact ⟨cl_rc h2.heap hF' hvec hu hx, fun fn h => by cases h⟩
    | o f => exact absurd hx id
    | p =>
      cases (show y = .ptr b 0 from hx)
      cases hu with
      | ptr hm => rw [o1] at hm; cases hm; exact ⟨rfl, fun fn h => by cases h⟩
  have hpost : bodyPost P fn (fun e w' => ∃ γ vs g fp, e = .returned (.tuple vs) ∧ NPost w g (p γ) fp w' ∧ [r1 γ, r2 γ].length = vs.size ∧ ∀ (i : Nat) (x : OA) (u : Value), [r1 γ, r2 γ][i]? = some x → vs[i]? = some u → x.rel (nF w F fp w') w' g u ∧ (∀ fn, x = .o fn → u.oneCell' = true)) e a' M'.w := by
    have key : ∃ γ vs g fp, (Ending.returned (.tuple #[u1, u2])) = .returned (.tuple vs) ∧ NPost w g (p γ) fp M'.w ∧ [r1 γ, r2 γ].length = vs.size ∧ ∀ (i : Nat) (x : OA) (u : Value), [r1 γ, r2 γ][i]? = some x → vs[i]? = some u → x.rel (nF w F fp M'.w) M'.w g u ∧ (∀ fn, x = .o fn → u.oneCell' = true) := by
      refine ⟨γ, _, g, M'.fp b, rfl, ⟨h2.below, o3, o2, fun k hk => ⟨(o4 k hk).1, (o4 k hk).2.1⟩⟩, rfl, fun i x u hx hu => ?_⟩
      match i with
      | 0 => simp at hx hu; subst hx; subst hu; exact hone _ _ _ s2 q4
      | 1 => simp at hx hu; subst hx; subst hu; exact hone _ _ _ s4 q5
      | i + 2 => simp at hx
    rcases he with rfl | rfl
    · exact ⟨h2.defs, _, hres, key⟩
    · exact ⟨h2.defs, _, hres, key⟩
  exact hpost
section
variable {P : Program} {ops : Array Oper} {Q : Exit → St → Prop} {rest : List Oper} {d : Nat} {ty : TypeId} {pos : String} {af : Array Edge} {n : Nat} {env : List (Nat × AV)} {heap : List (Nat × Option AB)} {nx : Nat} {gl : List (Nat × List CV)}
theorem r_callNE {Γ : Type} {f : FuncId} {args : List Operand} {tys : Array TypeId} {ys : List AV} {zs : List CV} {rs : Γ → List OA} {p : Γ → ObjP} (hcon : NConE P gl f zs rs p) (hys : evs ⟨n, env, heap, nx, gl⟩ args = some ys) (hz : cl.clL (fun _ => none) ys zs) (hd : Nat.blt d n = true)
    (h : ∀ γ, AOps P ops Q rest ⟨n, (d, .tup ((rs γ).map (avOf nx))) :: env, (nx, some (.obj (p γ))) :: heap, nx + 1, gl⟩) : AOps P ops Q (⟨some d, .call ⟨.value (.func f), args.toArray, tys⟩, ty, pos, af, none⟩ :: rest) ⟨n, env, heap, nx, gl⟩ := by
  intro base w0 M a hs
  obtain ⟨e1, e2⟩ := evs_get hys
  obtain ⟨e3, e4⟩ := clL_get hz
  refine wl_enter rfl (run_call hcon.1 a M.w) (R := fun v w'' => ∃ γ vs g fp, v = .tuple vs ∧ NPost M.w g (p γ) fp w'' ∧ (rs γ).length = vs.size ∧ ∀ (i : Nat) (x : OA) (u : Value), (rs γ)[i]? = some x → vs[i]? = some u → x.rel (nF M.w M.F fp w'') w'' g u ∧ (∀ fn, x = .o fn → u.oneCell' = true)) (Calls.mono (hcon.2 M.w M.F _ hs.heap.frz (fun g xs hg => ?_) (by simp; omega) (fun i x u hx hu => ?_)) (fun e w'' ⟨γ, vs, g, fp, he, hp, hrc⟩ => ⟨_, he, γ, vs, g, fp, rfl, hp, hrc⟩)) (fun v w'' hR => ?_)
  · have := hs.gl g xs hg
    generalize hq : Value.pointer (some ⟨g, 0, none⟩) = q at this ⊢
    cases this with
    | eptr cs hF hcell hr => exact .eptr cs hF hcell hr
  · have hi : i < args.length := by have := (List.getElem?_eq_some_iff.1 hx).1; omega
    obtain ⟨y, hy⟩ : ∃ y, ys[i]? = some y := ⟨_, List.getElem?_eq_getElem (by omega)⟩
    have hev := hs.ev (e2 i args[i] y (by simp [hi]) hy)
    have hu' : a.eval args[i] = u := by simpa [hi] using hu
    rw [hu'] at hev
    exact cl_rc hs.heap (F' := M.F) (fun _ h => h) (H := fun _ => none) (fun b E s l hb => by cases hb) hev (e4 i y x hy hx)
  · obtain ⟨γ, vs, g, fp, rfl, hp, hlen, hrel⟩ := hR
    obtain ⟨M', h1, h2, h3, h4, h5⟩ := hs.newO hp
    have hra : RA M' (.tup ((rs γ).map (avOf nx))) (.tuple vs) := by
      refine .tup (by simpa using hlen) (fun i x u hx hu => ?_)
      rw [List.getElem?_map, Option.map_eq_some_iff] at hx
      obtain ⟨y, hy, rfl⟩ := hx
      obtain ⟨r1, r2⟩ := hrel i y u hy hu
      rw [← show M.nx = nx from hs.nx]
      exact avOf_ra h3 (by rw [h2, h1]; exact r1) r2
    have := h γ base w0 M' _ (h4.put hd hra)
    rw [← h1]
    exact wpList_monoQ (fun e a w => Lift.ext h5) _ _ _ this
end
end Go.Proofs.Ythkjkhffljlidaa.Ev
/- Rules of a walk: a nil slice as an empty closed list. Nothing here names a program. -/
namespace Go.Proofs.Ythkjkhffljlidaa.Ev
set_option linter.unusedVariables false
set_option linter.unusedSimpArgs false
open Go.RowKit
section
variable {P : Program} {Q : Exit → St → Prop} {n : Nat} {env : List (Nat × AV)} {heap : List (Nat × Option AB)} {nx : Nat} {gl : List (Nat × List CV)}
theorem aw_nilS {c : Code} (i size : Nat) (hi : look i env = some (.c (.v (.slice none 0 0))))
    (h : Awp P c Q ⟨n, (i, .c (.lst size [])) :: env, heap, nx, gl⟩) : Awp P c Q ⟨n, env, heap, nx, gl⟩ := by
  intro base w0 M a hs
  refine h base w0 M a ⟨hs.H, hs.nx, hs.n, fun j y hy => ?_, hs.gl, hs.heap, hs.below, hs.base, hs.defs, hs.old⟩
  have hy : look j ((i, AV.c (.lst size [])) :: env) = some y := hy
  rw [look_cons] at hy
  by_cases hj : i = j
  · subst hj
    rw [if_pos rfl] at hy
    simp only [Option.some.injEq] at hy; subst hy
    obtain ⟨u, h1, h2⟩ := hs.env i _ hi
    have := h2.bool
    subst this
    exact ⟨_, h1, .c .nil⟩
  · rw [if_neg hj] at hy
    exact hs.env j y hy
end
theorem star_comm {p q r : ObjP} {a b : Nat} : ∀ w g fp, (starP (starP p a q) b r).holds w g fp → (starP (starP p b r) a q).holds w g fp :=
  fun w g fp ⟨F1, f3, ⟨f1, f2, h1, h2, h3, h4, h5, h6⟩, k2, k3, k4, k5, k6⟩ => ⟨fun j => f1 j ∨ f3 j, f2, ⟨f1, f3, h1, k2, h3, k4, fun j a c => k5 j ((h6 j).2 (.inl a)) c, fun j => Iff.rfl⟩, h2, .inl h3, h4,
    fun j c d => by
      rcases c with c | c
      · exact h5 j c d
      · exact k5 j ((h6 j).2 (.inr d)) c,
    fun j => by
      rw [k6 j, h6 j]
      constructor
      · rintro ((c | c) | c)
        · exact .inl (.inl c)
        · exact .inr c
        · exact .inl (.inr c)
      · rintro ((c | c) | c)
        · exact .inl (.inl c)
        · exact .inr c
        · exact .inl (.inr c)⟩
theorem OCon.conv {P : Program} {gl : List (Nat × List CV)} {f : FuncId} {args : List OA} {p q p' q' : ObjP} {r : CV} (h : OCon P gl f args q r q') (h1 : ∀ w g fp, p.holds w g fp → q.holds w g fp) (h2 : ∀ w g fp, q'.holds w g fp → p'.holds w g fp) : OCon P gl f args p r p' :=
  ⟨h.1, fun w F fp g vals a b c d e f' g' => (h.2 w F fp g vals a b (h1 _ _ _ c) d e f' g').mono fun _ _ ⟨v, fp', x, y, z⟩ => ⟨v, fp', x, ⟨y.os, y.tape, y.output, y.size, y.block, h2 _ _ _ y.holds, y.root, y.lt⟩, z⟩⟩
theorem OCon.under {P : Program} {gl : List (Nat × List CV)} {f : FuncId} {args : List OA} {p p' s s' : ObjP} {b : Nat} {r : CV} (h : OCon P gl f args (starP p b s) r (starP p' b s')) (a : Nat) (q : ObjP) : OCon P gl f args (starP (starP p a q) b s) r (starP (starP p' a q) b s') :=
  (h.left a q).conv star_comm star_comm
end Go.Proofs.Ythkjkhffljlidaa.Ev
/- Rules of a walk: calls with five results that are walked through. Nothing here names a program. -/
namespace Go.Proofs.Ythkjkhffljlidaa.Ev
set_option linter.unusedVariables false
set_option linter.unusedSimpArgs false
open Go.RowKit
section
variable {P : Program} {ops : Array Oper} {Q : Exit → St → Prop} {rest : List Oper} {d : Nat} {ty : TypeId} {pos : String} {af : Array Edge} {n : Nat} {env : List (Nat × AV)} {heap : List (Nat × Option AB)} {nx : Nat} {gl : List (Nat × List CV)}
theorem ao_weak {l : List Oper} {s s' : St} (hw : Weak s s') (hn : s.nx ≤ s'.nx) (h : AOps P ops Q l s') : AOps P ops Q l s := by
  intro base w0 M a hs
  exact wpList_monoQ (fun e a w hh => Lift.ext ((Ext.refl M).cut hs.heap.fresh hs.H hw (by rw [hs.nx]; exact hn)) hh) _ _ _ (h base w0 (M.cut s') a (hs.weak hw))
theorem weak_env {n' : Nat} {env' env2 : List (Nat × AV)} {heap' : List (Nat × Option AB)} {nx' : Nat} (h : Weak ⟨n', env', heap, nx, gl⟩ ⟨n', [], heap', nx', gl⟩) (he : EnvW ⟨n, env, heap, nx, gl⟩ nx' env2) : Weak ⟨n, env, heap, nx, gl⟩ ⟨n, env2, heap', nx', gl⟩ :=
  ⟨rfl, rfl, h.nx, fun i x hx => EnvW.get he i x hx, h.heap⟩
def Back5 (t1 t2 t3 t4 t5 : Nat) (gl : List (Nat × List CV)) (K : List AV → List (Nat × Option AB) → Nat → Prop) : Exit → St → Prop
  | e, s => (e = .normal ∨ e = .ret) ∧ s.gl = gl ∧ ∃ y1 y2 y3 y4 y5, look t1 s.env = some y1 ∧ look t2 s.env = some y2 ∧ look t3 s.env = some y3 ∧ look t4 s.env = some y4 ∧ look t5 s.env = some y5 ∧ K [y1, y2, y3, y4, y5] s.heap s.nx
theorem back5_split {t1 t2 t3 t4 t5 : Nat} {K : List AV → List (Nat × Option AB) → Nat → Prop} {c : Code} {st : St} (L : (List AV → List (Nat × Option AB) → Nat → Prop) → Prop) (h1 : L K) (h2 : ∀ K', L K' → Awp P c (Back5 t1 t2 t3 t4 t5 gl K') st) : Awp P c (Back5 t1 t2 t3 t4 t5 gl K) st := h2 K h1
theorem back5_ret {t1 t2 t3 t4 t5 : Nat} {y1 y2 y3 y4 y5 : AV} {e : Exit} {K : List AV → List (Nat × Option AB) → Nat → Prop} (he : e = .normal ∨ e = .ret) (g1 : look t1 env = some y1) (g2 : look t2 env = some y2) (g3 : look t3 env = some y3) (g4 : look t4 env = some y4) (g5 : look t5 env = some y5) (hK : K [y1, y2, y3, y4, y5] heap nx) : Back5 t1 t2 t3 t4 t5 gl K e ⟨n, env, heap, nx, gl⟩ :=
  ⟨he, rfl, y1, y2, y3, y4, y5, g1, g2, g3, g4, g5, hK⟩
theorem r_in5 {f : FuncId} {fn : Func} {c : Code} {t1 t2 t3 t4 t5 nt : Nat} {args : List Operand} {tys : Array TypeId} {ys : List AV} {env' : List (Nat × AV)} (hf : P.funcs[f]? = some fn) (hb : fn.body = some c) (hr : fn.results = #[.tmp t1, .tmp t2, .tmp t3, .tmp t4, .tmp t5]) (hcall : callableB P f = true) (hnt : fn.ntmps = nt) (hys : evs ⟨n, env, heap, nx, gl⟩ args = some ys) (hn : Nat.ble ys.length nt = true) (he : argEnvA 0 ys = env') (hd : Nat.blt d n = true)
    (h : Awp P c (Back5 t1 t2 t3 t4 t5 gl (fun zs heap nx => AOps P ops Q rest ⟨n, (d, .tup zs) :: env, heap, nx, gl⟩)) ⟨nt, env', heap, nx, gl⟩) : AOps P ops Q (⟨some d, .call ⟨.value (.func f), args.toArray, tys⟩, ty, pos, af, none⟩ :: rest) ⟨n, env, heap, nx, gl⟩ := by
  subst hnt; subst he
  intro base w0 M a hs
  obtain ⟨e1, e2⟩ := evs_get hys
  have hn := Nat.le_of_ble_eq_true hn
  have hsim : Sim base w0 ⟨fn.ntmps, argEnvA 0 ys, heap, nx, gl⟩ M { tmps := (args.map a.eval).toArray ++ Array.replicate (fn.ntmps - (args.map a.eval).toArray.size) undef, defers := [] } := by
    refine ⟨hs.H, hs.nx, by simp; omega, fun i y hy => ?_, hs.gl, hs.heap, hs.below, hs.base, rfl, hs.old⟩
    obtain ⟨_, h1⟩ := argEnvA_get ys 0 i y hy
    rw [Nat.sub_zero] at h1
    have hi : i < args.length := by have := (List.getElem?_eq_some_iff.1 h1).1; omega
    exact ⟨a.eval args[i], by simp [Array.getElem?_append, hi], hs.ev (e2 i args[i] y (by simp [hi]) h1)⟩
  refine wl_enter rfl (run_call hcall a M.w) (R := fun v w'' => wpList P ops (Lift base w0 M Q) rest (a.put (some d) v) w'') (calls_of_wp hf hb ?_) (fun v w'' hR => hR)
  refine Code.wp_mono ?_ (h base w0 M _ hsim)
  intro e a' w' ⟨M', s', h1, h2, h3, h4, h5, y1, y2, y3, y4, y5, q1, q2, q3, q4, q5, h7⟩
  subst h1
  obtain ⟨v1, a1, b1⟩ := h2.env t1 y1 q1
  obtain ⟨v2, a2, b2⟩ := h2.env t2 y2 q2
  obtain ⟨v3, a3, b3⟩ := h2.env t3 y3 q3
  obtain ⟨v4, a4, b4⟩ := h2.env t4 y4 q4
  obtain ⟨v5, a5, b5⟩ := h2.env t5 y5 q5
  have hres : (results fn a'.tmps).run P M'.w = .ok (.tuple #[v1, v2, v3, v4, v5]) M'.w := by
    unfold results
    rw [hr]
    simp [Array.getD_eq_getD_getElem?, a1, a2, a3, a4, a5]
  have g2 : RA M' (.tup [y1, y2, y3, y4, y5]) (.tuple #[v1, v2, v3, v4, v5]) := .tup rfl (fun i x u hx hu => by
    match i with
    | 0 => simp at hx hu; subst hx; subst hu; exact b1
    | 1 => simp at hx hu; subst hx; subst hu; exact b2
    | 2 => simp at hx hu; subst hx; subst hu; exact b3
    | 3 => simp at hx hu; subst hx; subst hu; exact b4
    | 4 => simp at hx hu; subst hx; subst hu; exact b5
    | i + 5 => simp at hx)
  have hd' := blt_true hd
  have hcaller : Sim base w0 ⟨n, (d, .tup [y1, y2, y3, y4, y5]) :: env, s'.heap, s'.nx, gl⟩ M' (a.put (some d) (.tuple #[v1, v2, v3, v4, v5])) := by
    refine ⟨h2.H, h2.nx, by show (a.tmps.setIfInBounds d _).size = _; rw [Array.size_setIfInBounds]; exact hs.n, fun i z hz => ?_, fun g xs hg => h2.gl g xs (by rw [h5]; exact hg), h2.heap, h2.below, h2.base, by simpa [Act.put] using hs.defs, h2.old⟩
    rw [look_cons] at hz
    by_cases hi : d = i
    · subst hi
      rw [if_pos rfl] at hz
      simp only [Option.some.injEq] at hz; subst hz
      exact ⟨.tuple #[v1, v2, v3, v4, v5], by simp [Act.put, hs.n, hd'], g2⟩
    · rw [if_neg hi] at hz
      obtain ⟨u, q1, q2⟩ := hs.env i z hz
      exact ⟨u, by simp [Act.put, Array.getElem?_setIfInBounds_ne hi, q1], q2.mono h3⟩
  have hgoal : wpList P ops (Lift base w0 M Q) rest (a.put (some d) (.tuple #[v1, v2, v3, v4, v5])) M'.w := wpList_monoQ (fun e a w => Lift.ext h3) _ _ _ (h7 base w0 M' _ hcaller)
  have : bodyPost P fn (fun e w'' => ∃ v, e = .returned v ∧ wpList P ops (Lift base w0 M Q) rest (a.put (some d) v) w'') e a' M'.w := by
    rcases h4 with rfl | rfl
    · exact ⟨h2.defs, _, hres, _, rfl, hgoal⟩
    · exact ⟨h2.defs, _, hres, _, rfl, hgoal⟩
  exact this
end
end Go.Proofs.Ythkjkhffljlidaa.Ev
/- Rules of a walk: elements of an array in a box; a list in a cell of a box taken as a closed one, inside a region. Nothing here names a program. -/
namespace Go.Proofs.Ythkjkhffljlidaa.Ev
set_option linter.unusedVariables false
set_option linter.unusedSimpArgs false
open Go.RowKit
section
variable {P : Program} {ops : Array Oper} {Q : Exit → St → Prop} {X : List Oper → St → Prop} {rest : List Oper} {d : Nat} {ty : TypeId} {pos : String} {af : Array Edge} {n : Nat} {env : List (Nat × AV)} {heap : List (Nat × Option AB)} {nx : Nat} {gl : List (Nat × List CV)}
def arrPB (P : Program) (t len size : Nat) : Bool :=
  match P.underlying t with
  | some (.array l e) => match P.info? e with
    | some i => l == len && i.size == size
    | none => false
  | _ => false
class ArrP (P : Program) (t : Nat) (len size : outParam Nat) : Prop where
  h : arrPB P t len size = true
theorem r_index_p [W : Walk P X] {x y : Operand} {t : TypeId} {len size b off : Nat} {kk : IntKind} {idx : Int} [I : ArrP P t len size] (k : Nat) (hx : St.ev ⟨n, env, heap, nx, gl⟩ x = some (.ptr b off)) (hy : St.ev ⟨n, env, heap, nx, gl⟩ y = some (.c (.v (.int kk idx)))) (hk : idx = (k : Int)) (hlt : k < len) (hd : Nat.blt d n = true) (h : X rest ⟨n, (d, .ptr b (off + k * size)) :: env, heap, nx, gl⟩) : X (⟨some d, .indexAddr t x y, ty, pos, af, none⟩ :: rest) ⟨n, env, heap, nx, gl⟩ := by
  refine ao_val (st := ⟨n, env, heap, nx, gl⟩) rfl rfl hd (fun _ _ M a hs => ?_) h
  have hv := hs.ev (by simp [Op.operands, Call.operands]) hx
  have hw := (hs.ev (by simp [Op.operands, Call.operands]) hy).bool
  have hI := I.h
  unfold arrPB at hI
  split at hI
  · rename_i l e hu
    split at hI
    · rename_i i hi
      simp only [Bool.and_eq_true, beq_iff_eq] at hI
      obtain ⟨rfl, rfl⟩ := hI
      generalize he : a.eval x = u at hv
      cases hv with
      | ptr hm =>
        rename_i g
        refine ⟨.pointer (some ⟨g, off + k * i.size, none⟩), ?_, .ptr hm⟩
        simp only [execOp, he, hw]
        subst hk
        have e2 : (Addr.add ⟨g, off, none⟩ (k * i.size)) = ⟨g, off + k * i.size, none⟩ := Kit.addr_add g off _
        simp [Instr.indexAt, Instr.sureAddr, asIntOf, run_underlying hu, sizeOf, typeInfo, hi, hlt, e2]
    · cases hI
  · cases hI
end
section
variable {P : Program} {ops : Array Oper} {Q : Exit → St → Prop} {n nx : Nat} {env : List (Nat × AV)} {heap : List (Nat × Option AB)} {gl : List (Nat × List CV)}
theorem Con.args {gl : List (Nat × List CV)} {f : FuncId} {zs zs' : List CV} {r : CV} (h : Con P gl f zs r) (hl : zs.length = zs'.length) (hh : ∀ (i : Nat) (x x' : CV), zs[i]? = some x → zs'[i]? = some x' → x = x' ∨ (∃ size, x = .lst size []) ∧ x' = .v (.slice none 0 0)) : Con P gl f zs' r := by
  refine ⟨h.1, fun w F vs hF hgl hlen hv => h.2 w F vs hF hgl (by omega) fun i x u hx hu => ?_⟩
  have hi : i < zs'.length := by have := (List.getElem?_eq_some_iff.1 hx).1; omega
  have hx' : zs'[i]? = some zs'[i] := List.getElem?_eq_getElem hi
  have hr := hv i zs'[i] u hx' hu
  rcases hh i x _ hx hx' with e | ⟨⟨size, e1⟩, e2⟩
  · rw [e]; exact hr
  · rw [e2] at hr
    cases hr
    rw [e1]; exact .nil
end
end Go.Proofs.Ythkjkhffljlidaa.Ev
/- Rules of a walk: calls with two results that are walked through. Nothing here names a program. -/
namespace Go.Proofs.Ythkjkhffljlidaa.Ev
set_option linter.unusedVariables false
set_option linter.unusedSimpArgs false
open Go.RowKit
section
variable {P : Program} {ops : Array Oper} {Q : Exit → St → Prop} {X : List Oper → St → Prop} {rest : List Oper} {d : Nat} {ty : TypeId} {pos : String} {af : Array Edge} {n : Nat} {env : List (Nat × AV)} {heap : List (Nat × Option AB)} {nx : Nat} {gl : List (Nat × List CV)}
def Back2 (t1 t2 : Nat) (gl : List (Nat × List CV)) (K : List AV → List (Nat × Option AB) → Nat → Prop) : Exit → St → Prop
  | e, s => (e = .normal ∨ e = .ret) ∧ s.gl = gl ∧ ∃ y1 y2, look t1 s.env = some y1 ∧ look t2 s.env = some y2 ∧ K [y1, y2] s.heap s.nx
theorem back2_ret {t1 t2 : Nat} {y1 y2 : AV} {e : Exit} {K : List AV → List (Nat × Option AB) → Nat → Prop} (he : e = .normal ∨ e = .ret) (g1 : look t1 env = some y1) (g2 : look t2 env = some y2) (hK : K [y1, y2] heap nx) : Back2 t1 t2 gl K e ⟨n, env, heap, nx, gl⟩ :=
  ⟨he, rfl, y1, y2, g1, g2, hK⟩
theorem r_in2 {f : FuncId} {fn : Func} {c : Code} {t1 t2 nt : Nat} {args : List Operand} {tys : Array TypeId} {ys : List AV} {env' : List (Nat × AV)} (hf : P.funcs[f]? = some fn) (hb : fn.body = some c) (hr : fn.results = #[.tmp t1, .tmp t2]) (hcall : callableB P f = true) (hnt : fn.ntmps = nt) (hys : evs ⟨n, env, heap, nx, gl⟩ args = some ys) (hn : Nat.ble ys.length nt = true) (he : argEnvA 0 ys = env') (hd : Nat.blt d n = true)
    (h : Awp P c (Back2 t1 t2 gl (fun zs heap nx => AOps P ops Q rest ⟨n, (d, .tup zs) :: env, heap, nx, gl⟩)) ⟨nt, env', heap, nx, gl⟩) : AOps P ops Q (⟨some d, .call ⟨.value (.func f), args.toArray, tys⟩, ty, pos, af, none⟩ :: rest) ⟨n, env, heap, nx, gl⟩ := by
  subst hnt; subst he
  intro base w0 M a hs
  obtain ⟨e1, e2⟩ := evs_get hys
  have hn := Nat.le_of_ble_eq_true hn
  have hsim : Sim base w0 ⟨fn.ntmps, argEnvA 0 ys, heap, nx, gl⟩ M { tmps := (args.map a.eval).toArray ++ Array.replicate (fn.ntmps - (args.map a.eval).toArray.size) undef, defers := [] } := by
    refine ⟨hs.H, hs.nx, by simp; omega, fun i y hy => ?_, hs.gl, hs.heap, hs.below, hs.base, rfl, hs.old⟩
    obtain ⟨_, h1⟩ := argEnvA_get ys 0 i y hy
    rw [Nat.sub_zero] at h1
    have hi : i < args.length := by have := (List.getElem?_eq_some_iff.1 h1).1; omega
    exact ⟨a.eval args[i], by simp [Array.getElem?_append, hi], hs.ev (e2 i args[i] y (by simp [hi]) h1)⟩
  refine wl_enter rfl (run_call hcall a M.w) (R := fun v w'' => wpList P ops (Lift base w0 M Q) rest (a.put (some d) v) w'') (calls_of_wp hf hb ?_) (fun v w'' hR => hR)
  refine Code.wp_mono ?_ (h base w0 M _ hsim)
  intro e a' w' ⟨M', s', h1, h2, h3, h4, h5, y1, y2, q1, q2, h7⟩
  subst h1
  obtain ⟨v1, a1, b1⟩ := h2.env t1 y1 q1
  obtain ⟨v2, a2, b2⟩ := h2.env t2 y2 q2
  have hres : (results fn a'.tmps).run P M'.w = .ok (.tuple #[v1, v2]) M'.w := by
    unfold results
    rw [hr]
    simp [Array.getD_eq_getD_getElem?, a1, a2]
  have g2 : RA M' (.tup [y1, y2]) (.tuple #[v1, v2]) := .tup rfl (fun i x u hx hu => by
    match i with
    | 0 => simp at hx hu; subst hx; subst hu; exact b1
    | 1 => simp at hx hu; subst hx; subst hu; exact b2
    | i + 2 => simp at hx)
  have hd' := blt_true hd
  have hcaller : Sim base w0 ⟨n, (d, .tup [y1, y2]) :: env, s'.heap, s'.nx, gl⟩ M' (a.put (some d) (.tuple #[v1, v2])) := by
    refine ⟨h2.H, h2.nx, by show (a.tmps.setIfInBounds d _).size = _; rw [Array.size_setIfInBounds]; exact hs.n, fun i z hz => ?_, fun g xs hg => h2.gl g xs (by rw [h5]; exact hg), h2.heap, h2.below, h2.base, by simpa [Act.put] using hs.defs, h2.old⟩
    rw [look_cons] at hz
    by_cases hi : d = i
    · subst hi
      rw [if_pos rfl] at hz
      simp only [Option.some.injEq] at hz; subst hz
      exact ⟨.tuple #[v1, v2], by simp [Act.put, hs.n, hd'], g2⟩
    · rw [if_neg hi] at hz
      obtain ⟨u, q1, q2⟩ := hs.env i z hz
      exact ⟨u, by simp [Act.put, Array.getElem?_setIfInBounds_ne hi, q1], q2.mono h3⟩
  have hgoal : wpList P ops (Lift base w0 M Q) rest (a.put (some d) (.tuple #[v1, v2])) M'.w := wpList_monoQ (fun e a w => Lift.ext h3) _ _ _ (h7 base w0 M' _ hcaller)
  have : bodyPost P fn (fun e w'' => ∃ v, e = .returned v ∧ wpList P ops (Lift base w0 M Q) rest (a.put (some d) v) w'') e a' M'.w := by
    rcases h4 with rfl | rfl
    · exact ⟨h2.defs, _, hres, _, rfl, hgoal⟩
    · exact ⟨h2.defs, _, hres, _, rfl, hgoal⟩
  exact this
end
end Go.Proofs.Ythkjkhffljlidaa.Ev
