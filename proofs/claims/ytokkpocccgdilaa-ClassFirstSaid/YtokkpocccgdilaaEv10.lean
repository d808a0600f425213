/- Rules of a walk over abstract states: regions that draw their order. Nothing here names a program. -/
import Derived.Test.YtokkpocccgdilaaEv8
import Derived.StillTail
namespace Go.Proofs.Ytokkpocccgdilaa.Ev
set_option linter.unusedVariables false
set_option linter.unusedSimpArgs false
open Go.RowKit

structure StEq (s t : St) : Prop where
  n : s.n = t.n
  heap : s.heap = t.heap
  nx : s.nx = t.nx
  gl : s.gl = t.gl
  env : ∀ i, look i s.env = look i t.env
theorem StEq.symm {s t : St} (h : StEq s t) : StEq t s := ⟨h.n.symm, h.heap.symm, h.nx.symm, h.gl.symm, fun i => (h.env i).symm⟩
theorem StEq.put {s t : St} (h : StEq s t) (d : Nat) (y : AV) : StEq (s.put d y) (t.put d y) :=
  ⟨h.n, h.heap, h.nx, h.gl, fun i => by simp only [St.put, look_cons]; rw [h.env i]⟩
theorem StEq.comm (s : St) {d d' : Nat} (hne : d ≠ d') (y y' : AV) : StEq ((s.put d y).put d' y') ((s.put d' y').put d y) :=
  ⟨rfl, rfl, rfl, rfl, fun i => by
    simp only [St.put, look_cons]
    by_cases h1 : d' = i
    · subst h1; rw [if_pos rfl, if_neg hne, if_pos rfl]
    · rw [if_neg h1]; by_cases h2 : d = i
      · rw [if_pos h2, if_pos h2]
      · rw [if_neg h2, if_neg h2, if_neg h1]⟩
theorem StEq.H {s t : St} (h : StEq s t) : s.H = t.H := by unfold St.H; rw [h.heap]
theorem StEq.ev {s t : St} (h : StEq s t) (x : Operand) : s.ev x = t.ev x := by
  cases x with
  | tmp i => exact h.env i
  | const v => rfl
  | global g => simp only [St.ev, h.gl]
  | func f => rfl
theorem StEq.sim {s t : St} (h : StEq s t) {base : Nat} {w0 : W0} {M : Wd} {a : Act} (hs : Sim base w0 s M a) : Sim base w0 t M a :=
  ⟨hs.H.trans h.H, hs.nx.trans h.nx, hs.n.trans h.n, fun i x hx => hs.env i x (by rw [h.env i]; exact hx), fun g xs hg => hs.gl g xs (by rw [h.gl]; exact hg), hs.heap, hs.below, hs.base, hs.defs, hs.old⟩

section
variable {P : Program} {ops : Array Oper}

theorem QStep.up {o : Oper} {s t : St} {y : AV} (h : QStep P o s y) (hH : ∀ b x, s.H b = some x → t.H b = some x) (hg : s.gl = t.gl) (hev : ∀ x ∈ o.op.operands, s.ev x = t.ev x) : QStep P o t y :=
  fun base w0 M a hs => h base w0 M a ⟨⟨fun b x hx => hs.sim.H b x (hH b x hx), fun g xs hx => hs.sim.gl g xs (by rw [← hg]; exact hx), hs.sim.heap⟩, fun x hm z hz => hs.ops x hm z (by rw [← hev x hm]; exact hz)⟩
theorem QStep.of {o : Oper} {s t : St} {y : AV} (h : QStep P o s y) (hh : s.heap = t.heap) (hg : s.gl = t.gl) (hev : ∀ x ∈ o.op.operands, s.ev x = t.ev x) : QStep P o t y :=
  h.up (fun b x hx => by unfold St.H at *; rw [← hh]; exact hx) hg hev

theorem upon_guard {dst : Option Tmp} {op : Op} {ty : TypeId} {pos : String} {af : Array Edge} {g g' : Option (Nat × Bool)} {a : Act} {K : Act → World → Prop} {Q : Exit → Act → World → Prop} {r : Result Next} (h : Oper.upon P ⟨dst, op, ty, pos, af, g⟩ a K Q r) : Oper.upon P ⟨dst, op, ty, pos, af, g'⟩ a K Q r := by
  cases r with
  | ok n w' => cases n <;> exact h
  | halt x w' => cases x <;> exact h
theorem QStep.guard {dst : Option Tmp} {op : Op} {ty : TypeId} {pos : String} {af : Array Edge} {g g' : Option (Nat × Bool)} {st : St} {y : AV} (q : QStep P ⟨dst, op, ty, pos, af, g⟩ st y) : QStep P ⟨dst, op, ty, pos, af, g'⟩ st y :=
  fun base w0 M a hs K Q hK => upon_guard (q base w0 M a ⟨hs.sim, hs.ops⟩ K Q hK)

/-- In state st the operation o leaves y in its slot d. -/
def DY (P : Program) (ops : Array Oper) (o : Oper) (st : St) (d : Nat) (y : AV) : Prop :=
  o.dst = some d ∧ Nat.blt d st.n = true ∧
  ((o.guard = none ∧ QStep P o st y) ∨
   (∃ j want t b, o.guard = some (j, want) ∧ (ops[j]?).bind (·.dst) = some t ∧ look t st.env = some (.c (.v (.bool b))) ∧ ((b = want ∧ QStep P o st y) ∨ (b ≠ want ∧ y = .c (.v undef)))) ∨
   (∃ j want t, o.guard = some (j, want) ∧ (ops[j]?).bind (·.dst) = some t ∧ look t st.env = some (.c (.v undef)) ∧ y = .c (.v undef)))

theorem DY.of {o : Oper} {s t : St} {d : Nat} {y : AV} (h : DY P ops o s d y) (hn : s.n = t.n) (hh : ∀ b x, s.H b = some x → t.H b = some x) (hg : s.gl = t.gl) (hev : ∀ x ∈ o.op.operands, s.ev x = t.ev x)
    (hgd : ∀ j want q, o.guard = some (j, want) → (ops[j]?).bind (·.dst) = some q → look q s.env = look q t.env) : DY P ops o t d y := by
  obtain ⟨h1, h2, h3⟩ := h
  refine ⟨h1, by rw [← hn]; exact h2, ?_⟩
  rcases h3 with ⟨g, q⟩ | ⟨j, want, q, b, g1, g2, g3, g4⟩ | ⟨j, want, q, g1, g2, g3, g4⟩
  · exact .inl ⟨g, q.up hh hg hev⟩
  · refine .inr (.inl ⟨j, want, q, b, g1, g2, by rw [← hgd j want q g1 g2]; exact g3, ?_⟩)
    exact g4.imp (fun ⟨e, q⟩ => ⟨e, q.up hh hg hev⟩) id
  · exact .inr (.inr ⟨j, want, q, g1, g2, by rw [← hgd j want q g1 g2]; exact g3, g4⟩)

theorem DY.eq {o : Oper} {s t : St} {d : Nat} {y : AV} (h : DY P ops o s d y) (e : StEq s t) : DY P ops o t d y :=
  h.of e.n (fun b x hx => by rw [← e.H]; exact hx) e.gl (fun x _ => e.ev x) (fun _ _ q _ _ => e.env q)

theorem ev_put {s : St} {d : Nat} {y : AV} {x : Operand} (h : x ≠ .tmp d) : (s.put d y).ev x = s.ev x := by
  cases x with
  | tmp i =>
    simp only [St.ev, St.put, look_cons]
    rw [if_neg (fun e => h (by rw [e]))]
  | _ => rfl
theorem looks_ne {o : Oper} {d : Nat} (h : d ∉ o.looksAt ops) : (∀ x ∈ o.op.operands, x ≠ .tmp d) ∧ ∀ j want q, o.guard = some (j, want) → (ops[j]?).bind (·.dst) = some q → q ≠ d := by
  refine ⟨fun x hx e => h ?_, fun j want q hg hq e => h ?_⟩
  · subst e
    exact List.mem_append_left _ (List.mem_filterMap.2 ⟨.tmp d, by simpa using hx, rfl⟩)
  · subst e
    refine List.mem_append_right _ ?_
    rw [hg]; dsimp only; rw [hq]; simp
theorem DY.put {o : Oper} {s : St} {d : Nat} {y : AV} (h : DY P ops o s d y) {d' : Nat} (y' : AV) (hl : d' ∉ o.looksAt ops) : DY P ops o (s.put d' y') d y := by
  obtain ⟨h1, h2⟩ := looks_ne hl
  refine h.of rfl (fun _ _ hx => hx) rfl (fun x hx => (ev_put (h1 x hx)).symm) (fun j want q hg hq => ?_)
  simp only [St.put, look_cons]; rw [if_neg (Ne.symm (h2 j want q hg hq))]
theorem DY.unput {o : Oper} {s : St} {d : Nat} {y : AV} {d' : Nat} {y' : AV} (h : DY P ops o (s.put d' y') d y) (hl : d' ∉ o.looksAt ops) : DY P ops o s d y := by
  obtain ⟨h1, h2⟩ := looks_ne hl
  refine h.of rfl (fun _ _ hx => hx) rfl (fun x hx => ev_put (h1 x hx)) (fun j want q hg hq => ?_)
  simp only [St.put, look_cons]; rw [if_neg (Ne.symm (h2 j want q hg hq))]

/-- The walk in the order of the text. -/
def DSeq (P : Program) (ops : Array Oper) (L : St → Prop) : List Oper → St → Prop
  | [], st => L st
  | o :: rest, st => ∃ d y, DY P ops o st d y ∧ DSeq P ops L rest (st.put d y)
instance {L : St → Prop} : Walk P (DSeq P ops L) where
  step := fun hg hdst hd hq h => ⟨_, _, ⟨hdst, hd, .inl ⟨hg, hq⟩⟩, h⟩
theorem ds_nil {L : St → Prop} {st : St} (h : L st) : DSeq P ops L [] st := h
theorem ds_guard_t {L : St → Prop} {rest : List Oper} {st : St} {dst : Option Tmp} {op : Op} {ty : TypeId} {pos : String} {af : Array Edge} {j t : Nat} {want b : Bool} (hj : (ops[j]?).bind (·.dst) = some t) (hb : look t st.env = some (.c (.v (.bool b)))) (hw : b = want)
    (h : DSeq P ops L (⟨dst, op, ty, pos, af, none⟩ :: rest) st) : DSeq P ops L (⟨dst, op, ty, pos, af, some (j, want)⟩ :: rest) st := by
  obtain ⟨d, y, ⟨h1, h2, h3⟩, h4⟩ := h
  refine ⟨d, y, ⟨h1, h2, .inr (.inl ⟨j, want, t, b, rfl, hj, hb, .inl ⟨hw, ?_⟩⟩)⟩, h4⟩
  rcases h3 with ⟨_, q⟩ | ⟨_, _, _, _, g, _⟩ | ⟨_, _, _, g, _⟩
  · exact q.guard
  · cases g
  · cases g
theorem ds_guard_f {L : St → Prop} {rest : List Oper} {st : St} {d : Nat} {op : Op} {ty : TypeId} {pos : String} {af : Array Edge} {j t : Nat} {want b : Bool} (hj : (ops[j]?).bind (·.dst) = some t) (hb : look t st.env = some (.c (.v (.bool b)))) (hw : b = !want) (hd : Nat.blt d st.n = true)
    (h : DSeq P ops L rest (st.put d (.c (.v undef)))) : DSeq P ops L (⟨some d, op, ty, pos, af, some (j, want)⟩ :: rest) st :=
  ⟨d, _, ⟨rfl, hd, .inr (.inl ⟨j, want, t, b, rfl, hj, hb, .inr ⟨by rw [hw]; cases want <;> simp, rfl⟩⟩)⟩, h⟩
theorem ds_guard {L : St → Prop} {rest : List Oper} {st : St} {d : Nat} {op : Op} {ty : TypeId} {pos : String} {af : Array Edge} {j t : Nat} {want b : Bool} (hj : (ops[j]?).bind (·.dst) = some t) (hb : look t st.env = some (.c (.v (.bool b)))) (hd : Nat.blt d st.n = true)
    (h : b = want → DSeq P ops L (⟨some d, op, ty, pos, af, none⟩ :: rest) st) (h' : b = !want → DSeq P ops L rest (st.put d (.c (.v undef)))) : DSeq P ops L (⟨some d, op, ty, pos, af, some (j, want)⟩ :: rest) st := by
  by_cases hw : b = want
  · exact ds_guard_t hj hb hw (h hw)
  · have hw' : b = !want := by cases b <;> cases want <;> simp_all
    exact ds_guard_f hj hb hw' hd (h' hw')
theorem ds_guard_n {L : St → Prop} {rest : List Oper} {st : St} {d : Nat} {op : Op} {ty : TypeId} {pos : String} {af : Array Edge} {j t : Nat} {want : Bool} (hj : (ops[j]?).bind (·.dst) = some t) (hb : look t st.env = some (.c (.v undef))) (hd : Nat.blt d st.n = true)
    (h : DSeq P ops L rest (st.put d (.c (.v undef)))) : DSeq P ops L (⟨some d, op, ty, pos, af, some (j, want)⟩ :: rest) st :=
  ⟨d, _, ⟨rfl, hd, .inr (.inr ⟨j, want, t, rfl, hj, hb, rfl⟩)⟩, h⟩

/-- Whatever order is drawn, up to the operation number n. -/
def DAny (P : Program) (md : Region.Mode) (ops : Array Oper) (n : Nat) (L : Array Bool → St → Prop) : Nat → Array Bool → St → Prop
  | 0, listed, st => L listed st
  | f + 1, listed, st => Region.ready md ops listed ≠ [] ∧ ∀ i ∈ Region.ready md ops listed, i < n ∧ ∃ o d y, ops[i]? = some o ∧ DY P ops o st d y ∧ DAny P md ops n L f (listed.setIfInBounds i true) (st.put d y)

variable {md : Region.Mode} {n : Nat} {L : Array Bool → St → Prop}
theorem DAny.eq (hL : ∀ listed s t, StEq s t → L listed s → L listed t) : ∀ (f : Nat) (listed : Array Bool) (s t : St), StEq s t → DAny P md ops n L f listed s → DAny P md ops n L f listed t
  | 0, listed, s, t, e, h => hL listed s t e h
  | f + 1, listed, s, t, e, h => ⟨h.1, fun i hi => by
    obtain ⟨h1, o, d, y, h2, h3, h4⟩ := h.2 i hi
    exact ⟨h1, o, d, y, h2, h3.eq e, DAny.eq hL f _ _ _ (e.put d y) h4⟩⟩

theorem DAny_first {i : Nat} {oi : Oper} (hi : ops[i]? = some oi) (hin : i < n) (hL : ∀ listed s t, StEq s t → L listed s → L listed t) (hdone : ∀ listed st, L listed st → ∀ j ∈ Region.ready md ops listed, n ≤ j)
    (htail : ∀ listed, HeadInv md ops n listed → ∀ i, i < n → listed.getD i true = false → ∀ t, n ≤ t → t ∉ Region.ready md ops listed) :
    ∀ (f : Nat) (listed : Array Bool) (st : St) (d : Nat) (y : AV), HeadInv md ops n listed →
      (∀ j oj, ops[j]? = some oj → j ≠ i → listed.getD j true = false → (∀ e ∈ oj.after, Region.binds md e = true → e.on ≠ i) → oi.apart ops oj = true) →
      i ∈ Region.ready md ops listed → DY P ops oi st d y → DAny P md ops n L f (listed.setIfInBounds i true) (st.put d y) → DAny P md ops n L (f + 1) listed st := by
  intro f
  induction f with
  | zero =>
    intro listed st d y inv hfree hr hy H
    refine ⟨fun h0 => (by rw [h0] at hr; cases hr), fun j hj => ?_⟩
    have hjn : j < n := Nat.lt_of_not_le fun hc => htail listed inv i hin (mem_ready.1 hr).1 j hc hj
    by_cases hji : j = i
    · subst hji; exact ⟨hjn, oi, d, y, hi, hy, H⟩
    · have := hdone _ _ H j (ready_mono hj hji)
      omega
  | succ f ih =>
    intro listed st d y inv hfree hr hy H
    refine ⟨fun h0 => (by rw [h0] at hr; cases hr), fun j hj => ?_⟩
    have hjn : j < n := Nat.lt_of_not_le fun hc => htail listed inv i hin (mem_ready.1 hr).1 j hc hj
    by_cases hji : j = i
    · subst hji; exact ⟨hjn, oi, d, y, hi, hy, H⟩
    · obtain ⟨_, oj, dj, yj, h2, h3, h4⟩ := H.2 j (ready_mono hj hji)
      obtain ⟨hjun, oj', hoj, hall⟩ := mem_ready.1 hj
      have hoo : oj' = oj := Option.some.inj (hoj.symm.trans h2)
      subst hoo
      have hnot : ∀ e ∈ oj'.after, Region.binds md e = true → e.on ≠ i := fun e he hb heq => by
        have h1 := hall e he hb
        have h0 := getD_both (mem_ready.1 hr).1
        rw [heq, h0] at h1
        cases h1
      obtain ⟨a1, a2, a3⟩ := Oper.apart_spec (hfree j oj' hoj hji hjun hnot)
      have hdi : oi.dst = some d := hy.1
      have hdj : oj'.dst = some dj := h3.1
      have hne : d ≠ dj := fun e => a2 d hdi (by rw [hdj, e])
      have h3' := h3.unput (a1 d hdi)
      refine ⟨hjn, oj', dj, yj, h2, h3', ?_⟩
      have hfree' : ∀ k ok, ops[k]? = some ok → k ≠ i → (listed.setIfInBounds j true).getD k true = false → (∀ e ∈ ok.after, Region.binds md e = true → e.on ≠ i) → oi.apart ops ok = true := fun k ok hk hki hun hno => by
        refine hfree k ok hk hki ?_ hno
        by_cases hjk : j = k
        · subst hjk; exact hjun
        · rw [getD_set_ne true hjk] at hun; exact hun
      refine ih (listed.setIfInBounds j true) (st.put dj yj) d y (inv.set hj hjn) hfree' (ready_mono hr (Ne.symm hji)) (hy.put yj (a3 dj hdj)) ?_
      rw [Array.setIfInBounds_comm _ _ hji]
      exact DAny.eq hL f _ _ _ (StEq.comm st hne y yj) h4

theorem DAny_lex {g : Nat} {Lq : St → Prop} (hLq : ∀ s t, StEq s t → Lq s → Lq t)
    (htail : ∀ listed, HeadInv md ops n listed → ∀ i, i < n → listed.getD i true = false → ∀ t, n ≤ t → t ∉ Region.ready md ops listed) :
    ∀ (l : List Oper) (k : Nat) (listed : Array Bool) (st : St), (∀ j, j < l.length → l[j]? = ops[k + j]?) → k + l.length = n → HeadInv md ops n listed →
    Region.lexHead md ops g l.length k listed = true → DSeq P ops Lq l st → DAny P md ops n (fun listed' st' => Region.seqB md ops g n listed' = true ∧ Lq st') l.length listed st
  | [], k, listed, st, _, hk, _, hB, h => by
    have : k = n := by simpa using hk
    subst this
    exact ⟨by simpa [Region.lexHead] using hB, h⟩
  | o :: l, k, listed, st, hl, hk, inv, hB, h => by
    have h0 : ops[k]? = some o := by simpa using (hl 0 (by simp)).symm
    simp only [List.length_cons, Region.lexHead, Bool.and_eq_true] at hB
    obtain ⟨⟨hr, hf⟩, hB'⟩ := hB
    have hkn : k < n := by simp only [List.length_cons] at hk; omega
    have hr' : k ∈ Region.ready md ops listed := by simpa using hr
    obtain ⟨d, y, hy, hK⟩ := h
    exact DAny_first h0 hkn (fun listed s t e hh => ⟨hh.1, hLq s t e hh.2⟩) (fun listed' st' hL => seqB_ready hL.1) htail l.length listed st d y inv (Region.free_spec h0 hf) hr' hy
      (DAny_lex hLq htail l (k + 1) _ _ (fun j hj => by have := hl (j + 1) (by simp; omega); simpa [Nat.add_assoc, Nat.add_comm 1 j] using this) (by simp only [List.length_cons] at hk; omega) (inv.set hr' hkn) hB' hK)

/-- One operation of an abstract walk is one of the model's. -/
theorem DY.wp {base : Nat} {w0 : W0} {st : St} {M : Wd} {a : Act} {i : Nat} {o : Oper} {d : Nat} {y : AV} {K : Act → World → Prop} {Q' : Exit → Act → World → Prop} (hi : ops[i]? = some o) (h : DY P ops o st d y) (hs : Sim base w0 st M a)
    (hK : ∀ M' a', Ext M M' → Sim base w0 (st.put d y) M' a' → K a' M'.w) : wpOp P ops Q' i K a M.w := by
  obtain ⟨h1, h2, h3⟩ := h
  have run : QStep P o st y → o.wp P a M.w K Q' := fun q => q base w0 M a (hs.toO o) K Q' fun u M' hext hsim hu => hK M' _ hext (by rw [h1]; exact (hsim st hs).put h2 hu)
  have skip : y = .c (.v undef) → K (a.put o.dst undef) M.w := fun hy => hK M _ (Ext.refl M) (by rw [h1]; subst hy; exact hs.put h2 (.c (.v undef)))
  unfold wpOp
  simp only [hi]
  rcases h3 with ⟨g, q⟩ | ⟨j, want, t, b, g1, g2, g3, g4⟩ | ⟨j, want, t, g1, g2, g3, g4⟩
  · rw [if_pos (by simp [Region.wanted, g])]
    exact .inl (run q)
  · obtain ⟨v, e1, e2⟩ := hs.env t _ g3
    have e3 := e2.bool
    subst e3
    have hy : yielded ops a.tmps j = some b := by unfold yielded; rw [g2]; simp [e1]
    rcases g4 with ⟨hb, q⟩ | ⟨hb, q⟩
    · rw [if_pos (by simp [Region.wanted, g1, hy, hb])]
      exact .inl (run q)
    · rw [if_neg (by simp [Region.wanted, g1, hy, hb])]
      exact skip q
  · obtain ⟨v, e1, e2⟩ := hs.env t _ g3
    have e3 := e2.bool
    subst e3
    have hy : yielded ops a.tmps j = none := by unfold yielded; rw [g2]; simp [e1, undef]
    rw [if_neg (by simp [Region.wanted, g1, hy])]
    exact skip g4

theorem wpAny_of_DAny {base : Nat} {w0 : W0} {M0 : Wd} {Q : Exit → St → Prop} {g : Nat} (hL : ∀ listed st M a, L listed st → Sim base w0 st M a → Ext M0 M → wpAny P md ops (Lift base w0 M0 Q) g listed a M.w) :
    ∀ (f : Nat) (listed : Array Bool) (st : St) (M : Wd) (a : Act), Sim base w0 st M a → Ext M0 M → DAny P md ops n L f listed st → wpAny P md ops (Lift base w0 M0 Q) (f + g) listed a M.w
  | 0, listed, st, M, a, hs, he, h => by rw [Nat.zero_add]; exact hL _ _ _ _ h hs he
  | f + 1, listed, st, M, a, hs, he, h => by
    rw [show f + 1 + g = (f + g) + 1 by omega]
    refine ⟨fun h0 => absurd h0 h.1, fun i hi => ?_⟩
    obtain ⟨_, o, d, y, h1, h2, h3⟩ := h.2 i hi
    exact h2.wp h1 hs fun M' a' hext hs' => wpAny_of_DAny hL f _ _ M' a' hs' (he.trans hext) h3

def Wd.drew (M : Wd) : Wd := { M with w := { M.w with drawn := M.w.drawn + 1 } }
theorem Ext.drew (M : Wd) : Ext M M.drew := ⟨fun _ _ h => h, fun b E size l' _ h => ⟨l', h, Nat.le_refl _, fun _ => rfl⟩, Nat.le_refl _, fun _ h => ⟨h, rfl⟩⟩
theorem Sim.drew {base : Nat} {w0 : W0} {st : St} {M : Wd} {a : Act} (hs : Sim base w0 st M a) : Sim base w0 st M.drew a := by
  have hext := Ext.drew M
  refine ⟨hs.H, hs.nx, hs.n, fun i y hy => ?_, fun g xs hg => (hs.gl g xs hg).mono hext, ⟨?_, ?_, hs.heap.sep, hs.heap.lt, hs.heap.fresh, hs.heap.frz⟩, ⟨hs.below.os, hs.below.tape, hs.below.output, hs.below.size, hs.below.block⟩, hs.base, hs.defs, hs.old⟩
  · obtain ⟨v, h1, h2⟩ := hs.env i y hy
    exact ⟨v, h1, h2.mono hext⟩
  · intro b t l hl
    obtain ⟨g, arr, e1, e2, e3, e4, e5, e6⟩ := hs.heap.cells b t l hl
    exact ⟨g, arr, e1, e2, e3, e4, e5, fun i y u h1 h2 => (e6 i y u h1 h2).mono hext⟩
  · intro b E size l hl
    obtain ⟨v, n, cs, e1, e2, e3, e4, e5, e6⟩ := hs.heap.vec b E size l hl
    exact ⟨v, n, cs, e1, e2, e3, e4, fun i y u h1 h2 => (e5 i y u h1 h2).mono hext.F, e6⟩

def drawB (ops : Array Oper) (n : Nat) : Bool :=
  Region.noSelect ops && Nat.ble n ops.size && (Nat.beq n ops.size || (Region.sinkB .any ops n && Region.chainB .any ops n)) && Region.lexHead .any ops (ops.size - n) n 0 (Array.replicate ops.size false)

/-- A region that draws its order: its first n operations are quiet, the others follow one after the other. -/
theorem aw_draw {id : Nat} {l : List Oper} {Q : Exit → St → Prop} {st : St} (n : Nat) (hm : P.follows .mixedOrders = true) (hB : drawB l.toArray n = true)
    (h : DSeq P l.toArray (AOps P l.toArray Q (l.drop n)) (l.take n) st) : Awp P (.region id l.toArray true) Q st := by
  simp only [drawB, Bool.and_eq_true, Bool.or_eq_true] at hB
  obtain ⟨⟨⟨hsel, hle⟩, hcase⟩, hlex⟩ := hB
  have hle := Nat.le_of_ble_eq_true hle
  have hle' : n ≤ l.length := by simpa using hle
  have htl : (l.take n).length = n := by simp; omega
  have hdl : (l.drop n).length = l.toArray.size - n := by simp
  have inv0 : HeadInv .any l.toArray n (Array.replicate l.toArray.size false) :=
    ⟨by simp, fun j oj _ hl => (by rw [getD_replicate_false] at hl; cases hl), fun t _ ht => getD_in (by simpa using ht) (getD_replicate_false _ _)⟩
  have htail : ∀ listed, HeadInv .any l.toArray n listed → ∀ i, i < n → listed.getD i true = false → ∀ t, n ≤ t → t ∉ Region.ready .any l.toArray listed := by
    intro listed inv i hi hun t ht
    rcases hcase with he | ⟨hs, hc⟩
    · intro hr
      obtain ⟨_, o, ho, _⟩ := mem_ready.1 hr
      have := (Array.getElem?_eq_some_iff.1 ho).1
      have := beq_true he
      omega
    · rcases Nat.lt_or_ge n l.toArray.size with hn | hn
      · exact tail_waits hs hc hn inv _ i rfl hi hun t ht
      · intro hr
        obtain ⟨_, o, ho, _⟩ := mem_ready.1 hr
        have := (Array.getElem?_eq_some_iff.1 ho).1
        omega
  intro base w0 M a hs
  have H := DAny_lex (P := P) (md := .any) (ops := l.toArray) (n := n) (g := l.toArray.size - n) (Lq := AOps P l.toArray Q (l.drop n)) (fun s t e hh => fun base w0 M a hs' => hh base w0 M a (e.symm.sim hs')) htail (l.take n) 0 _ st (fun j hj => by
    have hj' : j < n := by rw [htl] at hj; exact hj
    simp [hj']) (by simpa using htl) inv0 (by rw [htl]; exact hlex) h
  refine wp_region_any hm ?_
  have := wpAny_of_DAny (P := P) (md := .any) (ops := l.toArray) (n := n) (base := base) (w0 := w0) (M0 := M) (Q := Q) (g := l.toArray.size - n) (fun listed st' M' a' hL hs' he => by
    have h1 := wpList_monoQ (fun e a w => Lift.ext he) _ _ _ (hL.2 base w0 M' a' hs')
    have h2 := wpAny_of_seq (md := .any) (l.drop n) n listed a' M'.w (fun j => by simp) (by rw [hdl]; exact hL.1) h1
    rwa [hdl] at h2) (l.take n).length (Array.replicate l.toArray.size false) st M.drew a hs.drew (Ext.drew M) H
  rw [htl] at this
  rw [show n + (l.toArray.size - n) = l.toArray.size by omega] at this
  exact this
class Mixed (P : Program) : Prop where
  h : P.follows .mixedOrders = true
/-- All operations are quiet. -/
theorem aw_drawq {id : Nat} {l : List Oper} {Q : Exit → St → Prop} {st : St} [m : Mixed P] (hB : drawB l.toArray l.length = true) (h : DSeq P l.toArray (AOps P l.toArray Q []) l st) : Awp P (.region id l.toArray true) Q st :=
  aw_draw l.length m.h hB (by rw [List.take_length, List.drop_length]; exact h)
/-- All operations but the last n are quiet. -/
theorem aw_drawt {id : Nat} {l : List Oper} {Q : Exit → St → Prop} {st : St} [m : Mixed P] (n : Nat) (hB : drawB l.toArray n = true) (h : DSeq P l.toArray (AOps P l.toArray Q (l.drop n)) (l.take n) st) : Awp P (.region id l.toArray true) Q st :=
  aw_draw n m.h hB h
end
end Go.Proofs.Ytokkpocccgdilaa.Ev
