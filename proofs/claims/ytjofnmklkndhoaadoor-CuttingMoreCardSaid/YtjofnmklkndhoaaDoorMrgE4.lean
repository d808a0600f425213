/- Ev23 Ev24 Ev25 Ev26 Ev27 Ev28 Ev29 Ev30 Ev31 Ev48 Ev47 Ev57 Ev32 Ev58: texts laid together. -/
import Derived.Test.YtjofnmklkndhoaaDoorMrgE3
/- Rules of a walk: regions that draw their order and store into boxes while other operands are still computed. Nothing here names a program. -/
namespace Go.Proofs.YtjofnmklkndhoaaDoor.Ev
set_option linter.unusedVariables false
set_option linter.unusedSimpArgs false
open Go.RowKit
section
variable {P : Program} {ops : Array Oper} {n : Nat}
structure StEq2 (s t : St) : Prop where
  n : s.n = t.n
  H : ∀ b, s.H b = t.H b
  nx : s.nx = t.nx
  gl : s.gl = t.gl
  env : ∀ i, look i s.env = look i t.env
theorem StEq2.refl (s : St) : StEq2 s s := ⟨rfl, fun _ => rfl, rfl, rfl, fun _ => rfl⟩
theorem StEq2.symm {s t : St} (h : StEq2 s t) : StEq2 t s := ⟨h.n.symm, fun b => (h.H b).symm, h.nx.symm, h.gl.symm, fun i => (h.env i).symm⟩
theorem StEq2.put {s t : St} (h : StEq2 s t) (d : Nat) (y : AV) : StEq2 (s.put d y) (t.put d y) :=
  ⟨h.n, h.H, h.nx, h.gl, fun i => by simp only [St.put, look_cons]; rw [h.env i]⟩
theorem StEq2.set {s t : St} (h : StEq2 s t) (b : Nat) (x : AB) : StEq2 (s.set b x) (t.set b x) :=
  ⟨h.n, fun b' => by rw [H_set, H_set, h.H b'], h.nx, h.gl, h.env⟩
theorem StEq2.ev {s t : St} (h : StEq2 s t) (x : Operand) : s.ev x = t.ev x := by
  cases x with
  | tmp i => exact h.env i
  | const v => rfl
  | global g => simp only [St.ev]; rw [h.gl]
  | func f => rfl
theorem StEq2.sim {s t : St} (h : StEq2 s t) {base : Nat} {w0 : W0} {M : Wd} {a : Act} (hs : Sim base w0 s M a) : Sim base w0 t M a :=
  ⟨hs.H.trans (funext h.H), hs.nx.trans h.nx, hs.n.trans h.n, fun i x hx => hs.env i x (by rw [h.env i]; exact hx), fun g xs hg => hs.gl g xs (by rw [h.gl]; exact hg), hs.heap, hs.below, hs.base, hs.defs, hs.old⟩
def St.hide (bs : List Nat) (st : St) : St := { st with heap := bs.map (fun b => (b, none)) ++ st.heap }
theorem look_hide (bs : List Nat) (heap : List (Nat × Option AB)) (b : Nat) : look b (bs.map (fun b => (b, none)) ++ heap) = if b ∈ bs then some none else look b heap := by
  induction bs with
  | nil => simp
  | cons c bs ih =>
    rw [List.map_cons, List.cons_append, look_cons, ih]
    by_cases h : c = b
    · subst h; simp
    · rw [if_neg h]
      by_cases h2 : b ∈ bs
      · rw [if_pos h2, if_pos (by simp [h2])]
      · rw [if_neg h2, if_neg (by simp [h2, Ne.symm h])]
theorem H_hide (bs : List Nat) (st : St) (b : Nat) : (st.hide bs).H b = if b ∈ bs then none else st.H b := by
  unfold St.H St.hide
  simp only [look_hide]
  by_cases h : b ∈ bs
  · rw [if_pos h, if_pos h]
  · rw [if_neg h, if_neg h]
def SStep (P : Program) (ops : Array Oper) (o : Oper) (st : St) (b : Nat) (x : AB) : Prop :=
  o.guard = none ∧ o.dst = none ∧ ∀ s : St, s.n = st.n → s.gl = st.gl → s.H b = st.H b → (∀ z ∈ o.op.operands, s.ev z = st.ev z) → AOps P ops (only (fun s' => s' = s.set b x)) [o] s
theorem SStep.of {o : Oper} {s t : St} {b : Nat} {x : AB} (h : SStep P ops o s b x) (hn : s.n = t.n) (hg : s.gl = t.gl) (hH : s.H b = t.H b) (hev : ∀ z ∈ o.op.operands, s.ev z = t.ev z) : SStep P ops o t b x :=
  ⟨h.1, h.2.1, fun u e1 e2 e3 e4 => h.2.2 u (e1.trans hn.symm) (e2.trans hg.symm) (e3.trans hH.symm) (fun z hz => (e4 z hz).trans (hev z hz).symm)⟩
inductive DG3 (P : Program) (ops : Array Oper) (bs : List Nat) (o : Oper) (st : St) : St → Prop
  | q {d : Nat} {y : AV} (h : DY P ops o (st.hide bs) d y) : DG3 P ops bs o st (st.put d y)
  | s {b : Nat} {x : AB} (hb : b ∈ bs) (hlt : b < st.nx) (h : SStep P ops o st b x) : DG3 P ops bs o st (st.set b x)
  | a {d : Nat} {x : AB} (h : AOp P o d x) (hd : Nat.blt d st.n = true) : DG3 P ops bs o st ((st.new x).put d (.ptr st.nx 0))
theorem StEq2.new {s t : St} (h : StEq2 s t) (x : AB) : StEq2 (s.new x) (t.new x) :=
  ⟨h.n, fun b' => by rw [H_new, H_new, h.H b', h.nx], by simp only [St.new]; rw [h.nx], h.gl, h.env⟩
theorem Fr.set {st : St} (h : Fr st) {b : Nat} (hb : b < st.nx) (x : AB) : Fr (st.set b x) := fun b' hb' => by
  have : st.nx ≤ b' := hb'
  rw [H_set, if_neg (by omega)]; exact h b' this
variable {bs : List Nat}
theorem StEq2.hide {s t : St} (h : StEq2 s t) (bs : List Nat) : StEq2 (s.hide bs) (t.hide bs) :=
  ⟨h.n, fun b => by rw [H_hide, H_hide, h.H b], h.nx, h.gl, h.env⟩
theorem DY.eq2 {o : Oper} {s t : St} {d : Nat} {y : AV} (h : DY P ops o s d y) (e : StEq2 s t) : DY P ops o t d y :=
  h.of e.n (fun b x hx => by rw [← e.H]; exact hx) e.gl (fun x _ => e.ev x) (fun _ _ q _ _ => e.env q)
theorem DG3.eq {o : Oper} {s t s' : St} (h : DG3 P ops bs o s s') (e : StEq2 s t) : ∃ t', DG3 P ops bs o t t' ∧ StEq2 s' t' := by
  cases h with
  | q h => exact ⟨_, .q (h.eq2 (e.hide bs)), e.put _ _⟩
  | s hb hlt h => exact ⟨_, .s hb (by rw [← e.nx]; exact hlt) (h.of e.n e.gl (e.H _) (fun z _ => e.ev z)), e.set _ _⟩
  | a h hd => exact ⟨_, .a h (by rw [← e.n]; exact hd), by rw [e.nx]; exact (e.new _).put _ _⟩
def DAny3 (P : Program) (ops : Array Oper) (bs : List Nat) (L : Array Bool → St → Prop) : Nat → Array Bool → St → Prop
  | 0, listed, st => L listed st
  | f + 1, listed, st => Region.ready .any ops listed ≠ [] ∧ ∀ i ∈ Region.ready .any ops listed, ∃ o st', ops[i]? = some o ∧ DG3 P ops bs o st st' ∧ DAny3 P ops bs L f (listed.setIfInBounds i true) st'
variable {L : Array Bool → St → Prop}
theorem DAny3.eq (hL : ∀ listed s t, StEq2 s t → L listed s → L listed t) : ∀ (f : Nat) (listed : Array Bool) (s t : St), StEq2 s t → DAny3 P ops bs L f listed s → DAny3 P ops bs L f listed t
  | 0, listed, s, t, e, h => hL listed s t e h
  | f + 1, listed, s, t, e, h => ⟨h.1, fun i hi => by
    obtain ⟨o, s', h2, h3, h4⟩ := h.2 i hi
    obtain ⟨t', h5, h6⟩ := h3.eq e
    exact ⟨o, t', h2, h5, DAny3.eq hL f _ _ _ h6 h4⟩⟩
theorem StEq2.comm (st : St) {d d' : Nat} (h : d ≠ d') (y y' : AV) : StEq2 ((st.put d y).put d' y') ((st.put d' y').put d y) :=
  ⟨rfl, fun _ => rfl, rfl, rfl, fun i => by simp only [St.put, look_cons]; by_cases h1 : d' = i <;> by_cases h2 : d = i <;> simp_all⟩
theorem DG3.wp {base : Nat} {w0 : W0} {st st' : St} {M : Wd} {a : Act} {i : Nat} {o : Oper} {K : Act → World → Prop} {Q' : Exit → Act → World → Prop} (hi : ops[i]? = some o) (h : DG3 P ops bs o st st') (hs : Sim base w0 st M a)
    (hK : ∀ M' a', Ext M M' → Sim base w0 st' M' a' → K a' M'.w) : wpOp P ops Q' i K a M.w := by
  cases h with
  | q h =>
    refine (h.of (t := st) rfl (fun b z hz => ?_) rfl (fun z _ => by cases z <;> rfl) (fun _ _ _ _ _ => rfl)).wp hi hs hK
    rw [H_hide] at hz
    split at hz
    · cases hz
    · exact hz
  | @a d x h hd =>
    obtain ⟨g, hdst, hrun⟩ := h
    obtain ⟨u, c, arr, t, e1, e2, e3⟩ := hrun st base w0 M a hs
    unfold wpOp
    simp only [hi]
    rw [if_pos (by simp [Region.wanted, g])]
    refine .inl ?_
    unfold Oper.wp
    rw [e1]
    have := hK (M.new st x c (.cells arr t)) (a.put o.dst u) (hs.extNew x c _) (by rw [hdst]; exact e2.put hd e3)
    exact this
  | @s b x hb hlt h =>
    have hl := h.2.2 st rfl rfl rfl (fun _ _ => rfl) base w0 M a hs
    have hw : Region.wanted o (yielded ops a.tmps) = true := by simp [Region.wanted, h.1]
    unfold wpList at hl
    rw [if_pos hw] at hl
    unfold wpOp
    simp only [hi]
    rw [if_pos hw]
    rcases hl with hl | ⟨_, a', w', M', st', _, _, _, hf⟩
    · refine .inl (upon_mono2 (fun a' w' hk => ?_) (fun e a' w' hne hq => ?_) hl)
      · obtain ⟨M', st', e1, e2, e3, e4⟩ := hk
        subst e1
        have e4 : st' = _ := e4
        subst e4
        exact hK M' a' e3 e2
      · obtain ⟨M', st', e1, e2, e3, e4⟩ := hq
        cases e <;> first | exact absurd rfl hne | exact e4.elim
    · exact hf.elim
section
variable {i nn nx k : Nat} {env : List (Nat × AV)} {heap : List (Nat × Option AB)} {gl : List (Nat × List CV)} {listed : Array Bool} {ty : TypeId} {pos : String} {af : Array Edge}
end
end
end Go.Proofs.YtjofnmklkndhoaaDoor.Ev
/- Rules of a walk: bits, truth values held against each other, function values in calls. Nothing here names a program. -/
namespace Go.Proofs.YtjofnmklkndhoaaDoor.Ev
set_option linter.unusedVariables false
set_option linter.unusedSimpArgs false
open Go.RowKit
section
variable {P : Program} {ops : Array Oper} {Q : Exit → St → Prop} {X : List Oper → St → Prop} {rest : List Oper} {d : Nat} {ty : TypeId} {pos : String} {af : Array Edge} {n : Nat} {env : List (Nat × AV)} {heap : List (Nat × Option AB)} {nx : Nat} {gl : List (Nat × List CV)}
end
end Go.Proofs.YtjofnmklkndhoaaDoor.Ev
/- Rules of a walk: regions that draw their order, store into lists while addresses are still computed. Nothing here names a program. -/
namespace Go.Proofs.YtjofnmklkndhoaaDoor.Ev
set_option linter.unusedVariables false
set_option linter.unusedSimpArgs false
open Go.RowKit
section
variable {P : Program} {ops : Array Oper} {n : Nat}
inductive DG4 (P : Program) (ops : Array Oper) (bs : List Nat) (o : Oper) (st : St) : St → Prop
  | q {d : Nat} {y : AV} (h : DY P ops o st d y) : DG4 P ops bs o st (st.put d y)
  | s {b : Nat} {x : AB} (hb : b ∈ bs) (hlt : b < st.nx) (h : SStep P ops o st b x) : DG4 P ops bs o st (st.set b x)
  | a {d : Nat} {x : AB} (h : AOp P o d x) (hd : Nat.blt d st.n = true) : DG4 P ops bs o st ((st.new x).put d (.ptr st.nx 0))
variable {bs : List Nat}
theorem DG4.eq {o : Oper} {s t s' : St} (h : DG4 P ops bs o s s') (e : StEq2 s t) : ∃ t', DG4 P ops bs o t t' ∧ StEq2 s' t' := by
  cases h with
  | q h => exact ⟨_, .q (h.eq2 e), e.put _ _⟩
  | s hb hlt h => exact ⟨_, .s hb (by rw [← e.nx]; exact hlt) (h.of e.n e.gl (e.H _) (fun z _ => e.ev z)), e.set _ _⟩
  | a h hd => exact ⟨_, .a h (by rw [← e.n]; exact hd), by rw [e.nx]; exact (e.new _).put _ _⟩
def DAny4 (P : Program) (ops : Array Oper) (bs : List Nat) (L : Array Bool → St → Prop) : Nat → Array Bool → St → Prop
  | 0, listed, st => L listed st
  | f + 1, listed, st => Region.ready .any ops listed ≠ [] ∧ ∀ i ∈ Region.ready .any ops listed, ∃ o st', ops[i]? = some o ∧ DG4 P ops bs o st st' ∧ DAny4 P ops bs L f (listed.setIfInBounds i true) st'
variable {L : Array Bool → St → Prop}
theorem DAny4.eq (hL : ∀ listed s t, StEq2 s t → L listed s → L listed t) : ∀ (f : Nat) (listed : Array Bool) (s t : St), StEq2 s t → DAny4 P ops bs L f listed s → DAny4 P ops bs L f listed t
  | 0, listed, s, t, e, h => hL listed s t e h
  | f + 1, listed, s, t, e, h => ⟨h.1, fun i hi => by
    obtain ⟨o, s', h2, h3, h4⟩ := h.2 i hi
    obtain ⟨t', h5, h6⟩ := h3.eq e
    exact ⟨o, t', h2, h5, DAny4.eq hL f _ _ _ h6 h4⟩⟩
def upB (ops : Array Oper) : Nat → Nat → Oper → Bool
  | 0, _, _ => false
  | f + 1, i, o => o.after.toList.any fun e => Region.binds .any e && (Nat.beq e.on i || match ops[e.on]? with | some o' => upB ops f i o' | none => false)
def Cl (ops : Array Oper) (listed : Array Bool) : Prop := ∀ (j : Nat) (oj : Oper), ops[j]? = some oj → listed.getD j false = true → ∀ e ∈ oj.after, Region.binds .any e = true → listed.getD e.on false = true
theorem up_listed {listed : Array Bool} (cl : Cl ops listed) {i : Nat} : ∀ (f : Nat) (o : Oper), upB ops f i o = true → (∀ e ∈ o.after, Region.binds .any e = true → listed.getD e.on false = true) → listed.getD i false = true
  | 0, o, h, _ => by cases h
  | f + 1, o, h, ha => by
    unfold upB at h
    simp only [List.any_eq_true, Bool.and_eq_true, Bool.or_eq_true] at h
    obtain ⟨e, h1, h2, h3⟩ := h
    have he := ha e (by simpa using h1) h2
    rcases h3 with h3 | h3
    · rw [← beq_true h3]; exact he
    · split at h3
      · rename_i o' ho
        exact up_listed cl f o' h3 (cl _ _ ho he)
      · cases h3
theorem Cl.set {listed : Array Bool} (cl : Cl ops listed) {i : Nat} (hr : i ∈ Region.ready .any ops listed) : Cl ops (listed.setIfInBounds i true) := by
  obtain ⟨h1, o, h2, h3⟩ := mem_ready.1 hr
  have mono : ∀ j, listed.getD j false = true → (listed.setIfInBounds i true).getD j false = true := fun j hj => by
    by_cases he : i = j
    · subst he
      have := getD_both h1
      rw [this] at hj; cases hj
    · rw [getD_set_ne false he]; exact hj
  intro j oj hj hl e he hb
  by_cases hij : i = j
  · subst hij
    have : oj = o := Option.some.inj (hj.symm.trans h2)
    subst this
    exact mono _ (h3 e he hb)
  · rw [getD_set_ne false hij] at hl
    exact mono _ (cl j oj hj hl e he hb)
theorem cl_0 (n : Nat) : Cl ops (Array.replicate n false) := fun j _ _ hl => by rw [getD_replicate_false] at hl; cases hl
theorem DG4.wp {base : Nat} {w0 : W0} {st st' : St} {M : Wd} {a : Act} {i : Nat} {o : Oper} {K : Act → World → Prop} {Q' : Exit → Act → World → Prop} (hi : ops[i]? = some o) (h : DG4 P ops bs o st st') (hs : Sim base w0 st M a)
    (hK : ∀ M' a', Ext M M' → Sim base w0 st' M' a' → K a' M'.w) : wpOp P ops Q' i K a M.w := by
  cases h with
  | q h => exact h.wp hi hs hK
  | @a d x h hd =>
    obtain ⟨g, hdst, hrun⟩ := h
    obtain ⟨u, c, arr, t, e1, e2, e3⟩ := hrun st base w0 M a hs
    unfold wpOp
    simp only [hi]
    rw [if_pos (by simp [Region.wanted, g])]
    refine .inl ?_
    unfold Oper.wp
    rw [e1]
    have := hK (M.new st x c (.cells arr t)) (a.put o.dst u) (hs.extNew x c _) (by rw [hdst]; exact e2.put hd e3)
    exact this
  | @s b x hb hlt h =>
    have hl := h.2.2 st rfl rfl rfl (fun _ _ => rfl) base w0 M a hs
    have hw : Region.wanted o (yielded ops a.tmps) = true := by simp [Region.wanted, h.1]
    unfold wpList at hl
    rw [if_pos hw] at hl
    unfold wpOp
    simp only [hi]
    rw [if_pos hw]
    rcases hl with hl | ⟨_, a', w', M', st', _, _, _, hf⟩
    · refine .inl (upon_mono2 (fun a' w' hk => ?_) (fun e a' w' hne hq => ?_) hl)
      · obtain ⟨M', st', e1, e2, e3, e4⟩ := hk
        subst e1
        have e4 : st' = _ := e4
        subst e4
        exact hK M' a' e3 e2
      · obtain ⟨M', st', e1, e2, e3, e4⟩ := hq
        cases e <;> first | exact absurd rfl hne | exact e4.elim
    · exact hf.elim
section
variable {i nn nx k : Nat} {env : List (Nat × AV)} {heap : List (Nat × Option AB)} {gl : List (Nat × List CV)} {listed : Array Bool} {ty : TypeId} {pos : String} {af : Array Edge}
end
end
end Go.Proofs.YtjofnmklkndhoaaDoor.Ev
/- Rules of a walk: regions that draw their order and call what makes memory. Nothing here names a program. -/
namespace Go.Proofs.YtjofnmklkndhoaaDoor.Ev
set_option linter.unusedVariables false
set_option linter.unusedSimpArgs false
open Go.RowKit
section
variable {P : Program} {ops : Array Oper} {n : Nat}
def NStep (P : Program) (ops : Array Oper) (o : Oper) (st : St) (d : Nat) (x : AB) (mk : Nat → AV) : Prop :=
  o.guard = none ∧ o.dst = some d ∧ ∀ s : St, s.n = st.n → s.gl = st.gl → (∀ z ∈ o.op.operands, s.ev z = st.ev z) → AOps P ops (only (fun s' => StEq2 s' ((s.new x).put d (mk s.nx)))) [o] s
theorem NStep.of {o : Oper} {s t : St} {d : Nat} {x : AB} {mk : Nat → AV} (h : NStep P ops o s d x mk) (hn : s.n = t.n) (hg : s.gl = t.gl) (hev : ∀ z ∈ o.op.operands, s.ev z = t.ev z) : NStep P ops o t d x mk :=
  ⟨h.1, h.2.1, fun u e1 e2 e4 => h.2.2 u (e1.trans hn.symm) (e2.trans hg.symm) (fun z hz => (e4 z hz).trans (hev z hz).symm)⟩
inductive DG5 (P : Program) (ops : Array Oper) (bs : List Nat) (o : Oper) (st : St) : St → Prop
  | q {d : Nat} {y : AV} (h : DY P ops o st d y) : DG5 P ops bs o st (st.put d y)
  | s {b : Nat} {x : AB} (hb : b ∈ bs) (hlt : b < st.nx) (h : SStep P ops o st b x) : DG5 P ops bs o st (st.set b x)
  | a {d : Nat} {x : AB} (h : AOp P o d x) (hd : Nat.blt d st.n = true) : DG5 P ops bs o st ((st.new x).put d (.ptr st.nx 0))
  | n {d : Nat} {x : AB} {mk : Nat → AV} (h : NStep P ops o st d x mk) : DG5 P ops bs o st ((st.new x).put d (mk st.nx))
variable {bs : List Nat}
theorem DG5.eq {o : Oper} {s t s' : St} (h : DG5 P ops bs o s s') (e : StEq2 s t) : ∃ t', DG5 P ops bs o t t' ∧ StEq2 s' t' := by
  cases h with
  | q h => exact ⟨_, .q (h.eq2 e), e.put _ _⟩
  | s hb hlt h => exact ⟨_, .s hb (by rw [← e.nx]; exact hlt) (h.of e.n e.gl (e.H _) (fun z _ => e.ev z)), e.set _ _⟩
  | a h hd => exact ⟨_, .a h (by rw [← e.n]; exact hd), by rw [e.nx]; exact (e.new _).put _ _⟩
  | n h => exact ⟨_, .n (h.of e.n e.gl (fun z _ => e.ev z)), by rw [e.nx]; exact (e.new _).put _ _⟩
def DAny5 (P : Program) (ops : Array Oper) (bs : List Nat) (L : Array Bool → St → Prop) : Nat → Array Bool → St → Prop
  | 0, listed, st => L listed st
  | f + 1, listed, st => Region.ready .any ops listed ≠ [] ∧ ∀ i ∈ Region.ready .any ops listed, ∃ o st', ops[i]? = some o ∧ DG5 P ops bs o st st' ∧ DAny5 P ops bs L f (listed.setIfInBounds i true) st'
variable {L : Array Bool → St → Prop}
theorem DAny5.eq (hL : ∀ listed s t, StEq2 s t → L listed s → L listed t) : ∀ (f : Nat) (listed : Array Bool) (s t : St), StEq2 s t → DAny5 P ops bs L f listed s → DAny5 P ops bs L f listed t
  | 0, listed, s, t, e, h => hL listed s t e h
  | f + 1, listed, s, t, e, h => ⟨h.1, fun i hi => by
    obtain ⟨o, s', h2, h3, h4⟩ := h.2 i hi
    obtain ⟨t', h5, h6⟩ := h3.eq e
    exact ⟨o, t', h2, h5, DAny5.eq hL f _ _ _ h6 h4⟩⟩
theorem DG5.wp {base : Nat} {w0 : W0} {st st' : St} {M : Wd} {a : Act} {i : Nat} {o : Oper} {K : Act → World → Prop} {Q' : Exit → Act → World → Prop} (hi : ops[i]? = some o) (h : DG5 P ops bs o st st') (hs : Sim base w0 st M a)
    (hK : ∀ M' a', Ext M M' → Sim base w0 st' M' a' → K a' M'.w) : wpOp P ops Q' i K a M.w := by
  cases h with
  | q h => exact h.wp hi hs hK
  | @a d x h hd =>
    obtain ⟨g, hdst, hrun⟩ := h
    obtain ⟨u, c, arr, t, e1, e2, e3⟩ := hrun st base w0 M a hs
    unfold wpOp
    simp only [hi]
    rw [if_pos (by simp [Region.wanted, g])]
    refine .inl ?_
    unfold Oper.wp
    rw [e1]
    have := hK (M.new st x c (.cells arr t)) (a.put o.dst u) (hs.extNew x c _) (by rw [hdst]; exact e2.put hd e3)
    exact this
  | @n d x mk h =>
    have hl := h.2.2 st rfl rfl (fun _ _ => rfl) base w0 M a hs
    have hw : Region.wanted o (yielded ops a.tmps) = true := by simp [Region.wanted, h.1]
    unfold wpList at hl
    rw [if_pos hw] at hl
    unfold wpOp
    simp only [hi]
    rw [if_pos hw]
    rcases hl with hl | ⟨_, a', w', M', st', _, _, _, hf⟩
    · refine .inl (upon_mono2 (fun a' w' hk => ?_) (fun e a' w' hne hq => ?_) hl)
      · obtain ⟨M', st', e1, e2, e3, e4⟩ := hk
        subst e1
        have e4 : StEq2 st' _ := e4
        exact hK M' a' e3 (e4.sim e2)
      · obtain ⟨M', st', e1, e2, e3, e4⟩ := hq
        cases e <;> first | exact absurd rfl hne | exact e4.elim
    · exact hf.elim
  | @s b x hb hlt h =>
    have hl := h.2.2 st rfl rfl rfl (fun _ _ => rfl) base w0 M a hs
    have hw : Region.wanted o (yielded ops a.tmps) = true := by simp [Region.wanted, h.1]
    unfold wpList at hl
    rw [if_pos hw] at hl
    unfold wpOp
    simp only [hi]
    rw [if_pos hw]
    rcases hl with hl | ⟨_, a', w', M', st', _, _, _, hf⟩
    · refine .inl (upon_mono2 (fun a' w' hk => ?_) (fun e a' w' hne hq => ?_) hl)
      · obtain ⟨M', st', e1, e2, e3, e4⟩ := hk
        subst e1
        have e4 : st' = _ := e4
        subst e4
        exact hK M' a' e3 e2
      · obtain ⟨M', st', e1, e2, e3, e4⟩ := hq
        cases e <;> first | exact absurd rfl hne | exact e4.elim
    · exact hf.elim
section
variable {i nn nx k : Nat} {env : List (Nat × AV)} {heap : List (Nat × Option AB)} {gl : List (Nat × List CV)} {listed : Array Bool} {ty : TypeId} {pos : String} {af : Array Edge}
end
end
end Go.Proofs.YtjofnmklkndhoaaDoor.Ev
/- Rules of a walk: strings, arrays as values, closures with a result in a slot. Nothing here names a program. -/
namespace Go.Proofs.YtjofnmklkndhoaaDoor.Ev
set_option linter.unusedVariables false
set_option linter.unusedSimpArgs false
open Go.RowKit
section
variable {P : Program} {ops : Array Oper} {Q : Exit → St → Prop} {X : List Oper → St → Prop} {rest : List Oper} {d : Nat} {ty : TypeId} {pos : String} {af : Array Edge} {n : Nat} {env : List (Nat × AV)} {heap : List (Nat × Option AB)} {nx : Nat} {gl : List (Nat × List CV)}
class StrTy (P : Program) (t : Nat) : Prop where
  h : P.underlying t = some .string
end
end Go.Proofs.YtjofnmklkndhoaaDoor.Ev
/- Rules of a walk: an array as a value. Nothing here names a program. -/
namespace Go.Proofs.YtjofnmklkndhoaaDoor.Ev
set_option linter.unusedVariables false
set_option linter.unusedSimpArgs false
open Go.RowKit
section
variable {P : Program} {ops : Array Oper} {Q : Exit → St → Prop} {X : List Oper → St → Prop} {rest : List Oper} {d : Nat} {ty : TypeId} {pos : String} {af : Array Edge} {n : Nat} {env : List (Nat × AV)} {heap : List (Nat × Option AB)} {nx : Nat} {gl : List (Nat × List CV)}
def arrTB (P : Program) (t len : Nat) : Bool :=
  match P.underlying t with
  | some (.array l e) => match tyB P e with
    | some (false, s) => l == len && s == 1
    | _ => false
  | _ => false
class ArrT (P : Program) (t : Nat) (len : outParam Nat) : Prop where
  h : arrTB P t len = true
end
end Go.Proofs.YtjofnmklkndhoaaDoor.Ev
/- Rules of a walk: the making of an array value. Nothing here names a program. -/
namespace Go.Proofs.YtjofnmklkndhoaaDoor.Ev
set_option linter.unusedVariables false
set_option linter.unusedSimpArgs false
open Go.RowKit
section
variable {P : Program} {ops : Array Oper} {Q : Exit → St → Prop} {X : List Oper → St → Prop} {rest : List Oper} {d : Nat} {ty : TypeId} {pos : String} {af : Array Edge} {n : Nat} {env : List (Nat × AV)} {heap : List (Nat × Option AB)} {nx : Nat} {gl : List (Nat × List CV)}
def arrbB (P : Program) (t : Nat) : Option (List (Nat × Nat) × List Value) :=
  match P.info? t, P.underlying t with
  | some it, some (.array len e) => match it.zero, P.info? e with
    | some z, some ie => some ((List.range len).map (fun i => (i * ie.size, ie.size)), z.cells.toList)
    | _, _ => none
  | _, _ => none
class ArrB (P : Program) (t : Nat) (pl : outParam (List (Nat × Nat))) (zs : outParam (List Value)) : Prop where
  h : arrbB P t = some (pl, zs)
end
end Go.Proofs.YtjofnmklkndhoaaDoor.Ev
/- Rules of a walk: make as a quiet step, its list taken as a closed one. Nothing here names a program. -/
namespace Go.Proofs.YtjofnmklkndhoaaDoor.Ev
set_option linter.unusedVariables false
set_option linter.unusedSimpArgs false
open Go.RowKit
section
variable {P : Program} {X : List Oper → St → Prop} {rest : List Oper} {d : Nat} {ty : TypeId} {pos : String} {af : Array Edge} {n : Nat} {env : List (Nat × AV)} {heap : List (Nat × Option AB)} {nx : Nat} {gl : List (Nat × List CV)}
end
end Go.Proofs.YtjofnmklkndhoaaDoor.Ev
/- Rules of a walk: a list of the call's own as an element of another one: its value is named, and a box (whose content is not needed any more) keeps which list has it. Nothing here names a program. -/
namespace Go.Proofs.YtjofnmklkndhoaaDoor.Ev
set_option linter.unusedVariables false
set_option linter.unusedSimpArgs false
open Go.RowKit
section
variable {P : Program} {ops : Array Oper} {Q : Exit → St → Prop} {st : St}
theorem Sim.relist {base : Nat} {w0 : W0} {M : Wd} {a : Act} (hs : Sim base w0 st M a) {b E size : Nat} {l l' : List CV} (hH : st.H b = some (.vec E size l)) (hlen : l'.length = l.length) (hr : ∀ (i : Nat) (x' x : CV) (u : Value), l'[i]? = some x' → l[i]? = some x → RC M.F M.w x u → RC M.F M.w x' u) :
    ∃ M', M'.w = M.w ∧ Sim base w0 (st.set b (.vec E size l')) M' a ∧ Ext M M' := by
  have hb : M.H b = some (.vec E size l) := by rw [hs.H]; exact hH
  let M' : Wd := { M with H := (st.set b (.vec E size l')).H }
  have hH' : ∀ k, M'.H k = if b = k then some (.vec E size l') else M.H k := fun k => by
    show (st.set b _).H k = _
    rw [H_set, hs.H]
  have hne : ∀ k, M'.H k ≠ none → M.H k ≠ none := fun k hk => by
    rw [hH'] at hk
    by_cases h : b = k
    · subst h; rw [hb]; simp
    · rwa [if_neg h] at hk
  have hext : Ext M M' := ⟨fun _ _ h => h, fun k E' size' l'' _ hl => by
    rw [hH'] at hl
    by_cases h : b = k
    · subst h; rw [if_pos rfl] at hl
      simp only [Option.some.injEq, AB.vec.injEq] at hl
      obtain ⟨rfl, rfl, rfl⟩ := hl
      exact ⟨l, hb, by omega, fun _ => rfl⟩
    · rw [if_neg h] at hl; exact ⟨l'', hl, Nat.le_refl _, fun _ => rfl⟩, Nat.le_refl _, fun k hk => ⟨hk, rfl⟩⟩
  refine ⟨M', rfl, ⟨rfl, hs.nx, hs.n, fun i y hy => ?_, fun g xs hg => (hs.gl g xs hg).mono hext, ⟨?_, ?_, ?_, ?_, hs.heap.fresh, hs.heap.frz, ?_⟩, hs.below, hs.base, hs.defs, hs.old⟩, hext⟩
  · obtain ⟨u, h1, h2⟩ := hs.env i y hy
    exact ⟨u, h1, h2.mono hext⟩
  · intro k t' l'' hl
    rw [hH'] at hl
    by_cases h : b = k
    · rw [if_pos h] at hl; cases hl
    · rw [if_neg h] at hl
      obtain ⟨g, arr, g1, g2, g3, g4, g5, g6⟩ := hs.heap.cells k t' l'' hl
      exact ⟨g, arr, g1, g2, g3, g4, g5, fun i x u hx hu => (g6 i x u hx hu).mono hext⟩
  · intro k E' size' l'' hl
    rw [hH'] at hl
    by_cases h : b = k
    · subst h; rw [if_pos rfl] at hl
      simp only [Option.some.injEq, AB.vec.injEq] at hl
      obtain ⟨rfl, rfl, rfl⟩ := hl
      obtain ⟨v, n, cs, e1, e2, e3, e4, e5, e6⟩ := hs.heap.vec b E size l hb
      refine ⟨v, n, cs, e1, by omega, e3, e4, fun i x u hx hu => ?_, e6⟩
      have hi : i < l'.length := (List.getElem?_eq_some_iff.1 hx).1
      obtain ⟨y, hy⟩ : ∃ y, l[i]? = some y := ⟨_, List.getElem?_eq_getElem (by omega)⟩
      exact hr i x y u hx hy (e5 i y u hy hu)
    · rw [if_neg h] at hl
      exact hs.heap.vec k E' size' l'' hl
  · intro k k' g hkk hk hk'
    exact hs.heap.sep k k' g hkk (hne k hk) (hne k' hk')
  · exact fun k hk => hs.heap.lt k (hne k hk)
  · intro k p hp
    have hold : ∀ q p', M'.H q = some (.obj p') → M.H q = some (.obj p') := fun q p' hq => by
      rw [hH'] at hq
      by_cases h : b = q
      · rw [if_pos h] at hq; cases hq
      · rwa [if_neg h] at hq
    obtain ⟨g, e1, e2, e3, e4, e5⟩ := hs.heap.obj k p (hold k p hp)
    exact ⟨g, e1, e2, e3, e4, fun b' q hbb hq => ⟨fun hb' => (e5 b' q hbb hq).1 (hne b' hb'), fun p' hp' => (e5 b' q hbb hq).2 p' (hold b' p' hp')⟩⟩
end
section
variable {P : Program} {ops : Array Oper} {Q : Exit → St → Prop} {X : List Oper → St → Prop} {rest : List Oper} {d : Nat} {ty : TypeId} {pos : String} {af : Array Edge} {n : Nat} {env : List (Nat × AV)} {heap : List (Nat × Option AB)} {nx : Nat} {gl : List (Nat × List CV)}
end
end Go.Proofs.YtjofnmklkndhoaaDoor.Ev
/- Rules of a walk: elements of an array in a box; a list in a cell of a box taken as a closed one, inside a region. Nothing here names a program. -/
namespace Go.Proofs.YtjofnmklkndhoaaDoor.Ev
set_option linter.unusedVariables false
set_option linter.unusedSimpArgs false
open Go.RowKit
section
variable {P : Program} {ops : Array Oper} {Q : Exit → St → Prop} {X : List Oper → St → Prop} {rest : List Oper} {d : Nat} {ty : TypeId} {pos : String} {af : Array Edge} {n : Nat} {env : List (Nat × AV)} {heap : List (Nat × Option AB)} {nx : Nat} {gl : List (Nat × List CV)}
def arrPB (P : Program) (t len size : Nat) : Bool :=
  match P.underlying t with
  | some (.array l e) => match P.info? e with
    | some i => l == len && i.size == size
    | none => false
  | _ => false
class ArrP (P : Program) (t : Nat) (len size : outParam Nat) : Prop where
  h : arrPB P t len size = true
theorem r_index_p [W : Walk P X] {x y : Operand} {t : TypeId} {len size b off : Nat} {kk : IntKind} {idx : Int} [I : ArrP P t len size] (k : Nat) (hx : St.ev ⟨n, env, heap, nx, gl⟩ x = some (.ptr b off)) (hy : St.ev ⟨n, env, heap, nx, gl⟩ y = some (.c (.v (.int kk idx)))) (hk : idx = (k : Int)) (hlt : k < len) (hd : Nat.blt d n = true) (h : X rest ⟨n, (d, .ptr b (off + k * size)) :: env, heap, nx, gl⟩) : X (⟨some d, .indexAddr t x y, ty, pos, af, none⟩ :: rest) ⟨n, env, heap, nx, gl⟩ := by
  refine ao_val (st := ⟨n, env, heap, nx, gl⟩) rfl rfl hd (fun _ _ M a hs => ?_) h
  have hv := hs.ev (by simp [Op.operands, Call.operands]) hx
  have hw := (hs.ev (by simp [Op.operands, Call.operands]) hy).bool
  have hI := I.h
  unfold arrPB at hI
  split at hI
  · rename_i l e hu
    split at hI
    · rename_i i hi
      simp only [Bool.and_eq_true, beq_iff_eq] at hI
      obtain ⟨rfl, rfl⟩ := hI
      generalize he : a.eval x = u at hv
      cases hv with
      | ptr hm =>
        rename_i g
        refine ⟨.pointer (some ⟨g, off + k * i.size, none⟩), ?_, .ptr hm⟩
        simp only [execOp, he, hw]
        subst hk
        have e2 : (Addr.add ⟨g, off, none⟩ (k * i.size)) = ⟨g, off + k * i.size, none⟩ := Kit.addr_add g off _
        simp [Instr.indexAt, Instr.sureAddr, asIntOf, run_underlying hu, sizeOf, typeInfo, hi, hlt, e2]
    · cases hI
  · cases hI
end
section
variable {P : Program} {ops : Array Oper} {Q : Exit → St → Prop} {n nx : Nat} {env : List (Nat × AV)} {heap : List (Nat × Option AB)} {gl : List (Nat × List CV)}
theorem r_fzcell {rest : List Oper} (b0 k : Nat) {t : TypeId} {l l' : List AV} {b m E size : Nat} {xs : List CV} (hH0 : St.H ⟨n, env, heap, nx, gl⟩ b0 = some (.cells t l)) (hk : l[k]? = some (.vec b m)) (hH : St.H ⟨n, env, heap, nx, gl⟩ b = some (.vec E size xs)) (hn : xs.length = m * size) (hl' : l.set k (.c (.lst size xs)) = l')
    (h : AOps P ops Q rest ⟨n, env, (b0, some (.cells t l')) :: (b, none) :: heap, nx, gl⟩) : AOps P ops Q rest ⟨n, env, heap, nx, gl⟩ := by
  intro base w0 M a hs
  obtain ⟨M', h1, h2, h3, h4⟩ := hs.freeze hH
  have hbn : b0 ≠ b := by
    rintro rfl
    rw [hH] at hH0; cases hH0
  have hH' : M'.H b0 = some (.cells t l) := by
    rw [h2.H]
    show St.H ⟨n, env, (b, none) :: heap, nx, gl⟩ b0 = _
    unfold St.H at hH0 ⊢
    dsimp only at hH0 ⊢
    rw [look_cons, if_neg (Ne.symm hbn)]; exact hH0
  obtain ⟨g, arr, e1, e2, e3, e4, e5, e6⟩ := h2.heap.cells b0 t l hH'
  obtain ⟨g', arr', d1, d2, d3, d4, d5, d6⟩ := hs.heap.cells b0 t l (by rw [hs.H]; exact hH0)
  have hgg : g' = g := by
    have := h3.m b0 g' d1
    rw [e1] at this; cases this; rfl
  subst hgg
  have harr : arr' = arr := by rw [h1, d4] at e4; cases e4; rfl
  subst harr
  have hch := h2.change (b := b0) (x := .cells t l') (c := M'.m b0) (w' := M'.w) (by rw [hH']; simp) (fun _ _ _ => rfl) (Nat.le_refl _) rfl rfl rfl
    (fun k hk => by rw [e1] at hk; simp only [Conc.block, Option.some.injEq] at hk; omega) (fun k hk => Or.inl hk)
    (fun k hk => by rw [e1] at hk; simp only [Conc.block, Option.some.injEq] at hk; subst hk; exact e3) (fun g hg => hg)
    (fun E size l' hx => by cases hx)
    (fun M'' hext hw hF t2 l2 hx => by
      simp only [AB.cells.injEq] at hx
      obtain ⟨rfl, rfl⟩ := hx
      refine ⟨g', arr', e1, e2, by exact e4, by rw [← hl', List.length_set]; exact e5, fun i y u hy hu => ?_⟩
      rw [← hl', List.getElem?_set] at hy
      split at hy
      · rename_i hik
        subst hik
        split at hy
        · simp only [Option.some.injEq] at hy; subst hy
          exact RA.mono hext (.c (h4 m u hn (d6 k _ u hk hu)))
        · cases hy
      · exact (e6 i y u hy hu).mono hext)
    (fun E size l hx => by cases hx)
  have hgo := h base w0 _ a hch.1
  have hw : (M'.set (St.drop ⟨n, env, heap, nx, gl⟩ b) b0 (.cells t l') (M'.m b0) M'.w).w = M.w := h1
  rw [hw] at hgo
  exact wpList_monoQ (fun e a w => Lift.ext (h3.trans hch.2)) _ _ _ hgo
theorem Con.args {gl : List (Nat × List CV)} {f : FuncId} {zs zs' : List CV} {r : CV} (h : Con P gl f zs r) (hl : zs.length = zs'.length) (hh : ∀ (i : Nat) (x x' : CV), zs[i]? = some x → zs'[i]? = some x' → x = x' ∨ (∃ size, x = .lst size []) ∧ x' = .v (.slice none 0 0)) : Con P gl f zs' r := by
  refine ⟨h.1, fun w F vs hF hgl hlen hv => h.2 w F vs hF hgl (by omega) fun i x u hx hu => ?_⟩
  have hi : i < zs'.length := by have := (List.getElem?_eq_some_iff.1 hx).1; omega
  have hx' : zs'[i]? = some zs'[i] := List.getElem?_eq_getElem hi
  have hr := hv i zs'[i] u hx' hu
  rcases hh i x _ hx hx' with e | ⟨⟨size, e1⟩, e2⟩
  · rw [e]; exact hr
  · rw [e2] at hr
    cases hr
    rw [e1]; exact .nil
end
end Go.Proofs.YtjofnmklkndhoaaDoor.Ev
/- Rules of a walk: regions that draw their order, make a list of the call's own, and end in a chain. Nothing here names a program. -/
namespace Go.Proofs.YtjofnmklkndhoaaDoor.Ev
set_option linter.unusedVariables false
set_option linter.unusedSimpArgs false
open Go.RowKit
section
variable {P : Program} {ops : Array Oper} {n : Nat} {bs : List Nat} {L : Array Bool → St → Prop}
def endsT (P : Program) (ops : Array Oper) (Q : Exit → St → Prop) (n : Nat) (tl : List Oper) : Array Bool → St → Prop := fun listed st => (∀ h, h < n → listed.getD h true = true) ∧ Region.seqB .any ops (ops.size - n) n listed = true ∧ AOps P ops Q tl st
theorem endsT_eq {Q : Exit → St → Prop} {n : Nat} {tl : List Oper} : ∀ listed s t, StEq2 s t → endsT P ops Q n tl listed s → endsT P ops Q n tl listed t := fun _ _ _ e hh => ⟨hh.1, hh.2.1, fun base w0 M a hs' => hh.2.2 base w0 M a (e.symm.sim hs')⟩
def tailUpB (ops : Array Oper) (n : Nat) : Bool := (List.range n).all fun h => (ops.toList.drop n).all fun o => upB ops 8 h o
theorem tail_up {ops : Array Oper} {n : Nat} (h : tailUpB ops n = true) {i : Nat} (hi : i < n) {j : Nat} (hj : n ≤ j) {o : Oper} (ho : ops[j]? = some o) : upB ops 8 i o = true := by
  unfold tailUpB at h
  have h1 := List.all_eq_true.1 h i (List.mem_range.2 hi)
  refine List.all_eq_true.1 h1 o ?_
  have : (ops.toList.drop n)[j - n]? = some o := by rw [List.getElem?_drop, show n + (j - n) = j by omega]; simpa using ho
  exact List.mem_of_getElem? this
theorem ends_z {Q : Exit → St → Prop} {n : Nat} {tl : List Oper} (hu : tailUpB ops n = true) {i : Nat} (hi : i < n) : ∀ listed st, Cl ops listed → i ∈ Region.ready .any ops listed → endsT P ops Q n tl (listed.setIfInBounds i true) st → ∀ j ∈ Region.ready .any ops listed, j ≠ i → False := by
  intro listed st cl hr H j hj hji
  obtain ⟨hjun, oj, hoj, hall⟩ := mem_ready.1 hj
  rcases Nat.lt_or_ge j n with hjn | hjn
  · have := H.1 j hjn
    rw [getD_set_ne true (Ne.symm hji), hjun] at this
    cases this
  · have := up_listed cl 8 oj (tail_up hu hi hjn hoj) hall
    rw [getD_both (mem_ready.1 hr).1] at this; cases this
section
variable {Q : Exit → St → Prop} {rest : List Oper} {st : St} {d : Nat} {ty : TypeId} {pos : String} {af : Array Edge}
theorem ao_append_e0 {s x : Operand} {t E size bytes m : Nat} [I : SlT P t E size bytes] {ys : List CV} (hs0 : st.ev s = some (.c .e0)) (hx : Src P st x size m ys) (hm : 0 < m) (hb1 : m ≤ maxLen) (hb2 : m * bytes ≤ 140737488355328) (hd : Nat.blt d st.n = true)
    (h : AOps P ops Q rest ((st.new (.vec E size ys)).put d (.vec st.nx m))) : AOps P ops Q (⟨some d, .call ⟨.builtin .append, #[s, x], #[t, t]⟩, ty, pos, af, none⟩ :: rest) st := by
  intro base w0 M a hs
  obtain ⟨ad, cap, cs, c0, c1, c2, c3, c4, c5, c6⟩ := hx base w0 M a hs
  have hv0 := hs.ev hs0
  obtain ⟨M1, m1, m2, m3, m4⟩ := hs.newNil E size I.pos
  have hF1 : ∀ b, M.F b → M1.F b ∧ M1.w.heap[b]? = M.w.heap[b]? := m4.F
  obtain ⟨v', w', M', g1, g2, g3, g4, g5⟩ := append_core (P := P) (ty := ty) m3 I (b := st.nx) (xs := []) (n := 0) (by rw [H_new, if_pos rfl]) (by rw [← hs.nx]; exact m2) (by simp) c1 c2 c3 (by rw [m1]; exact c4) c5 (fun i z v hz hv => (c6 i z v hz hv).mono hF1) (by omega) (by simpa using hb2) (cap := cap)
  rw [m1] at g1
  generalize hq : a.eval s = v at hv0
  cases hv0 with
  | c hv =>
  cases hv with
  | e0 =>
  rename_i ad0
  have hrun : (Builtin.append_ #[t, t] ty #[.slice ad0 0 0, .slice ad m cap]).run P M.w = .ok v' w' := by
    cases ad0 with
    | none => exact g1
    | some a0 => rw [run_append_e0 I M.w a0 _ m cap hm hb1 hb2]; exact g1
  refine wl_value rfl (ex_append hq c0 hrun) ?_
  subst g2
  have hfin : Sim base w0 (st.new (.vec E size ys)) M' a := g3.congr (by
    funext b
    rw [H_set, H_new, H_new, List.nil_append]
    by_cases hb : st.nx = b
    · rw [if_pos hb, if_pos hb]
    · rw [if_neg hb, if_neg hb, if_neg hb]) rfl rfl rfl rfl
  rw [Nat.zero_add] at g5
  exact wpList_monoQ (fun e a w => Lift.ext (m4.trans g4)) _ _ _ (h base w0 M' _ (hfin.put hd g5))
end
end
end Go.Proofs.YtjofnmklkndhoaaDoor.Ev
/- Rules of a walk: regions that draw their order, in which one operation makes blocks of which some parts are known only when it has run, and that end in a chain. Nothing here names a program. -/
namespace Go.Proofs.YtjofnmklkndhoaaDoor.Ev
set_option linter.unusedVariables false
set_option linter.unusedSimpArgs false
open Go.RowKit
def St.new2 (s : St) (x : AB) : St := { s with heap := (s.nx + 1, some x) :: (s.nx, none) :: s.heap, nx := s.nx + 2 }
theorem H_new2 (st : St) (x : AB) (b : Nat) : (st.new2 x).H b = if st.nx + 1 = b then some x else if st.nx = b then none else st.H b := by
  unfold St.H St.new2
  simp only [look_cons]
  by_cases h1 : st.nx + 1 = b
  · rw [if_pos h1, if_pos h1]
  · rw [if_neg h1, if_neg h1]
    by_cases h2 : st.nx = b
    · rw [if_pos h2, if_pos h2]
    · rw [if_neg h2, if_neg h2]
theorem StEq2.new2 {s t : St} (h : StEq2 s t) (x : AB) : StEq2 (s.new2 x) (t.new2 x) :=
  ⟨h.n, fun b => by rw [H_new2, H_new2, h.nx, h.H b], by show s.nx + 2 = t.nx + 2; rw [h.nx], h.gl, h.env⟩
theorem Fr.new2 {st : St} (h : Fr st) (x : AB) : Fr (st.new2 x) := fun b hb => by
  have hb : st.nx + 2 ≤ b := hb
  rw [H_new2, if_neg (by omega), if_neg (by omega)]
  exact h b (by omega)
section
variable {P : Program} {ops : Array Oper} {n : Nat} {L : Array Bool → St → Prop}
def FStep (P : Program) (ops : Array Oper) (o : Oper) (st : St) (d : Nat) {Γ : Type} (x : Γ → AB) (mk : Γ → AV) : Prop :=
  o.guard = none ∧ o.dst = some d ∧ ∀ s : St, s.n = st.n → s.gl = st.gl → (∀ z ∈ o.op.operands, s.ev z = st.ev z) → AOps P ops (only (fun s' => ∃ γ, StEq2 s' ((s.new2 (x γ)).put d (mk γ)))) [o] s
theorem FStep.of {o : Oper} {s t : St} {d : Nat} {Γ : Type} {x : Γ → AB} {mk : Γ → AV} (h : FStep P ops o s d x mk) (hn : s.n = t.n) (hg : s.gl = t.gl) (hev : ∀ z ∈ o.op.operands, s.ev z = t.ev z) : FStep P ops o t d x mk :=
  ⟨h.1, h.2.1, fun u e1 e2 e4 => h.2.2 u (e1.trans hn.symm) (e2.trans hg.symm) (fun z hz => (e4 z hz).trans (hev z hz).symm)⟩
inductive DG6 (P : Program) (ops : Array Oper) (o : Oper) (st : St) : (St → Prop) → Prop
  | q {d : Nat} {y : AV} (h : DY P ops o st d y) : DG6 P ops o st (fun s' => s' = st.put d y)
  | f {d : Nat} {x : Nat × Nat → AB} {mk : Nat × Nat → AV} (h : FStep P ops o st d x mk) : DG6 P ops o st (fun s' => ∃ γ, s' = (st.new2 (x γ)).put d (mk γ))
def DAny6 (P : Program) (ops : Array Oper) (L : Array Bool → St → Prop) : Nat → Array Bool → St → Prop
  | 0, listed, st => L listed st
  | f + 1, listed, st => Region.ready .any ops listed ≠ [] ∧ ∀ i ∈ Region.ready .any ops listed, ∃ o S, ops[i]? = some o ∧ DG6 P ops o st S ∧ ∀ st', S st' → DAny6 P ops L f (listed.setIfInBounds i true) st'
theorem DAny6.eq (hL : ∀ listed s t, StEq2 s t → L listed s → L listed t) : ∀ (f : Nat) (listed : Array Bool) (s t : St), StEq2 s t → DAny6 P ops L f listed s → DAny6 P ops L f listed t
  | 0, listed, s, t, e, h => hL listed s t e h
  | f + 1, listed, s, t, e, h => ⟨h.1, fun i hi => by
    obtain ⟨o, S, h2, h3, h4⟩ := h.2 i hi
    cases h3 with
    | q h => exact ⟨o, _, h2, .q (h.eq2 e), fun st' hs => by subst hs; exact DAny6.eq hL f _ _ _ (e.put _ _) (h4 _ rfl)⟩
    | f h => exact ⟨o, _, h2, .f (h.of e.n e.gl (fun z _ => e.ev z)), fun st' ⟨γ, hs⟩ => by subst hs; exact DAny6.eq hL f _ _ _ ((e.new2 _).put _ _) (h4 _ ⟨γ, rfl⟩)⟩⟩
theorem DAny6_first {i : Nat} {oi : Oper} (hi : ops[i]? = some oi) (hL : ∀ listed s t, StEq2 s t → L listed s → L listed t) (hz : ∀ listed st, Cl ops listed → i ∈ Region.ready .any ops listed → L (listed.setIfInBounds i true) st → ∀ j ∈ Region.ready .any ops listed, j ≠ i → False) :
    ∀ (f : Nat) (listed : Array Bool) (st : St) (d : Nat) (y : AV), Cl ops listed → Fr st →
      (∀ j oj, ops[j]? = some oj → j ≠ i → listed.getD j true = false → (∀ e ∈ oj.after, Region.binds .any e = true → e.on ≠ i) → oi.apart ops oj = true) →
      i ∈ Region.ready .any ops listed → DY P ops oi st d y → DAny6 P ops L f (listed.setIfInBounds i true) (st.put d y) → DAny6 P ops L (f + 1) listed st := by
  intro f
  induction f with
  | zero =>
    intro listed st d y cl fr hfree hr hy H
    refine ⟨fun h0 => (by rw [h0] at hr; cases hr), fun j hj => ?_⟩
    by_cases hji : j = i
    · subst hji; exact ⟨oi, _, hi, .q hy, fun st' hs => by subst hs; exact H⟩
    · exact (hz _ _ cl hr H j hj hji).elim
  | succ f ih =>
    intro listed st d y cl fr hfree hr hy H
    refine ⟨fun h0 => (by rw [h0] at hr; cases hr), fun j hj => ?_⟩
    by_cases hji : j = i
    · subst hji; exact ⟨oi, _, hi, .q hy, fun st' hs => by subst hs; exact H⟩
    · obtain ⟨oj, S, h2, h3, h4⟩ := H.2 j (ready_mono hj hji)
      obtain ⟨hjun, oj', hoj, hall⟩ := mem_ready.1 hj
      have hoo : oj' = oj := Option.some.inj (hoj.symm.trans h2)
      subst hoo
      have hnot : ∀ e ∈ oj'.after, Region.binds .any e = true → e.on ≠ i := fun e he hb heq => by
        have h1 := hall e he hb
        have h0 := getD_both (mem_ready.1 hr).1
        rw [heq, h0] at h1
        cases h1
      obtain ⟨a1, a2, a3⟩ := Oper.apart_spec (hfree j oj' hoj hji hjun hnot)
      have hdi : oi.dst = some d := hy.1
      have hfree' : ∀ k ok, ops[k]? = some ok → k ≠ i → (listed.setIfInBounds j true).getD k true = false → (∀ e ∈ ok.after, Region.binds .any e = true → e.on ≠ i) → oi.apart ops ok = true := fun k ok hk hki hun hno => by
        refine hfree k ok hk hki ?_ hno
        by_cases hjk : j = k
        · subst hjk; exact hjun
        · rw [getD_set_ne true hjk] at hun; exact hun
      cases h3 with
      | @q dj yj h3 =>
        have hdj : oj'.dst = some dj := h3.1
        have hne : d ≠ dj := fun e => a2 d hdi (by rw [hdj, e])
        refine ⟨oj', _, h2, .q (h3.unput (a1 d hdi)), fun st' hs => ?_⟩
        subst hs
        refine ih (listed.setIfInBounds j true) (st.put dj yj) d y (cl.set hj) (fr.put _ _) hfree' (ready_mono hr (Ne.symm hji)) (hy.put yj (a3 dj hdj)) ?_
        rw [Array.setIfInBounds_comm _ _ hji]
        exact DAny6.eq hL f _ _ _ (StEq2.comm st hne y yj) (h4 _ rfl)
      | @f dj x mk h3 =>
        obtain ⟨l1, l2⟩ := looks_ne (a1 d hdi)
        have hdj : oj'.dst = some dj := h3.2.1
        have hne : d ≠ dj := fun e => a2 d hdi (by rw [hdj, e])
        refine ⟨oj', _, h2, .f (h3.of rfl rfl (fun z hz => ev_put (l1 z hz))), fun st' ⟨γ, hs⟩ => ?_⟩
        subst hs
        have hy1 : DY P ops oi (st.new2 (x γ)) d y := hy.of rfl (fun b' z hz => by
          rw [H_new2, if_neg, if_neg]
          · exact hz
          · intro e; subst e; rw [fr _ (Nat.le_refl _)] at hz; cases hz
          · intro e; subst e; rw [fr _ (by omega)] at hz; cases hz) rfl (fun z _ => by cases z <;> rfl) (fun _ _ _ _ _ => rfl)
        refine ih (listed.setIfInBounds j true) ((st.new2 (x γ)).put dj (mk γ)) d y (cl.set hj) ((fr.new2 _).put _ _) hfree' (ready_mono hr (Ne.symm hji)) (hy1.put _ (a3 dj hdj)) ?_
        rw [Array.setIfInBounds_comm _ _ hji]
        exact DAny6.eq hL f _ _ _ (StEq2.comm (st.new2 (x γ)) hne y _) (h4 _ ⟨γ, rfl⟩)
theorem DG6.wp {base : Nat} {w0 : W0} {st : St} {S : St → Prop} {M : Wd} {a : Act} {i : Nat} {o : Oper} {K : Act → World → Prop} {Q' : Exit → Act → World → Prop} (hi : ops[i]? = some o) (h : DG6 P ops o st S) (hs : Sim base w0 st M a)
    (hK : ∀ st' M' a', S st' → Ext M M' → Sim base w0 st' M' a' → K a' M'.w) : wpOp P ops Q' i K a M.w := by
  cases h with
  | q h => exact h.wp hi hs (fun M' a' he hs' => hK _ M' a' rfl he hs')
  | @f d x mk h =>
    have hl := h.2.2 st rfl rfl (fun _ _ => rfl) base w0 M a hs
    have hw : Region.wanted o (yielded ops a.tmps) = true := by simp [Region.wanted, h.1]
    unfold wpList at hl
    rw [if_pos hw] at hl
    unfold wpOp
    simp only [hi]
    rw [if_pos hw]
    rcases hl with hl | ⟨_, a', w', M', st', _, _, _, hf⟩
    · refine .inl (upon_mono2 (fun a' w' hk => ?_) (fun e a' w' hne hq => ?_) hl)
      · obtain ⟨M', st', e1, e2, e3, e4⟩ := hk
        subst e1
        obtain ⟨γ, e4⟩ : ∃ γ, StEq2 st' _ := e4
        exact hK _ M' a' ⟨γ, rfl⟩ e3 (e4.sim e2)
      · obtain ⟨M', st', e1, e2, e3, e4⟩ := hq
        cases e <;> first | exact absurd rfl hne | exact e4.elim
    · exact hf.elim
theorem wpAny_of_DAny6 {base : Nat} {w0 : W0} {M0 : Wd} {Q : Exit → St → Prop} {g : Nat} (hL : ∀ listed st M a, L listed st → Sim base w0 st M a → Ext M0 M → wpAny P .any ops (Lift base w0 M0 Q) g listed a M.w) :
    ∀ (f : Nat) (listed : Array Bool) (st : St) (M : Wd) (a : Act), Sim base w0 st M a → Ext M0 M → DAny6 P ops L f listed st → wpAny P .any ops (Lift base w0 M0 Q) (f + g) listed a M.w
  | 0, listed, st, M, a, hs, he, h => by rw [Nat.zero_add]; exact hL _ _ _ _ h hs he
  | f + 1, listed, st, M, a, hs, he, h => by
    rw [show f + 1 + g = (f + g) + 1 by omega]
    refine ⟨fun h0 => absurd h0 h.1, fun i hi => ?_⟩
    obtain ⟨o, S, h1, h2, h3⟩ := h.2 i hi
    exact h2.wp h1 hs fun st' M' a' hst hext hs' => wpAny_of_DAny6 hL f _ _ M' a' hs' (he.trans hext) (h3 _ hst)
theorem DAny6_ord {k m : Nat} {Q : Exit → St → Prop} {tl : List Oper} {E : St → Prop} {rest : Array Bool → Bool} (hu : tailUpB ops m = true) : ∀ (is : List Nat) (listed : Array Bool) (st : St), (∀ i ∈ is, i < m) → (∀ listed st, Cl ops listed → Fr st → rest listed = true → E st → DAny6 P ops (endsT P ops Q m tl) k listed st) → Cl ops listed → Fr st → ordB .any ops rest is listed = true →
    DSeq P ops E (pk ops.toList is) st → DAny6 P ops (endsT P ops Q m tl) (is.length + k) listed st
  | [], listed, st, _, hE, cl, fr, hB, h => by
    rw [List.length_nil, Nat.zero_add]
    exact hE listed st cl fr hB h
  | i :: is, listed, st, hm, hE, cl, fr, hB, h => by
    unfold ordB at hB
    simp only [Bool.and_eq_true] at hB
    obtain ⟨⟨hr, hf⟩, hB'⟩ := hB
    have hr' : i ∈ Region.ready .any ops listed := by simpa using hr
    obtain ⟨_, o, h0, _⟩ := mem_ready.1 hr'
    rw [pk_cons (by simpa using h0)] at h
    obtain ⟨d, y, hy, hK⟩ := h
    have := DAny6_first h0 endsT_eq (ends_z hu (hm i (List.mem_cons_self ..))) (is.length + k) listed st d y cl fr (Region.free_spec h0 hf) hr' hy
      (DAny6_ord hu is _ (st.put d y) (fun j hj => hm j (List.mem_cons_of_mem _ hj)) hE (cl.set hr') (fr.put _ _) hB' hK)
    rw [List.length_cons, show is.length + 1 + k = is.length + k + 1 by omega]
    exact this
def finF (ops : Array Oper) (n : Nat) (listed : Array Bool) : Bool := Region.seqB .any ops (ops.size - n) n listed && (List.range n).all (fun h => listed.getD h true)
def midF (ops : Array Oper) (n a : Nat) (js : List Nat) (listed : Array Bool) : Bool := (Region.ready .any ops listed).contains a && (Region.ready .any ops listed).all (fun i => Nat.beq i a) && ordB .any ops (finF ops n) js (listed.setIfInBounds a true)
def drawFB (ops : Array Oper) (n : Nat) (is : List Nat) (a : Nat) (js : List Nat) : Bool := Region.noSelect ops && Nat.ble n ops.size && Nat.beq (is.length + (js.length + 1)) n && is.all (fun i => Nat.blt i n) && js.all (fun i => Nat.blt i n) && tailUpB ops n && ordB .any ops (midF ops n a js) is (Array.replicate ops.size false)
theorem aw_drawF {id : Nat} {l : List Oper} {Q : Exit → St → Prop} {nn nx : Nat} {env : List (Nat × AV)} {heap : List (Nat × Option AB)} {gl : List (Nat × List CV)} [m : Mixed P] (n : Nat) (is : List Nat) (a : Nat) (js : List Nat) {oa : Oper} (hB : drawFB l.toArray n is a js = true) (hoa : l[a]? = some oa) (hf : frB heap nx = true)
    (h : DSeq P l.toArray (fun s => ∃ (d : Nat) (x : Nat × Nat → AB) (mk : Nat × Nat → AV), FStep P l.toArray oa s d x mk ∧ ∀ γ, DSeq P l.toArray (AOps P l.toArray Q (l.drop n)) (pk l js) ((s.new2 (x γ)).put d (mk γ))) (pk l is) ⟨nn, env, heap, nx, gl⟩) : Awp P (.region id l.toArray true) Q ⟨nn, env, heap, nx, gl⟩ := by
  simp only [drawFB, Bool.and_eq_true] at hB
  obtain ⟨⟨⟨⟨⟨⟨hsel, hle⟩, hlen⟩, his⟩, hjs⟩, hup⟩, hord⟩ := hB
  have hle := Nat.le_of_ble_eq_true hle
  have hlen := beq_true hlen
  have hdl : (l.drop n).length = l.toArray.size - n := by simp
  intro base w0 M ac hs
  have H := DAny6_ord (P := P) (ops := l.toArray) (k := js.length + 1) (m := n) (Q := Q) (tl := l.drop n) hup is _ ⟨nn, env, heap, nx, gl⟩ (fun i hi => blt_true (List.all_eq_true.1 his i hi)) (fun listed st cl fr hfin hE => by
    obtain ⟨d, x, mk, hs1, hs2⟩ := hE
    simp only [midF, Bool.and_eq_true] at hfin
    obtain ⟨⟨hr, hone⟩, hjo⟩ := hfin
    have hr' : a ∈ Region.ready .any l.toArray listed := by simpa using hr
    refine ⟨fun h0 => (by rw [h0] at hr'; cases hr'), fun i hi => ?_⟩
    have hia : i = a := beq_true (List.all_eq_true.1 hone i hi)
    subst hia
    refine ⟨oa, _, by simpa using hoa, .f hs1, fun st' ⟨γ, hst⟩ => ?_⟩
    subst hst
    have := DAny6_ord (P := P) (ops := l.toArray) (k := 0) (m := n) (Q := Q) (tl := l.drop n) hup js (listed.setIfInBounds i true) _ (fun j hj => blt_true (List.all_eq_true.1 hjs j hj)) (fun listed st cl fr hfin hE => by
      simp only [finF, Bool.and_eq_true] at hfin
      exact ⟨fun h hh => List.all_eq_true.1 hfin.2 h (List.mem_range.2 hh), hfin.1, hE⟩) (cl.set hr') ((fr.new2 _).put _ _) hjo (hs2 γ)
    rwa [Nat.add_zero] at this) (cl_0 _) (fr_of hf) hord h
  refine wp_region_any m.h ?_
  have := wpAny_of_DAny6 (P := P) (ops := l.toArray) (base := base) (w0 := w0) (M0 := M) (Q := Q) (g := l.toArray.size - n) (fun listed st' M' a' hL hs' he => by
    have h1 := wpList_monoQ (fun e a w => Lift.ext he) _ _ _ (hL.2.2 base w0 M' a' hs')
    have h2 := wpAny_of_seq (md := .any) (l.drop n) n listed a' M'.w (fun j => by simp) (by rw [hdl]; exact hL.2.1) h1
    rwa [hdl] at h2) (is.length + (js.length + 1)) (Array.replicate l.toArray.size false) _ M.drew ac hs.drew (Ext.drew M) H
  rw [show is.length + (js.length + 1) + (l.toArray.size - n) = l.toArray.size by omega] at this
  exact this
theorem ds_nilF {nn nx : Nat} {env : List (Nat × AV)} {heap : List (Nat × Option AB)} {gl : List (Nat × List CV)} {oa : Oper} {tl js : List Oper} {Q : Exit → St → Prop} {d : Nat} {x : Nat × Nat → AB} {mk : Nat × Nat → AV} (h1 : FStep P ops oa ⟨nn, env, heap, nx, gl⟩ d x mk) (h2 : ∀ g cap, DSeq P ops (AOps P ops Q tl) js ⟨nn, (d, mk (g, cap)) :: env, (nx + 1, some (x (g, cap))) :: (nx, none) :: heap, nx + 2, gl⟩) : DSeq P ops (fun s => ∃ (d : Nat) (x : Nat × Nat → AB) (mk : Nat × Nat → AV), FStep P ops oa s d x mk ∧ ∀ γ, DSeq P ops (AOps P ops Q tl) js ((s.new2 (x γ)).put d (mk γ))) [] ⟨nn, env, heap, nx, gl⟩ := ⟨d, x, mk, h1, fun γ => h2 γ.1 γ.2⟩
end
end Go.Proofs.YtjofnmklkndhoaaDoor.Ev
/- Rules of a walk: objects: calls that change one, boxes that become one, calls that make one. Nothing here names a program. -/
namespace Go.Proofs.YtjofnmklkndhoaaDoor.Ev
set_option linter.unusedVariables false
set_option linter.unusedSimpArgs false
open Go.RowKit
inductive OA where
  | c (x : CV)
  | o (f : Nat → Value)
  | p
structure OPost (w : World) (F fp : Nat → Prop) (g : Nat) (p' : ObjP) (fp' : Nat → Prop) (w' : World) : Prop where
  os : w'.os = w.os
  tape : w'.tape = w.tape
  output : w'.output = w.output
  size : w.heap.size ≤ w'.heap.size
  block : ∀ k, k < w.heap.size → ¬ fp k → w'.heap[k]? = w.heap[k]?
  holds : p'.holds w' g fp'
  root : fp' g
  lt : ∀ k, fp' k → k < w'.heap.size ∧ (fp k ∨ w.heap.size ≤ k)
def oF (w : World) (F fp fp' : Nat → Prop) (w' : World) : Nat → Prop := fun b => F b ∨ (b < w'.heap.size ∧ ¬ fp' b ∧ (fp b ∨ w.heap.size ≤ b))
section
variable {base : Nat} {w0 : W0} {st : St} {M : Wd} {a : Act}
def Wd.chg (M : Wd) (b : Nat) (p' : ObjP) (fp' : Nat → Prop) (w' : World) : Wd :=
  { m := M.m, H := fun k => if b = k then some (.obj p') else M.H k, nx := M.nx, F := oF M.w M.F (M.fp b) fp' w', w := w', fp := fun k => if k = b then fp' else M.fp k }
theorem Sim.chg (hs : Sim base w0 st M a) {b : Nat} {p p' : ObjP} (hb : M.H b = some (.obj p)) {g : Nat} (hm : M.m b = .blk g) {fp' : Nat → Prop} {w' : World} (h : OPost M.w M.F (M.fp b) g p' fp' w') :
    Sim base w0 (st.set b (.obj p')) (M.chg b p' fp' w') a ∧ Ext M (M.chg b p' fp' w') := by
  obtain ⟨g0, o1, o2, o3, o4, o5⟩ := hs.heap.obj b p hb
  rw [hm] at o1; cases o1
  let M' : Wd := M.chg b p' fp' w'
  have hH : ∀ k, M'.H k = if b = k then some (.obj p') else M.H k := fun k => rfl
  have hne : ∀ k, M'.H k ≠ none → M.H k ≠ none := fun k hk => by
    rw [hH] at hk
    by_cases h : b = k
    · subst h; rw [hb]; simp
    · rwa [if_neg h] at hk
  have hold : ∀ k, b ≠ k → ∀ x, M'.H k = some x → M.H k = some x := fun k hk x hx => by rwa [hH, if_neg hk] at hx
  have hF : ∀ k, M.F k → oF M.w M.F (M.fp b) fp' w' k ∧ w'.heap[k]? = M.w.heap[k]? := fun k hk => ⟨Or.inl hk, h.block k (hs.heap.frz k hk) (fun hf => (o4 k hf).2.2 hk)⟩
  have hext : Ext M M' := ⟨fun _ _ h => h, fun k E size' l' _ hl => by
    rw [hH] at hl
    by_cases h : b = k
    · rw [if_pos h] at hl; cases hl
    · rw [if_neg h] at hl; exact ⟨l', hl, Nat.le_refl _, fun _ => rfl⟩, Nat.le_refl _, hF⟩
  have hblk : ∀ k, b ≠ k → M.H k ≠ none → ∀ q, (M.m k).block = some q → w'.heap[q]? = M.w.heap[q]? ∧ ¬ oF M.w M.F (M.fp b) fp' w' q ∨ M.F q := fun k hk hn q hq => by
    by_cases hf : M.F q
    · exact Or.inr hf
    · have hlt := conc_lt hs.heap hn hq
      refine Or.inl ⟨h.block q hlt (fun hfp => (o5 k q (Ne.symm hk) hfp).1 hn hq), fun hh => ?_⟩
      rcases hh with hh | hh
      · exact hf hh
      · rcases hh.2.2 with hh | hh
        · exact (o5 k q (Ne.symm hk) hh).1 hn hq
        · omega
  have hfpb : M'.fp b = fp' := by simp [M', Wd.chg]
  have hfpk : ∀ k, b ≠ k → M'.fp k = M.fp k := fun k hk => by simp [M', Wd.chg, Ne.symm hk]
  refine ⟨⟨funext fun k => by rw [H_set, ← hs.H]; exact hH k, hs.nx, hs.n, fun i y hy => ?_, fun g xs hg => (hs.gl g xs hg).mono hext, ⟨?_, ?_, ?_, ?_, hs.heap.fresh, ?_, ?_⟩, ?_, Nat.le_trans hs.base h.size, hs.defs, fun k hk hlt => ?_⟩, hext⟩
  · obtain ⟨u, h1, h2⟩ := hs.env i y hy
    exact ⟨u, h1, h2.mono hext⟩
  · intro k t l hl
    have hk : b ≠ k := fun e => by rw [hH, if_pos e] at hl; cases hl
    have hl := hold k hk _ hl
    obtain ⟨g', arr, e1, e2, e3, e4, e5, e6⟩ := hs.heap.cells k t l hl
    rcases hblk k hk (by rw [hl]; simp) g' (by rw [e1]; rfl) with ⟨h1, h2⟩ | h1
    · exact ⟨g', arr, e1, e2, h2, h1.trans e4, e5, fun i x u hx hu => (e6 i x u hx hu).mono hext⟩
    · exact absurd h1 e3
  · intro k E size l hl
    have hk : b ≠ k := fun e => by rw [hH, if_pos e] at hl; cases hl
    have hl := hold k hk _ hl
    obtain ⟨v, n, cs, e1, e2, e3, e4, e5, e6⟩ := hs.heap.vec k E size l hl
    have hq : ∀ q, v.ownBlock = some q → w'.heap[q]? = M.w.heap[q]? ∧ ¬ oF M.w M.F (M.fp b) fp' w' q := fun q hq => by
      rcases hblk k hk (by rw [hl]; simp) q (by rw [e1]; exact hq) with h1 | h1
      · exact h1
      · exact absurd h1 (e6 q hq)
    refine ⟨v, n, cs, e1, e2, e3, ?_, fun i y u h1 h2 => (e5 i y u h1 h2).mono hF, fun q hv => (hq q hv).2⟩
    obtain ⟨f1, f2⟩ := e4
    refine ⟨f1, ?_⟩
    rcases f2 with f2 | ⟨g', cap, cur, rfl, g1, g2, g3⟩
    · exact Or.inl f2
    · exact Or.inr ⟨g', cap, cur, rfl, g1, (hq g' rfl).1.trans g2, g3⟩
  · intro k k' g hkk hk hk'
    exact hs.heap.sep k k' g hkk (hne k hk) (hne k' hk')
  · exact fun k hk => hs.heap.lt k (hne k hk)
  · intro k hk
    show k < w'.heap.size
    rcases hk with hk | hk
    · have := hs.heap.frz k hk; have := h.size; omega
    · exact hk.1
  · intro k q hq
    by_cases hk : b = k
    · subst hk
      rw [hH, if_pos rfl] at hq
      simp only [Option.some.injEq, AB.obj.injEq] at hq; subst hq
      refine ⟨g, hm, by rw [hfpb]; exact h.root, by rw [hfpb]; exact h.holds, fun k hk => ?_, fun b' k hbb hk => ⟨fun hb' => ?_, fun p2 hp2 => ?_⟩⟩
      · rw [hfpb] at hk
        obtain ⟨h1, h2⟩ := h.lt k hk
        refine ⟨?_, h1, fun hf => ?_⟩
        · rcases h2 with h2 | h2
          · exact (o4 k h2).1
          · exact Nat.le_trans hs.base h2
        · rcases hf with hf | hf
          · rcases h2 with h2 | h2
            · exact (o4 k h2).2.2 hf
            · have := hs.heap.frz k hf; omega
          · exact hf.2.1 hk
      · rw [hfpb] at hk
        obtain ⟨_, h2⟩ := h.lt k hk
        intro hc
        rcases h2 with h2 | h2
        · exact (o5 b' k hbb h2).1 (hne b' hb') hc
        · have := conc_lt hs.heap (hne b' hb') hc; omega
      · rw [hfpb] at hk
        rw [hfpk b' (Ne.symm hbb)]
        have hp2 := hold b' (Ne.symm hbb) _ hp2
        obtain ⟨_, h2⟩ := h.lt k hk
        intro hc
        rcases h2 with h2 | h2
        · exact (o5 b' k hbb h2).2 p2 hp2 hc
        · obtain ⟨_, _, _, _, r4, _⟩ := hs.heap.obj b' p2 hp2
          have := (r4 k hc).2.1; omega
    · have hq := hold k hk _ hq
      obtain ⟨g', e1, e2, e3, e4, e5⟩ := hs.heap.obj k q hq
      have hnfp : ∀ c, M.fp k c → ¬ M.fp b c := fun c hc => (e5 b c hk hc).2 p hb
      rw [hfpk k hk]
      refine ⟨g', e1, e2, q.stable _ _ _ _ e3 (fun c hc => h.block c (e4 c hc).2.1 (hnfp c hc)), fun c hc => ⟨(e4 c hc).1, Nat.lt_of_lt_of_le (e4 c hc).2.1 h.size, fun hf => ?_⟩, fun b' c hbb hc => ⟨fun hb' => (e5 b' c hbb hc).1 (hne b' hb'), fun p2 hp2 => ?_⟩⟩
      · rcases hf with hf | hf
        · exact (e4 c hc).2.2 hf
        · rcases hf.2.2 with hf | hf
          · exact hnfp c hc hf
          · have := (e4 c hc).2.1; omega
      · by_cases hb' : b = b'
        · subst hb'
          rw [hfpb]
          intro hf
          rcases (h.lt c hf).2 with h2 | h2
          · exact hnfp c hc h2
          · have := (e4 c hc).2.1; omega
        · rw [hfpk b' hb']
          exact (e5 b' c hbb hc).2 p2 (hold b' hb' _ hp2)
  · refine ⟨h.os.trans hs.below.os, h.tape.trans hs.below.tape, h.output.trans hs.below.output, Nat.le_trans hs.below.size h.size, fun k hk => ?_⟩
    show w'.heap[k]? = _
    have hb1 := hs.base
    rw [h.block k (by omega) (fun hf => by have := (o4 k hf).1; omega)]
    exact hs.below.block k hk
  · rcases hk with hk | hk
    · exact hs.old k hk hlt
    · rcases hk.2.2 with hk | hk
      · have := (o4 k hk).1; omega
      · have := hs.base; omega
theorem Sim.changeO (hs : Sim base w0 st M a) {b : Nat} {p p' : ObjP} (hb : M.H b = some (.obj p)) {g : Nat} (hm : M.m b = .blk g) {fp' : Nat → Prop} {w' : World} (h : OPost M.w M.F (M.fp b) g p' fp' w') :
    ∃ M', M'.w = w' ∧ M'.F = oF M.w M.F (M.fp b) fp' w' ∧ Sim base w0 (st.set b (.obj p')) M' a ∧ Ext M M' :=
  ⟨_, rfl, rfl, (hs.chg hb hm h).1, (hs.chg hb hm h).2⟩
end
section
variable {P : Program} {ops : Array Oper} {Q : Exit → St → Prop} {rest : List Oper} {st : St} {d : Nat} {ty : TypeId} {pos : String} {af : Array Edge}
end
end Go.Proofs.YtjofnmklkndhoaaDoor.Ev
/- Rules of a walk: a row of numbers of the call's own at a known block, while a list of the call's own holds its slice. Nothing here names a program. -/
namespace Go.Proofs.YtjofnmklkndhoaaDoor.Ev
set_option linter.unusedVariables false
set_option linter.unusedSimpArgs false
open Go.RowKit
section
variable {base : Nat} {w0 : W0} {st : St} {M : Wd} {a : Act}
theorem Sim.adopt (hs : Sim base w0 st M a) (b : Nat) {g : Nat} {p : ObjP} {fp : Nat → Prop} (h1 : p.holds M.w g fp) (h2 : fp g) (h3 : ∀ k, fp k → base ≤ k ∧ k < M.w.heap.size ∧ ¬ M.F k) (h4 : ∀ b' k, b' ≠ b → fp k → (M.H b' ≠ none → (M.m b').block ≠ some k) ∧ ∀ p', M.H b' = some (.obj p') → ¬ M.fp b' k) :
    ∃ M', M'.w = M.w ∧ M'.F = M.F ∧ M'.m M.nx = .blk g ∧ Sim base w0 ⟨st.n, st.env, (st.nx, some (.obj p)) :: (b, none) :: st.heap, st.nx + 1, st.gl⟩ M' a ∧ Ext M M' := by
  let M' : Wd := { M with m := fun k => if k = M.nx then .blk g else M.m k, H := St.H ⟨st.n, st.env, (st.nx, some (.obj p)) :: (b, none) :: st.heap, st.nx + 1, st.gl⟩, nx := M.nx + 1, fp := fun k => if k = M.nx then fp else M.fp k }
  have hH : ∀ k, M'.H k = if M.nx = k then some (.obj p) else if b = k then none else M.H k := fun k => by
    show St.H _ k = _
    unfold St.H
    simp only [look_cons, hs.nx]
    by_cases h1 : st.nx = k
    · rw [if_pos h1, if_pos h1]
    · rw [if_neg h1, if_neg h1]
      by_cases h2 : b = k
      · rw [if_pos h2, if_pos h2]
      · rw [if_neg h2, if_neg h2, hs.H]; rfl
  have hm : M'.m M.nx = .blk g := by simp [M']
  have hm' : ∀ k, M.nx ≠ k → M'.m k = M.m k := fun k hk => by simp [M', Ne.symm hk]
  have hfp : M'.fp M.nx = fp := by simp [M']
  have hfp' : ∀ k, M.nx ≠ k → M'.fp k = M.fp k := fun k hk => by simp [M', Ne.symm hk]
  have hold : ∀ k, M.nx ≠ k → ∀ x, M'.H k = some x → M.H k = some x ∧ k ≠ b := fun k hk x hx => by
    rw [hH, if_neg hk] at hx
    by_cases h : b = k
    · rw [if_pos h] at hx; cases hx
    · rw [if_neg h] at hx; exact ⟨hx, Ne.symm h⟩
  have hno : ∀ k, M.nx ≠ k → M'.H k ≠ none → M.H k ≠ none ∧ k ≠ b := fun k hk hn => by
    obtain ⟨x, hx⟩ := Option.ne_none_iff_exists'.1 hn
    obtain ⟨e1, e2⟩ := hold k hk x hx
    exact ⟨by rw [e1]; simp, e2⟩
  have hext : Ext M M' := by
    refine ⟨fun k g' hk => ?_, fun k E size' l' hk hl => ?_, by simp [M'], fun k hk => ⟨hk, rfl⟩⟩
    · rw [hm' k (fun he => hs.heap.fresh k (by omega) g' hk)]; exact hk
    · exact ⟨l', (hold k (by omega) _ hl).1, Nat.le_refl _, fun _ => hm' k (by omega)⟩
  refine ⟨M', rfl, rfl, hm, ⟨rfl, by show M.nx + 1 = st.nx + 1; rw [hs.nx], hs.n, fun i y hy => ?_, fun g xs hg => (hs.gl g xs hg).mono hext, ⟨?_, ?_, ?_, ?_, ?_, hs.heap.frz, ?_⟩, hs.below, hs.base, hs.defs, hs.old⟩, hext⟩
  · obtain ⟨u, e1, e2⟩ := hs.env i y hy
    exact ⟨u, e1, e2.mono hext⟩
  · intro k t' l' hl
    have hk : M.nx ≠ k := fun e => by rw [hH, if_pos e] at hl; cases hl
    obtain ⟨g', arr', e1, e2, e3, e4, e5, e6⟩ := hs.heap.cells k t' l' (hold k hk _ hl).1
    exact ⟨g', arr', by rw [hm' k hk]; exact e1, e2, e3, e4, e5, fun i x u hx hu => (e6 i x u hx hu).mono hext⟩
  · intro k E size l' hl
    have hk : M.nx ≠ k := fun e => by rw [hH, if_pos e] at hl; cases hl
    obtain ⟨v, n, cs, e1, e2⟩ := hs.heap.vec k E size l' (hold k hk _ hl).1
    exact ⟨v, n, cs, by rw [hm' k hk]; exact e1, e2⟩
  · intro k k' q hkk hk hk' hq hq'
    by_cases h5 : M.nx = k
    · subst h5
      rw [hm] at hq
      simp only [Conc.block, Option.some.injEq] at hq; subst hq
      rw [hm' k' hkk] at hq'
      obtain ⟨n1, n2⟩ := hno k' hkk hk'
      exact (h4 k' _ n2 h2).1 n1 hq'
    · obtain ⟨n1, n2⟩ := hno k h5 hk
      rw [hm' k h5] at hq
      by_cases h6 : M.nx = k'
      · subst h6
        rw [hm] at hq'
        simp only [Conc.block, Option.some.injEq] at hq'; subst hq'
        exact (h4 k _ n2 h2).1 n1 hq
      · rw [hm' k' h6] at hq'
        exact hs.heap.sep k k' q hkk n1 (hno k' h6 hk').1 hq hq'
  · intro k hk
    show k < M.nx + 1
    by_cases h5 : M.nx = k
    · omega
    · have := hs.heap.lt k (hno k h5 hk).1; omega
  · intro k hk g'
    have hk : M.nx + 1 ≤ k := hk
    rw [hm' k (by omega)]
    exact hs.heap.fresh k (by omega) g'
  · intro k x hx
    by_cases hk : M.nx = k
    · subst hk
      rw [hH, if_pos rfl] at hx
      simp only [Option.some.injEq, AB.obj.injEq] at hx; subst hx
      refine ⟨g, hm, by rw [hfp]; exact h2, by rw [hfp]; exact h1, fun c hc => ?_, fun b' c hbb hc => ⟨fun hb' hq => ?_, fun p2 hp2 hf => ?_⟩⟩
      · rw [hfp] at hc; exact h3 c hc
      · rw [hfp] at hc
        rw [hm' b' (Ne.symm hbb)] at hq
        obtain ⟨n1, n2⟩ := hno b' (Ne.symm hbb) hb'
        exact (h4 b' c n2 hc).1 n1 hq
      · rw [hfp] at hc
        rw [hfp' b' (Ne.symm hbb)] at hf
        obtain ⟨n1, n2⟩ := hold b' (Ne.symm hbb) _ hp2
        exact (h4 b' c n2 hc).2 p2 n1 hf
    · obtain ⟨hxo, hkb⟩ := hold k hk _ hx
      obtain ⟨g', e1, e2, e3, e4, e5⟩ := hs.heap.obj k x hxo
      rw [hfp' k hk]
      refine ⟨g', by rw [hm' k hk]; exact e1, e2, e3, e4, fun b' c hbb hc => ⟨fun hb' hq => ?_, fun p2 hp2 hf => ?_⟩⟩
      · by_cases h5 : M.nx = b'
        · subst h5
          rw [hm] at hq
          simp only [Conc.block, Option.some.injEq] at hq; subst hq
          exact (h4 k _ hkb h2).2 _ hxo hc
        · rw [hm' b' h5] at hq
          exact (e5 b' c hbb hc).1 (hno b' h5 hb').1 hq
      · by_cases h5 : M.nx = b'
        · subst h5
          rw [hfp] at hf
          exact (h4 k c hkb hf).2 _ hxo hc
        · rw [hfp' b' h5] at hf
          exact (e5 b' c hbb hc).2 p2 (hold b' h5 _ hp2).1 hf
end
theorem look_cons_self {α : Type} (i : Nat) (x : α) (l : List (Nat × α)) : look i ((i, x) :: l) = some x := by rw [look_cons, if_pos rfl]
theorem H_new_self (n : Nat) (env : List (Nat × AV)) (b : Nat) (x : AB) (heap : List (Nat × Option AB)) (nx : Nat) (gl : List (Nat × List CV)) : St.H ⟨n, env, (b, some x) :: heap, nx, gl⟩ b = some x := by unfold St.H; simp only [look_cons, if_true]
def numC (n : Int) : List CV := [.v (.int .i64 n)]
instance : EncL numC 1 := ⟨fun _ => rfl, by decide, fun _ => rfl⟩
theorem num_map (l : List Int) : l.flatMap numC = l.map (fun b => .v (.int .i64 b)) := by
  induction l with
  | nil => rfl
  | cons x l ih => rw [List.flatMap_cons, ih]; rfl
abbrev slK (g n cap : Nat) : CV := .v (.slice (some ⟨g, 0, none⟩) n cap)
inductive Rw where
  | nil
  | row (r : List Int)
  | sl (g n cap : Nat)
def rwV : Rw → CV
  | .nil => .v (.slice none 0 0)
  | .row r => .lst 1 (r.flatMap numC)
  | .sl g n cap => slK g n cap
def rwC (x : Rw) : List CV := [rwV x]
instance : EncL rwC 1 := ⟨fun _ => rfl, by decide, fun x => by cases x <;> rfl⟩
theorem rw_map (l : List Rw) : l.flatMap rwC = l.map rwV := by
  induction l with
  | nil => rfl
  | cons x l ih => rw [List.flatMap_cons, ih]; rfl
def bsP (E cap g0 : Nat) (l : List Int) : ObjP where
  holds := fun w g fp => g = g0 ∧ (∀ k, fp k ↔ k = g) ∧ ∃ arr, w.heap[g]? = some (.cells arr E (0, 0)) ∧ l.length ≤ cap ∧ l.length ≤ arr.size ∧ ∀ (i : Nat) (x : Int), l[i]? = some x → arr[i]? = some (.int .i64 x)
  stable := fun w w' g fp ⟨h0, h1, arr, h2, h3⟩ hk => ⟨h0, h1, arr, (hk g ((h1 g).2 rfl)).trans h2, h3⟩
section
variable {P : Program} {ops : Array Oper} {Q : Exit → St → Prop} {X : List Oper → St → Prop} {rest : List Oper} {d : Nat} {ty : TypeId} {pos : String} {af : Array Edge} {n : Nat} {env : List (Nat × AV)} {heap : List (Nat × Option AB)} {nx : Nat} {gl : List (Nat × List CV)}
theorem ao_torow {l0 : List Oper} (i : Nat) {b E m : Nat} {l : List Int} (hi : look i env = some (.vec b m)) (hH : St.H ⟨n, env, heap, nx, gl⟩ b = some (.vec E 1 (l.flatMap numC))) (hl : l.length = m) (hm0 : 0 < m)
    (h : ∀ g cap, AOps P ops Q l0 ⟨n, (i, .c (slK g m cap)) :: env, (nx, some (.obj (bsP E cap g l))) :: (b, none) :: heap, nx + 1, gl⟩) : AOps P ops Q l0 ⟨n, env, heap, nx, gl⟩ := by
  intro base w0 M a hs
  have hM : M.H b = some (.vec E 1 (l.flatMap numC)) := by rw [hs.H]; exact hH
  have hfl : (l.flatMap numC).length = m * 1 := by rw [flat_len EncL.len, hl]
  obtain ⟨v, m', cs, e1, e2, e3, e4, e5, e6⟩ := hs.heap.vec b E 1 _ hM
  have hmm : m' = m := by omega
  subst hmm
  obtain ⟨u, g1, g2⟩ := hs.env i _ hi
  have huv : u = v := by
    cases g2 with
    | vec hb ho hh =>
      have := (hh E 1 _ hM).2 hfl
      rw [e1] at this; cases this; rfl
  subst huv
  rcases e4.2 with ⟨_, h0⟩ | ⟨g, cap, cur, rfl, f1, f2, f3, f4, f5, f6⟩
  · omega
  have hblk : (M.m b).block = some g := by rw [e1]; rfl
  have hcs : cs.length = m' * 1 := e4.1
  obtain ⟨M', m1, m2, m3, m4, m5⟩ := hs.adopt b (g := g) (p := bsP E cap g l) (fp := fun k => k = g) ⟨rfl, fun _ => Iff.rfl, cur, f2, by omega, by omega, fun j y hy => by
      have hj : j < l.length := (List.getElem?_eq_some_iff.1 hy).1
      have hcj : cs[j]? = some cs[j] := List.getElem?_eq_getElem (by omega)
      have hfj : (l.flatMap numC)[j]? = some (.v (.int .i64 y)) := by
        rw [num_map, List.getElem?_map, hy]; rfl
      have hrc := e5 j _ cs[j] hfj hcj
      have hv : cs[j] = .int .i64 y := by generalize cs[j] = q at hrc; cases hrc; rfl
      rw [hv] at hcj
      rw [← f6, List.getElem?_take] at hcj
      split at hcj
      · simpa using hcj
      · cases hcj⟩ rfl (fun k hk => by
      subst hk
      exact ⟨f1, (Array.getElem?_eq_some_iff.1 f2).1, e6 _ rfl⟩) (fun b' k hbb hk => by
      subst hk
      refine ⟨fun hb' hq => hs.heap.sep b' b _ hbb hb' (by rw [hM]; simp) hq hblk, fun p' hp' hf => ?_⟩
      obtain ⟨_, _, _, _, _, r5⟩ := hs.heap.obj b' p' hp'
      exact (r5 b _ (Ne.symm hbb) hf).1 (by rw [hM]; simp) hblk)
  have hs' : Sim base w0 ⟨n, (i, .c (slK g m' cap)) :: env, (nx, some (.obj (bsP E cap g l))) :: (b, none) :: heap, nx + 1, gl⟩ M' a := by
    refine ⟨m4.H, m4.nx, m4.n, fun j y hy => ?_, m4.gl, m4.heap, m4.below, m4.base, m4.defs, m4.old⟩
    rw [look_cons] at hy
    by_cases hj : i = j
    · subst hj
      rw [if_pos rfl] at hy
      simp only [Option.some.injEq] at hy; subst hy
      exact ⟨_, g1, .c (.v _)⟩
    · rw [if_neg hj] at hy
      exact m4.env j y hy
  rw [← m1]
  exact wpList_monoQ (fun e a w => Lift.ext m5) _ _ _ (h g cap base w0 M' a hs')
theorem r_index_k [W : Walk P X] {x y : Operand} {t E bytes g m cap : Nat} {kk : IntKind} {idx : Int} [I : SlT P t E 1 bytes] (k : Nat) (hx : St.ev ⟨n, env, heap, nx, gl⟩ x = some (.c (slK g m cap))) (hy : St.ev ⟨n, env, heap, nx, gl⟩ y = some (.c (.v (.int kk idx)))) (hk : idx = (k : Int)) (hlt : k < m) (hd : Nat.blt d n = true)
    (h : X rest ⟨n, (d, .c (.v (.pointer (some ⟨g, k, none⟩)))) :: env, heap, nx, gl⟩) : X (⟨some d, .indexAddr t x y, ty, pos, af, none⟩ :: rest) ⟨n, env, heap, nx, gl⟩ := by
  refine ao_val (st := ⟨n, env, heap, nx, gl⟩) rfl rfl hd (fun _ _ M a hs => ⟨.pointer (some ⟨g, k, none⟩), ?_, .c (.v _)⟩) h
  subst hk
  simp only [execOp, (hs.ev (by simp [Op.operands, Call.operands]) hx).bool, (hs.ev (by simp [Op.operands, Call.operands]) hy).bool]
  have := run_indexAt I M.w g 0 m cap k kk hlt
  rw [Nat.zero_add, Nat.mul_one] at this
  rw [Sem.run_bind, this]; rfl
theorem r_store_k {x z : Operand} {t E cap g k : Nat} {l : List Int} {v : Int} [I : TyC P t false 1] (hx : St.ev ⟨n, env, heap, nx, gl⟩ x = some (.c (.v (.pointer (some ⟨g, k, none⟩))))) (hz : St.ev ⟨n, env, heap, nx, gl⟩ z = some (.c (.v (.int .i64 v)))) (b : Nat) (hH : St.H ⟨n, env, heap, nx, gl⟩ b = some (.obj (bsP E cap g l))) (hk : k < l.length)
    (h : AOps P ops Q rest ⟨n, env, (b, some (.obj (bsP E cap g (l.set k v)))) :: heap, nx, gl⟩) : AOps P ops Q (⟨none, .store t x z, ty, pos, af, none⟩ :: rest) ⟨n, env, heap, nx, gl⟩ := by
  refine ao_store_gen (st := ⟨n, env, heap, nx, gl⟩) (s2 := ⟨n, env, (b, some (.obj (bsP E cap g (l.set k v)))) :: heap, nx, gl⟩) (fun base w0 M a hs => ?_) h
  have hv := (hs.ev hx).bool
  have hu := (hs.ev hz).bool
  rw [hu, hv]
  have hbM : M.H b = some (.obj (bsP E cap g l)) := by rw [hs.H]; exact hH
  obtain ⟨g', o1, o2, ⟨rfl, o0, arr, o3, o4, o5, o6⟩, o7, _⟩ := hs.heap.obj b _ hbM
  have hrun := run_store_row I M.w g' k E arr (.int .i64 v) o3 rfl (by omega) (by intro u hu; simp [Value.cells] at hu; subst hu; rfl)
  have harr : (arr.toList.take k ++ (Value.int .i64 v).cells.toList ++ arr.toList.drop (k + 1)).toArray = arr.setIfInBounds k (.int .i64 v) := by
    rw [← Array.toList_inj]
    simp only [Array.toList_setIfInBounds]
    rw [List.set_eq_take_append_cons_drop, if_pos (by simpa using (show k < arr.size by omega))]
    simp [Value.cells]
  rw [harr] at hrun
  obtain ⟨M', m1, _, m3, m4⟩ := hs.changeO (p' := bsP E cap g' (l.set k v)) (fp' := M.fp b) (w' := M.w.setRow g' (arr.setIfInBounds k (.int .i64 v))) hbM o1
    ⟨rfl, rfl, rfl, by rw [setRow_size]; exact Nat.le_refl _, fun j _ hj => setRow_heap_ne _ _ _ _ (fun e => hj (by rw [e]; exact o2)), ⟨rfl, o0, _, setRow_heap _ _ _ _ _ _ o3, by rw [List.length_set]; exact o4, by rw [List.length_set]; simpa using o5, fun i y hy => by
      rw [List.getElem?_set] at hy
      rw [Array.getElem?_setIfInBounds]
      by_cases e : k = i
      · subst e
        rw [if_pos rfl, if_pos hk] at hy
        cases hy
        rw [if_pos rfl, if_pos (by omega)]
      · rw [if_neg e] at hy ⊢
        exact o6 i y hy⟩, o2, fun j hj => ⟨by rw [setRow_size]; exact (o7 j hj).2.1, .inl hj⟩⟩
  exact ⟨_, M', hrun, m1, m3, m4⟩
theorem r_load_k [W : Walk P X] {x : Operand} {t E cap g k : Nat} {l : List Int} [I : TyC P t false 1] (hx : St.ev ⟨n, env, heap, nx, gl⟩ x = some (.c (.v (.pointer (some ⟨g, k, none⟩))))) (b : Nat) (hH : St.H ⟨n, env, heap, nx, gl⟩ b = some (.obj (bsP E cap g l))) (hk : k < l.length) (hd : Nat.blt d n = true) (h : X rest ⟨n, (d, .c (.v (.int .i64 l[k]))) :: env, heap, nx, gl⟩) : X (⟨some d, .load t x, ty, pos, af, none⟩ :: rest) ⟨n, env, heap, nx, gl⟩ := by
  refine ao_val (st := ⟨n, env, heap, nx, gl⟩) rfl rfl hd (fun _ _ M a hs => ?_) h
  have hxv := (hs.ev (by simp [Op.operands, Call.operands]) hx).bool
  obtain ⟨g', o1, _, ⟨rfl, _, arr, o3, o4, o5, o6⟩, _⟩ := hs.sim.heap.obj b _ (hs.H _ _ hH)
  refine ⟨.int .i64 l[k], ?_, .c (.v _)⟩
  have hc : M.w.cell? ⟨g', k, none⟩ = some (.int .i64 l[k]) := by
    have := o6 k l[k] (List.getElem?_eq_getElem hk)
    simp [World.cell?, o3, this]
  exact ex_load_s I hxv hc
theorem append_f {s x : Operand} {t E bytes : Nat} [I : SlT P t E 1 bytes] {l2 : List Int} {st : St} (hs0 : st.ev s = some (.c .e0)) (hx : st.ev x = some (.c (.lst 1 (l2.flatMap numC)))) (h0 : 0 < l2.length) (hb1 : l2.length < 1000000000000) (hb2 : l2.length * bytes ≤ 140737488355328) (hd : Nat.blt d st.n = true) :
    FStep P ops ⟨some d, .call ⟨.builtin .append, #[s, x], #[t, t]⟩, ty, pos, af, none⟩ st d (fun γ : Nat × Nat => .obj (bsP E γ.2 γ.1 l2)) (fun γ => .c (slK γ.1 l2.length γ.2)) := by
  refine ⟨rfl, rfl, fun u hsn hsg hev => ?_⟩
  have hx' : u.ev x = some (.c (.lst 1 (l2.flatMap numC))) := (hev x (by simp [Op.operands, Call.operands])).trans hx
  have hs' : u.ev s = some (.c .e0) := (hev s (by simp [Op.operands, Call.operands])).trans hs0
  refine ao_append_e0 hs' (src_lst hx' (by decide) (flat_len EncL.len l2) (flat_one inferInstance l2)) h0 (by unfold maxLen; omega) hb2 (by rw [hsn]; exact hd) ?_
  refine ao_torow (l := l2) d (look_cons_self ..) (H_new_self ..) rfl h0 (fun g cap => ?_)
  refine ao_nil (only_normal ⟨(g, cap), rfl, fun b => ?_, rfl, rfl, fun i => ?_⟩)
  · unfold St.H
    simp only [St.new2, St.put, St.new, look_cons]
    by_cases h1 : u.nx + 1 = b
    · rw [if_pos h1, if_pos h1]
    · rw [if_neg h1, if_neg h1]
      by_cases h2 : u.nx = b
      · rw [if_pos h2, if_pos h2]
      · rw [if_neg h2, if_neg h2, if_neg h2]
  · show look i ((d, _) :: (d, _) :: u.env) = look i ((d, _) :: u.env)
    rw [look_cons, look_cons, look_cons]
    by_cases h1 : d = i
    · rw [if_pos h1, if_pos h1]
    · rw [if_neg h1, if_neg h1, if_neg h1]
theorem ao_freezeRow {l0 : List Oper} (b bo k : Nat) {E cap g m Eo : Nat} {l : List Int} {fl : List Rw} (hb : St.H ⟨n, env, heap, nx, gl⟩ b = some (.obj (bsP E cap g l))) (hl : l.length = m) (hO : St.H ⟨n, env, heap, nx, gl⟩ bo = some (.vec Eo 1 (fl.flatMap rwC))) (hne : Nat.beq b bo = false) (hk : fl[k]? = some (.sl g m cap))
    (h : AOps P ops Q l0 ⟨n, env, (bo, some (.vec Eo 1 ((fl.set k (.row l)).flatMap rwC))) :: (b, none) :: heap, nx, gl⟩) : AOps P ops Q l0 ⟨n, env, heap, nx, gl⟩ := by
  intro base w0 M a hs
  have hbM : M.H b = some (.obj (bsP E cap g l)) := by rw [hs.H]; exact hb
  obtain ⟨g', o1, o2, ⟨rfl, o0, arr, o3, o4, o5, o6⟩, o7, o8⟩ := hs.heap.obj b _ hbM
  -- the block is frozen
  obtain ⟨M1, h1, h2, h3⟩ : ∃ M1 : Wd, (M1.w = M.w ∧ M1.F = fun k => M.F k ∨ k = g') ∧ Sim base w0 ⟨n, env, (b, none) :: heap, nx, gl⟩ M1 a ∧ Ext M M1 := by
    let M' : Wd := { M with H := St.H ⟨n, env, (b, none) :: heap, nx, gl⟩, F := fun k => M.F k ∨ k = g' }
    have hH : ∀ k, M'.H k = if b = k then none else M.H k := fun k => by
      show St.H _ k = _
      unfold St.H
      simp only [look_cons]
      by_cases h : b = k
      · rw [if_pos h, if_pos h]
      · rw [if_neg h, if_neg h, hs.H]; rfl
    have hold : ∀ k x, M'.H k = some x → M.H k = some x ∧ k ≠ b := fun k x hx => by
      rw [hH] at hx
      by_cases h : b = k
      · rw [if_pos h] at hx; cases hx
      · rw [if_neg h] at hx; exact ⟨hx, Ne.symm h⟩
    have hne : ∀ k, M'.H k ≠ none → M.H k ≠ none ∧ k ≠ b := fun k hk => by
      obtain ⟨x, hx⟩ := Option.ne_none_iff_exists'.1 hk
      obtain ⟨e1, e2⟩ := hold k x hx
      exact ⟨by rw [e1]; simp, e2⟩
    have hext : Ext M M' := ⟨fun _ _ h => h, fun k E size' l' _ hl => ⟨l', (hold k _ hl).1, Nat.le_refl _, fun _ => rfl⟩, Nat.le_refl _, fun k hk => ⟨.inl hk, rfl⟩⟩
    have hg := o7 g' o2
    refine ⟨M', ⟨rfl, rfl⟩, ⟨rfl, hs.nx, hs.n, fun i y hy => ?_, fun g xs hg => (hs.gl g xs hg).mono hext, ⟨?_, ?_, ?_, ?_, hs.heap.fresh, ?_, ?_⟩, hs.below, hs.base, hs.defs, ?_⟩, hext⟩
    · obtain ⟨u, h1, h2⟩ := hs.env i y hy
      exact ⟨u, h1, h2.mono hext⟩
    · intro k t l hl
      obtain ⟨h1, hkb⟩ := hold k _ hl
      obtain ⟨g, arr, g1, g2, g3, g4, g5, g6⟩ := hs.heap.cells k t l h1
      refine ⟨g, arr, g1, g2, fun hf => ?_, g4, g5, fun i x u hx hu => (g6 i x u hx hu).mono hext⟩
      rcases hf with hf | rfl
      · exact g3 hf
      · exact (o8 k _ hkb o2).1 (by rw [h1]; simp) (by rw [g1]; rfl)
    · intro k E size l hl
      obtain ⟨h1, hkb⟩ := hold k _ hl
      obtain ⟨v, m, cs, g1, g2, g3, g4, g5, g6⟩ := hs.heap.vec k E size l h1
      refine ⟨v, m, cs, g1, g2, g3, g4, fun i x u hx hu => (g5 i x u hx hu).mono hext.F, fun q hq hf => ?_⟩
      rcases hf with hf | rfl
      · exact g6 q hq hf
      · exact (o8 k _ hkb o2).1 (by rw [h1]; simp) (by rw [g1]; exact hq)
    · intro k k' g hkk hk hk'
      exact hs.heap.sep k k' g hkk (hne k hk).1 (hne k' hk').1
    · exact fun k hk => hs.heap.lt k (hne k hk).1
    · intro k hk
      rcases hk with hk | rfl
      · exact hs.heap.frz k hk
      · exact hg.2.1
    · intro k p hp
      obtain ⟨h1, hkb⟩ := hold k _ hp
      obtain ⟨g, e1, e2, e3, e4, e5⟩ := hs.heap.obj k p h1
      refine ⟨g, e1, e2, p.stable _ _ _ _ e3 (fun _ _ => rfl), fun c hc => ⟨(e4 c hc).1, (e4 c hc).2.1, fun hf => ?_⟩, fun b' c hbb hc => ⟨fun hb' => (e5 b' c hbb hc).1 (hne b' hb').1, fun p' hp' => (e5 b' c hbb hc).2 p' (hold b' _ hp').1⟩⟩
      rcases hf with hf | rfl
      · exact (e4 c hc).2.2 hf
      · exact (o8 k _ hkb o2).2 p h1 hc
    · intro k hk hlt
      rcases hk with hk | rfl
      · exact hs.old k hk hlt
      · have := hg.1; omega
  have hO' : St.H ⟨n, env, (b, none) :: heap, nx, gl⟩ bo = some (.vec Eo 1 (fl.flatMap rwC)) := by
    unfold St.H at hO ⊢
    dsimp only at hO ⊢
    rw [look_cons, if_neg (beq_false hne)]; exact hO
  rw [rw_map] at hO' h
  have hrl : RC M1.F M1.w (.lst 1 (l.flatMap numC)) (.slice (some ⟨g', 0, none⟩) m cap) := by
    by_cases hm0 : l = []
    · subst hm0
      have : m = 0 := hl.symm
      subst this
      exact .nil
    refine .lst (fun i => (arr[i]?).getD undef) (by rw [flat_len EncL.len, hl]) (by omega) (by rw [h1.2]; exact .inr rfl) (fun i x hx => ?_) (fun i x hx => ?_)
    · have hi : i < l.length := by have := (List.getElem?_eq_some_iff.1 hx).1; rw [flat_len EncL.len] at this; omega
      have h6 := o6 i l[i] (List.getElem?_eq_getElem hi)
      rw [h1.1, Nat.zero_add]
      simp [World.cell?, o3, h6]
    · have hi : i < l.length := by have := (List.getElem?_eq_some_iff.1 hx).1; rw [flat_len EncL.len] at this; omega
      have h6 := o6 i l[i] (List.getElem?_eq_getElem hi)
      have hfj : x = .v (.int .i64 l[i]) := by
        rw [num_map, List.getElem?_map, List.getElem?_eq_getElem hi] at hx
        exact (Option.some.inj hx).symm
      rw [h6, hfj]
      exact .v _
  obtain ⟨M2, k1, k2, k3⟩ := h2.relist (l' := (fl.set k (.row l)).map rwV) hO' (by rw [List.length_map, List.length_map, List.length_set]) (fun i x' x u hx' hx hu => by
    rw [List.getElem?_map, List.getElem?_set] at hx'
    rw [List.getElem?_map] at hx
    by_cases e : k = i
    · subst e
      rw [hk] at hx
      have hx : rwV (.sl g' m cap) = x := Option.some.inj hx
      rw [if_pos rfl, if_pos (List.getElem?_eq_some_iff.1 hk).1] at hx'
      have hx' : rwV (.row l) = x' := Option.some.inj hx'
      subst hx'
      subst hx
      have hu : RC M1.F M1.w (slK g' m cap) u := hu
      cases hu
      exact hrl
    · rw [if_neg e] at hx'
      rw [hx] at hx'
      cases hx'; exact hu)
  rw [← h1.1, ← k1]
  exact wpList_monoQ (fun e a w => Lift.ext (h3.trans k3)) _ _ _ (h base w0 M2 a k2)
end
end Go.Proofs.YtjofnmklkndhoaaDoor.Ev
