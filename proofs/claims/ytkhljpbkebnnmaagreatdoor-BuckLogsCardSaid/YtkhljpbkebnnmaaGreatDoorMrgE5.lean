/- Ev23 Ev24 Ev25 Ev26 Ev27 Ev28 Ev29 Ev30: texts laid together. -/
import Derived.Test.YtkhljpbkebnnmaaGreatDoorMrgE4
/- Rules of a walk: regions that draw their order and store into boxes while other operands are still computed. Nothing here names a program. -/
namespace Go.Proofs.YtkhljpbkebnnmaaGreatDoor.Ev
set_option linter.unusedVariables false
set_option linter.unusedSimpArgs false
open Go.RowKit
section
variable {P : Program} {ops : Array Oper} {n : Nat}
structure StEq2 (s t : St) : Prop where
  n : s.n = t.n
  H : ∀ b, s.H b = t.H b
  nx : s.nx = t.nx
  gl : s.gl = t.gl
  env : ∀ i, look i s.env = look i t.env
theorem StEq2.refl (s : St) : StEq2 s s := ⟨rfl, fun _ => rfl, rfl, rfl, fun _ => rfl⟩
theorem StEq2.symm {s t : St} (h : StEq2 s t) : StEq2 t s := ⟨h.n.symm, fun b => (h.H b).symm, h.nx.symm, h.gl.symm, fun i => (h.env i).symm⟩
theorem StEq2.put {s t : St} (h : StEq2 s t) (d : Nat) (y : AV) : StEq2 (s.put d y) (t.put d y) :=
  ⟨h.n, h.H, h.nx, h.gl, fun i => by simp only [St.put, look_cons]; rw [h.env i]⟩
theorem StEq2.set {s t : St} (h : StEq2 s t) (b : Nat) (x : AB) : StEq2 (s.set b x) (t.set b x) :=
  ⟨h.n, fun b' => by rw [H_set, H_set, h.H b'], h.nx, h.gl, h.env⟩
theorem StEq2.ev {s t : St} (h : StEq2 s t) (x : Operand) : s.ev x = t.ev x := by
  cases x with
  | tmp i => exact h.env i
  | const v => rfl
  | global g => simp only [St.ev]; rw [h.gl]
  | func f => rfl
theorem StEq2.sim {s t : St} (h : StEq2 s t) {base : Nat} {w0 : W0} {M : Wd} {a : Act} (hs : Sim base w0 s M a) : Sim base w0 t M a :=
  ⟨hs.H.trans (funext h.H), hs.nx.trans h.nx, hs.n.trans h.n, fun i x hx => hs.env i x (by rw [h.env i]; exact hx), fun g xs hg => hs.gl g xs (by rw [h.gl]; exact hg), hs.heap, hs.below, hs.base, hs.defs, hs.old⟩
def St.hide (bs : List Nat) (st : St) : St := { st with heap := bs.map (fun b => (b, none)) ++ st.heap }
theorem look_hide (bs : List Nat) (heap : List (Nat × Option AB)) (b : Nat) : look b (bs.map (fun b => (b, none)) ++ heap) = if b ∈ bs then some none else look b heap := by
  induction bs with
  | nil => simp
  | cons c bs ih =>
    rw [List.map_cons, List.cons_append, look_cons, ih]
    by_cases h : c = b
    · subst h; simp
    · rw [if_neg h]
      by_cases h2 : b ∈ bs
      · rw [if_pos h2, if_pos (by simp [h2])]
      · rw [if_neg h2, if_neg (by simp [h2, Ne.symm h])]
theorem H_hide (bs : List Nat) (st : St) (b : Nat) : (st.hide bs).H b = if b ∈ bs then none else st.H b := by
  unfold St.H St.hide
  simp only [look_hide]
  by_cases h : b ∈ bs
  · rw [if_pos h, if_pos h]
  · rw [if_neg h, if_neg h]
def SStep (P : Program) (ops : Array Oper) (o : Oper) (st : St) (b : Nat) (x : AB) : Prop :=
  o.guard = none ∧ o.dst = none ∧ ∀ s : St, s.n = st.n → s.gl = st.gl → s.H b = st.H b → (∀ z ∈ o.op.operands, s.ev z = st.ev z) → AOps P ops (only (fun s' => s' = s.set b x)) [o] s
theorem SStep.of {o : Oper} {s t : St} {b : Nat} {x : AB} (h : SStep P ops o s b x) (hn : s.n = t.n) (hg : s.gl = t.gl) (hH : s.H b = t.H b) (hev : ∀ z ∈ o.op.operands, s.ev z = t.ev z) : SStep P ops o t b x :=
  ⟨h.1, h.2.1, fun u e1 e2 e3 e4 => h.2.2 u (e1.trans hn.symm) (e2.trans hg.symm) (e3.trans hH.symm) (fun z hz => (e4 z hz).trans (hev z hz).symm)⟩
inductive DG3 (P : Program) (ops : Array Oper) (bs : List Nat) (o : Oper) (st : St) : St → Prop
  | q {d : Nat} {y : AV} (h : DY P ops o (st.hide bs) d y) : DG3 P ops bs o st (st.put d y)
  | s {b : Nat} {x : AB} (hb : b ∈ bs) (hlt : b < st.nx) (h : SStep P ops o st b x) : DG3 P ops bs o st (st.set b x)
  | a {d : Nat} {x : AB} (h : AOp P o d x) (hd : Nat.blt d st.n = true) : DG3 P ops bs o st ((st.new x).put d (.ptr st.nx 0))
theorem StEq2.new {s t : St} (h : StEq2 s t) (x : AB) : StEq2 (s.new x) (t.new x) :=
  ⟨h.n, fun b' => by rw [H_new, H_new, h.H b', h.nx], by simp only [St.new]; rw [h.nx], h.gl, h.env⟩
theorem Fr.set {st : St} (h : Fr st) {b : Nat} (hb : b < st.nx) (x : AB) : Fr (st.set b x) := fun b' hb' => by
  have : st.nx ≤ b' := hb'
  rw [H_set, if_neg (by omega)]; exact h b' this
variable {bs : List Nat}
theorem StEq2.hide {s t : St} (h : StEq2 s t) (bs : List Nat) : StEq2 (s.hide bs) (t.hide bs) :=
  ⟨h.n, fun b => by rw [H_hide, H_hide, h.H b], h.nx, h.gl, h.env⟩
theorem DY.eq2 {o : Oper} {s t : St} {d : Nat} {y : AV} (h : DY P ops o s d y) (e : StEq2 s t) : DY P ops o t d y :=
  h.of e.n (fun b x hx => by rw [← e.H]; exact hx) e.gl (fun x _ => e.ev x) (fun _ _ q _ _ => e.env q)
theorem DG3.eq {o : Oper} {s t s' : St} (h : DG3 P ops bs o s s') (e : StEq2 s t) : ∃ t', DG3 P ops bs o t t' ∧ StEq2 s' t' := by
  cases h with
  | q h => exact ⟨_, .q (h.eq2 (e.hide bs)), e.put _ _⟩
  | s hb hlt h => exact ⟨_, .s hb (by rw [← e.nx]; exact hlt) (h.of e.n e.gl (e.H _) (fun z _ => e.ev z)), e.set _ _⟩
  | a h hd => exact ⟨_, .a h (by rw [← e.n]; exact hd), by rw [e.nx]; exact (e.new _).put _ _⟩
def DAny3 (P : Program) (ops : Array Oper) (bs : List Nat) (L : Array Bool → St → Prop) : Nat → Array Bool → St → Prop
  | 0, listed, st => L listed st
  | f + 1, listed, st => Region.ready .any ops listed ≠ [] ∧ ∀ i ∈ Region.ready .any ops listed, ∃ o st', ops[i]? = some o ∧ DG3 P ops bs o st st' ∧ DAny3 P ops bs L f (listed.setIfInBounds i true) st'
variable {L : Array Bool → St → Prop}
theorem DAny3.eq (hL : ∀ listed s t, StEq2 s t → L listed s → L listed t) : ∀ (f : Nat) (listed : Array Bool) (s t : St), StEq2 s t → DAny3 P ops bs L f listed s → DAny3 P ops bs L f listed t
  | 0, listed, s, t, e, h => hL listed s t e h
  | f + 1, listed, s, t, e, h => ⟨h.1, fun i hi => by
    obtain ⟨o, s', h2, h3, h4⟩ := h.2 i hi
    obtain ⟨t', h5, h6⟩ := h3.eq e
    exact ⟨o, t', h2, h5, DAny3.eq hL f _ _ _ h6 h4⟩⟩
theorem StEq2.comm (st : St) {d d' : Nat} (h : d ≠ d') (y y' : AV) : StEq2 ((st.put d y).put d' y') ((st.put d' y').put d y) :=
  ⟨rfl, fun _ => rfl, rfl, rfl, fun i => by simp only [St.put, look_cons]; by_cases h1 : d' = i <;> by_cases h2 : d = i <;> simp_all⟩
theorem DAny3_first {i : Nat} {oi : Oper} (hi : ops[i]? = some oi) (hL : ∀ listed s t, StEq2 s t → L listed s → L listed t) (hdone : ∀ listed st, L listed st → Region.ready .any ops listed = []) :
    ∀ (f : Nat) (listed : Array Bool) (st : St) (d : Nat) (y : AV), Fr st →
      (∀ j oj, ops[j]? = some oj → j ≠ i → listed.getD j true = false → (∀ e ∈ oj.after, Region.binds .any e = true → e.on ≠ i) → oi.apart ops oj = true) →
      i ∈ Region.ready .any ops listed → DY P ops oi (st.hide bs) d y → DAny3 P ops bs L f (listed.setIfInBounds i true) (st.put d y) → DAny3 P ops bs L (f + 1) listed st := by
  intro f
  induction f with
  | zero =>
    intro listed st d y fr hfree hr hy H
    refine ⟨fun h0 => (by rw [h0] at hr; cases hr), fun j hj => ?_⟩
    by_cases hji : j = i
    · subst hji; exact ⟨oi, _, hi, .q hy, H⟩
    · have := ready_mono hj hji
      rw [hdone _ _ H] at this; cases this
  | succ f ih =>
    intro listed st d y fr hfree hr hy H
    refine ⟨fun h0 => (by rw [h0] at hr; cases hr), fun j hj => ?_⟩
    by_cases hji : j = i
    · subst hji; exact ⟨oi, _, hi, .q hy, H⟩
    · obtain ⟨oj, sj, h2, h3, h4⟩ := H.2 j (ready_mono hj hji)
      obtain ⟨hjun, oj', hoj, hall⟩ := mem_ready.1 hj
      have hoo : oj' = oj := Option.some.inj (hoj.symm.trans h2)
      subst hoo
      have hnot : ∀ e ∈ oj'.after, Region.binds .any e = true → e.on ≠ i := fun e he hb heq => by
        have h1 := hall e he hb
        have h0 := getD_both (mem_ready.1 hr).1
        rw [heq, h0] at h1
        cases h1
      obtain ⟨a1, a2, a3⟩ := Oper.apart_spec (hfree j oj' hoj hji hjun hnot)
      have hdi : oi.dst = some d := hy.1
      have hfree' : ∀ k ok, ops[k]? = some ok → k ≠ i → (listed.setIfInBounds j true).getD k true = false → (∀ e ∈ ok.after, Region.binds .any e = true → e.on ≠ i) → oi.apart ops ok = true := fun k ok hk hki hun hno => by
        refine hfree k ok hk hki ?_ hno
        by_cases hjk : j = k
        · subst hjk; exact hjun
        · rw [getD_set_ne true hjk] at hun; exact hun
      cases h3 with
      | @q dj yj h3 =>
        have hdj : oj'.dst = some dj := h3.1
        have hne : d ≠ dj := fun e => a2 d hdi (by rw [hdj, e])
        have h3' : DY P ops oj' (st.hide bs) dj yj := DY.unput (s := st.hide bs) (d' := d) (y' := y) h3 (a1 d hdi)
        have hy' : DY P ops oi ((st.put dj yj).hide bs) d y := DY.put (s := st.hide bs) hy yj (a3 dj hdj)
        refine ⟨oj', _, h2, .q h3', ?_⟩
        refine ih (listed.setIfInBounds j true) (st.put dj yj) d y (fr.put _ _) hfree' (ready_mono hr (Ne.symm hji)) hy' ?_
        rw [Array.setIfInBounds_comm _ _ hji]
        exact DAny3.eq hL f _ _ _ (StEq2.comm st hne y yj) h4
      | @a dj x h3 hd3 =>
        have hdj : oj'.dst = some dj := h3.2.1
        have hne : d ≠ dj := fun e => a2 d hdi (by rw [hdj, e])
        have hy1 : DY P ops oi ((st.new x).hide bs) d y := hy.of rfl (fun b' z hz => by
          rw [H_hide] at hz ⊢
          by_cases hm : b' ∈ bs
          · rw [if_pos hm] at hz; cases hz
          · rw [if_neg hm] at hz ⊢
            rw [H_new, if_neg]
            · exact hz
            · intro e; subst e; rw [fr _ (Nat.le_refl _)] at hz; cases hz) rfl (fun z _ => by cases z <;> rfl) (fun _ _ _ _ _ => rfl)
        have hy' : DY P ops oi (((st.new x).put dj (.ptr st.nx 0)).hide bs) d y := DY.put (s := (st.new x).hide bs) hy1 _ (a3 dj hdj)
        refine ⟨oj', _, h2, .a h3 hd3, ?_⟩
        refine ih (listed.setIfInBounds j true) ((st.new x).put dj (.ptr st.nx 0)) d y ((fr.new x).put _ _) hfree' (ready_mono hr (Ne.symm hji)) hy' ?_
        rw [Array.setIfInBounds_comm _ _ hji]
        exact DAny3.eq hL f _ _ _ (StEq2.comm (st.new x) hne y _) h4
      | @s b x hb hlt h3 =>
        obtain ⟨l1, l2⟩ := looks_ne (a1 d hdi)
        refine ⟨oj', _, h2, .s hb hlt (h3.of rfl rfl rfl (fun z hz => ev_put (l1 z hz))), ?_⟩
        refine ih (listed.setIfInBounds j true) (st.set b x) d y (fr.set hlt x) hfree' (ready_mono hr (Ne.symm hji)) (hy.of rfl (fun b' z hz => ?_) rfl (fun z _ => by cases z <;> rfl) (fun _ _ _ _ _ => rfl)) ?_
        · rw [H_hide] at hz ⊢
          by_cases hm : b' ∈ bs
          · rw [if_pos hm] at hz; cases hz
          · rw [if_neg hm] at hz ⊢
            rw [H_set, if_neg (fun e => hm (by rw [← e]; exact hb))]; exact hz
        · rw [Array.setIfInBounds_comm _ _ hji]
          exact h4
theorem DG3.wp {base : Nat} {w0 : W0} {st st' : St} {M : Wd} {a : Act} {i : Nat} {o : Oper} {K : Act → World → Prop} {Q' : Exit → Act → World → Prop} (hi : ops[i]? = some o) (h : DG3 P ops bs o st st') (hs : Sim base w0 st M a)
    (hK : ∀ M' a', Ext M M' → Sim base w0 st' M' a' → K a' M'.w) : wpOp P ops Q' i K a M.w := by
  cases h with
  | q h =>
    refine (h.of (t := st) rfl (fun b z hz => ?_) rfl (fun z _ => by cases z <;> rfl) (fun _ _ _ _ _ => rfl)).wp hi hs hK
    rw [H_hide] at hz
    split at hz
    · cases hz
    · exact hz
  | @a d x h hd =>
    obtain ⟨g, hdst, hrun⟩ := h
    obtain ⟨u, c, arr, t, e1, e2, e3⟩ := hrun st base w0 M a hs
    unfold wpOp
    simp only [hi]
    rw [if_pos (by simp [Region.wanted, g])]
    refine .inl ?_
    unfold Oper.wp
    rw [e1]
    have := hK (M.new st x c (.cells arr t)) (a.put o.dst u) (hs.extNew x c _) (by rw [hdst]; exact e2.put hd e3)
    exact this
  | @s b x hb hlt h =>
    have hl := h.2.2 st rfl rfl rfl (fun _ _ => rfl) base w0 M a hs
    have hw : Region.wanted o (yielded ops a.tmps) = true := by simp [Region.wanted, h.1]
    unfold wpList at hl
    rw [if_pos hw] at hl
    unfold wpOp
    simp only [hi]
    rw [if_pos hw]
    rcases hl with hl | ⟨_, a', w', M', st', _, _, _, hf⟩
    · refine .inl (upon_mono2 (fun a' w' hk => ?_) (fun e a' w' hne hq => ?_) hl)
      · obtain ⟨M', st', e1, e2, e3, e4⟩ := hk
        subst e1
        have e4 : st' = _ := e4
        subst e4
        exact hK M' a' e3 e2
      · obtain ⟨M', st', e1, e2, e3, e4⟩ := hq
        cases e <;> first | exact absurd rfl hne | exact e4.elim
    · exact hf.elim
theorem wpAny_of_DAny3 {base : Nat} {w0 : W0} {M0 : Wd} {Q : Exit → St → Prop} (hL : ∀ listed st M a, L listed st → Sim base w0 st M a → Ext M0 M → wpAny P .any ops (Lift base w0 M0 Q) 0 listed a M.w) :
    ∀ (f : Nat) (listed : Array Bool) (st : St) (M : Wd) (a : Act), Sim base w0 st M a → Ext M0 M → DAny3 P ops bs L f listed st → wpAny P .any ops (Lift base w0 M0 Q) f listed a M.w
  | 0, listed, st, M, a, hs, he, h => hL _ _ _ _ h hs he
  | f + 1, listed, st, M, a, hs, he, h => by
    refine ⟨fun h0 => absurd h0 h.1, fun i hi => ?_⟩
    obtain ⟨o, st', h1, h2, h3⟩ := h.2 i hi
    exact h2.wp h1 hs fun M' a' hext hs' => wpAny_of_DAny3 hL f _ _ M' a' hs' (he.trans hext) h3
def ends (P : Program) (ops : Array Oper) (Q : Exit → St → Prop) : Array Bool → St → Prop := fun listed st => Region.ready .any ops listed = [] ∧ AOps P ops Q [] st
def setAll : List Nat → Array Bool → Array Bool
  | [], listed => listed
  | i :: is, listed => setAll is (listed.setIfInBounds i true)
theorem ends_eq {Q : Exit → St → Prop} : ∀ listed s t, StEq2 s t → ends P ops Q listed s → ends P ops Q listed t := fun _ _ _ e hh => ⟨hh.1, fun base w0 M a hs' => hh.2 base w0 M a (e.symm.sim hs')⟩
theorem DAny3_ord {k : Nat} {Q : Exit → St → Prop} {hp : List (Nat × Option AB)} : ∀ (is : List Nat) (listed : Array Bool) (st : St), st.heap = hp → Fr st → ordB .any ops (fun _ => true) is listed = true →
    DSeq P ops (fun s => DAny3 P ops bs (ends P ops Q) k (setAll is listed) { s with heap := hp }) (pk ops.toList is) (st.hide bs) → DAny3 P ops bs (ends P ops Q) (is.length + k) listed st
  | [], listed, st, hhp, _, _, h => by
    rw [List.length_nil, Nat.zero_add]
    have h : DAny3 P ops bs (ends P ops Q) k listed { st.hide bs with heap := hp } := h
    rw [← hhp] at h
    exact h
  | i :: is, listed, st, hhp, fr, hB, h => by
    unfold ordB at hB
    simp only [Bool.and_eq_true] at hB
    obtain ⟨⟨hr, hf⟩, hB'⟩ := hB
    have hr' : i ∈ Region.ready .any ops listed := by simpa using hr
    obtain ⟨_, o, h0, _⟩ := mem_ready.1 hr'
    rw [pk_cons (by simpa using h0)] at h
    obtain ⟨d, y, hy, hK⟩ := h
    have := DAny3_first h0 ends_eq (fun listed' st' hL => hL.1) (is.length + k) listed st d y fr (Region.free_spec h0 hf) hr' hy
      (DAny3_ord is _ (st.put d y) hhp (fr.put _ _) hB' hK)
    rw [List.length_cons, show is.length + 1 + k = is.length + k + 1 by omega]
    exact this
def drawSB (ops : Array Oper) (is : List Nat) (k : Nat) : Bool := Region.noSelect ops && Nat.beq (is.length + k) ops.size && ordB .any ops (fun _ => true) is (Array.replicate ops.size false)
theorem aw_drawS {id : Nat} {l : List Oper} {Q : Exit → St → Prop} {nn nx : Nat} {env : List (Nat × AV)} {heap : List (Nat × Option AB)} {gl : List (Nat × List CV)} [m : Mixed P] (bs is : List Nat) (k : Nat) (hB : drawSB l.toArray is k = true) (hf : frB heap nx = true)
    (h : DSeq P l.toArray (fun s => DAny3 P l.toArray bs (ends P l.toArray Q) k (setAll is (Array.replicate (is.length + k) false)) { s with heap := heap }) (pk l is) ⟨nn, env, bs.map (fun b => (b, none)) ++ heap, nx, gl⟩) : Awp P (.region id l.toArray true) Q ⟨nn, env, heap, nx, gl⟩ := by
  simp only [drawSB, Bool.and_eq_true] at hB
  obtain ⟨⟨hsel, hlen⟩, hord⟩ := hB
  have hlen := beq_true hlen
  intro base w0 M a hs
  rw [hlen] at h
  have H := DAny3_ord (P := P) (ops := l.toArray) (bs := bs) (k := k) (Q := Q) (hp := heap) is _ ⟨nn, env, heap, nx, gl⟩ rfl (fr_of hf) hord h
  refine wp_region_any m.h ?_
  have := wpAny_of_DAny3 (P := P) (ops := l.toArray) (bs := bs) (base := base) (w0 := w0) (M0 := M) (Q := Q) (fun listed st' M' a' hL hs' he => by
    have h1 := wpList_monoQ (fun e a w => Lift.ext he) _ _ _ (hL.2 base w0 M' a' hs')
    exact ⟨hL.1, h1⟩) (is.length + k) (Array.replicate l.toArray.size false) _ M.drew a hs.drew (Ext.drew M) H
  rw [hlen] at this
  exact this
section
variable {i nn nx k : Nat} {env : List (Nat × AV)} {heap : List (Nat × Option AB)} {gl : List (Nat × List CV)} {listed : Array Bool} {ty : TypeId} {pos : String} {af : Array Edge}
def D3 (P : Program) (ops : Array Oper) (bs : List Nat) (L : Array Bool → St → Prop) (k i : Nat) (listed : Array Bool) (st : St) : Prop :=
  ∃ o st', ops[i]? = some o ∧ DG3 P ops bs o st st' ∧ DAny3 P ops bs L k (listed.setIfInBounds i true) st'
theorem ds_nilS {heap' : List (Nat × Option AB)} (h : DAny3 P ops bs L k listed ⟨nn, env, heap, nx, gl⟩) : DSeq P ops (fun s => DAny3 P ops bs L k listed { s with heap := heap }) [] ⟨nn, env, heap', nx, gl⟩ := h
theorem d3_step {st : St} (is : List Nat) (hr : Region.ready .any ops listed = is) (hne : is.isEmpty = false) (h : ∀ i ∈ is, D3 P ops bs L k i listed st) : DAny3 P ops bs L (k + 1) listed st :=
  ⟨fun h0 => (by rw [hr] at h0; subst h0; cases hne), fun i hi => h i (by rw [← hr]; exact hi)⟩
theorem d3_none {st : St} : ∀ i ∈ ([] : List Nat), D3 P ops bs L k i listed st := fun _ h => by cases h
theorem d3_nil {Q : Exit → St → Prop} {st : St} (hr : Region.ready .any ops listed = []) (h : AOps P ops Q [] st) : DAny3 P ops bs (ends P ops Q) 0 listed st := ⟨hr, h⟩
theorem d3_a {d : Nat} {t : TypeId} {zs : List Value} (hi : ops[i]? = some ⟨some d, .alloc t, ty, pos, af, none⟩) (I : ZeroT P t zs) (hd : Nat.blt d nn = true) (h : DAny3 P ops bs L k (listed.setIfInBounds i true) ⟨nn, (d, .ptr nx 0) :: env, (nx, some (.cells t (zs.map fun z => .c (.v z)))) :: heap, nx + 1, gl⟩) : D3 P ops bs L k i listed ⟨nn, env, heap, nx, gl⟩ :=
  ⟨_, _, hi, .a (d := d) (x := .cells t (zs.map fun z => .c (.v z))) (aop_alloc (I := I)) hd, h⟩
theorem d3_pa {x z : Operand} {t n' b off : Nat} {ag : Bool} {t' : TypeId} {l ys : List AV} (hi : ops[i]? = some ⟨none, .store t x z, ty, pos, af, none⟩) (I : TyC P t ag n') (hx : St.ev ⟨nn, env, heap, nx, gl⟩ x = some (.ptr b off)) (hz : St.ev ⟨nn, env, heap, nx, gl⟩ z = some (.agg ys)) (hc : ys.all AV.cellB = true) (h1 : ys.length = n') (hH : St.H ⟨nn, env, heap, nx, gl⟩ b = some (.cells t' l)) (hl : Nat.ble (off + n') l.length = true) (hb : bs.contains b = true) (hlt : Nat.blt b nx = true)
    (h : DAny3 P ops bs L k (listed.setIfInBounds i true) ⟨nn, env, (b, some (.cells t' (splice l ys off))) :: heap, nx, gl⟩) : D3 P ops bs L k i listed ⟨nn, env, heap, nx, gl⟩ :=
  ⟨_, _, hi, .s (b := b) (x := .cells t' (splice l ys off)) (by simpa using hb) (blt_true hlt) ⟨rfl, rfl, fun s e1 e2 e3 e4 => ao_store_pa (l := l) (t' := t') (st := s) ((e4 x (by simp [Op.operands])).trans hx) ((e4 z (by simp [Op.operands])).trans hz) hc h1 (e3.trans hH) hl (ao_nil (only_normal rfl))⟩, h⟩
theorem d3_p {x z : Operand} {t n' b off : Nat} {ag : Bool} {t' : TypeId} {l : List AV} {y : AV} (hi : ops[i]? = some ⟨none, .store t x z, ty, pos, af, none⟩) (I : TyC P t ag n') (hx : St.ev ⟨nn, env, heap, nx, gl⟩ x = some (.ptr b off)) (hz : St.ev ⟨nn, env, heap, nx, gl⟩ z = some y) (hc : y.cellB = true) (h1 : n' = 1) (hH : St.H ⟨nn, env, heap, nx, gl⟩ b = some (.cells t' l)) (hl : Nat.blt off l.length = true) (hb : bs.contains b = true) (hlt : Nat.blt b nx = true)
    (h : DAny3 P ops bs L k (listed.setIfInBounds i true) ⟨nn, env, (b, some (.cells t' (l.set off y))) :: heap, nx, gl⟩) : D3 P ops bs L k i listed ⟨nn, env, heap, nx, gl⟩ :=
  ⟨_, _, hi, .s (b := b) (x := .cells t' (l.set off y)) (by simpa using hb) (blt_true hlt) ⟨rfl, rfl, fun s e1 e2 e3 e4 => ao_store_p (l := l) (t' := t') (st := s) ((e4 x (by simp [Op.operands])).trans hx) ((e4 z (by simp [Op.operands])).trans hz) hc h1 (e3.trans hH) hl (ao_nil (only_normal rfl))⟩, h⟩
end
end
end Go.Proofs.YtkhljpbkebnnmaaGreatDoor.Ev
/- Rules of a walk: bits, truth values held against each other, function values in calls. Nothing here names a program. -/
namespace Go.Proofs.YtkhljpbkebnnmaaGreatDoor.Ev
set_option linter.unusedVariables false
set_option linter.unusedSimpArgs false
open Go.RowKit
section
variable {P : Program} {ops : Array Oper} {Q : Exit → St → Prop} {X : List Oper → St → Prop} {rest : List Oper} {d : Nat} {ty : TypeId} {pos : String} {af : Array Edge} {n : Nat} {env : List (Nat × AV)} {heap : List (Nat × Option AB)} {nx : Nat} {gl : List (Nat × List CV)}
theorem run_eqb {t : TypeId} (hu : P.underlying t = some .bool) (a b : Bool) (w : World) : (Op.equal t (.bool a) (.bool b)).run P w = .ok (a == b) w := by
  unfold Op.equal
  rw [show Op.maxDepth = 9999 + 1 from rfl]
  unfold Op.equalIn
  rw [Sem.run_bind, run_underlying hu]; rfl
theorem r_neqb [W : Walk P X] {x y : Operand} {t t2 : TypeId} {a b : Bool} (hx : St.ev ⟨n, env, heap, nx, gl⟩ x = some (.c (.v (.bool a)))) (hy : St.ev ⟨n, env, heap, nx, gl⟩ y = some (.c (.v (.bool b)))) (hu : P.underlying t = some .bool) (hd : Nat.blt d n = true) (h : X rest ⟨n, (d, .c (.v (.bool (a != b)))) :: env, heap, nx, gl⟩) : X (⟨some d, .binOp .neq t x y t2, ty, pos, af, none⟩ :: rest) ⟨n, env, heap, nx, gl⟩ := by
  refine ao_val (st := ⟨n, env, heap, nx, gl⟩) rfl rfl hd (fun _ _ M e hs => ⟨.bool (a != b), ?_, .c (.v _)⟩) h
  simp only [execOp, (hs.ev (by simp [Op.operands, Call.operands]) hx).bool, (hs.ev (by simp [Op.operands, Call.operands]) hy).bool]
  rw [Sem.run_bind, Sem.run_bind, show (eqGuard .neq t x y (.bool a) (.bool b)).run P M.w = .ok () M.w from rfl]
  simp only [Result.andThen]
  rw [show (binOp .neq t (.bool a) (.bool b)).run P M.w = .ok (.bool (a != b)) M.w from by
    show ((do pure (.bool (!(← Op.equal t (.bool a) (.bool b))))) : Sem Value).run P M.w = _
    rw [Sem.run_bind, run_eqb hu]; rfl]
  rfl
theorem r_or [W : Walk P X] {x y : Operand} {t t2 : TypeId} {k : IntKind} {a b : Int} (hx : St.ev ⟨n, env, heap, nx, gl⟩ x = some (.c (.v (.int k a)))) (hy : St.ev ⟨n, env, heap, nx, gl⟩ y = some (.c (.v (.int k b)))) (hd : Nat.blt d n = true) (h : X rest ⟨n, (d, .c (.v (.int k (bits .or k a b)))) :: env, heap, nx, gl⟩) : X (⟨some d, .binOp .or t x y t2, ty, pos, af, none⟩ :: rest) ⟨n, env, heap, nx, gl⟩ := by
  refine ao_val (st := ⟨n, env, heap, nx, gl⟩) rfl rfl hd (fun _ _ M e hs => ⟨.int k (bits .or k a b), ?_, .c (.v _)⟩) h
  simp only [execOp, (hs.ev (by simp [Op.operands, Call.operands]) hx).bool, (hs.ev (by simp [Op.operands, Call.operands]) hy).bool]
  simp [go_sem]
theorem r_shr [W : Walk P X] {x y : Operand} {t t2 : TypeId} {k k2 : IntKind} {a b : Int} (hx : St.ev ⟨n, env, heap, nx, gl⟩ x = some (.c (.v (.int k a)))) (hy : St.ev ⟨n, env, heap, nx, gl⟩ y = some (.c (.v (.int k2 b)))) (h0 : 0 ≤ b) (h1 : b < k.bits) (hd : Nat.blt d n = true) (h : X rest ⟨n, (d, .c (.v (.int k (a / 2 ^ b.toNat)))) :: env, heap, nx, gl⟩) : X (⟨some d, .binOp .shr t x y t2, ty, pos, af, none⟩ :: rest) ⟨n, env, heap, nx, gl⟩ := by
  refine ao_val (st := ⟨n, env, heap, nx, gl⟩) rfl rfl hd (fun _ _ M e hs => ⟨.int k (a / 2 ^ b.toNat), ?_, .c (.v _)⟩) h
  simp only [execOp, (hs.ev (by simp [Op.operands, Call.operands]) hx).bool, (hs.ev (by simp [Op.operands, Call.operands]) hy).bool]
  have e1 : min b.toNat k.bits = b.toNat := by omega
  have e2 : a.fdiv (2 ^ b.toNat) = a / 2 ^ b.toNat := Int.fdiv_eq_ediv_of_nonneg _ (Int.le_of_lt (Int.pow_pos (by decide)))
  have e3 : (binOp .shr t (.int k a) (.int k2 b)).run P M.w = .ok (.int k (a / 2 ^ b.toNat)) M.w := by
    show (Op.shift .shr k a k2 b).run P M.w = _
    unfold Op.shift
    rw [if_neg (by omega)]
    dsimp only
    rw [e1, e2]; rfl
  simp only [Sem.run_bind]
  rw [show (eqGuard .shr t x y (.int k a) (.int k2 b)).run P M.w = .ok () M.w from rfl]
  show (Sem.run P (binOp .shr t (.int k a) (.int k2 b)) M.w).andThen _ = _
  rw [e3]; rfl
theorem r_neg_w [W : Walk P X] {x : Operand} {t : TypeId} {k : IntKind} {a : Int} (hx : St.ev ⟨n, env, heap, nx, gl⟩ x = some (.c (.v (.int k a)))) (hd : Nat.blt d n = true) (h : X rest ⟨n, (d, .c (.v (.int k (k.wrap (-a))))) :: env, heap, nx, gl⟩) : X (⟨some d, .unOp .neg t x, ty, pos, af, none⟩ :: rest) ⟨n, env, heap, nx, gl⟩ := by
  refine ao_val (st := ⟨n, env, heap, nx, gl⟩) rfl rfl hd (fun _ _ M e hs => ⟨.int k (k.wrap (-a)), ?_, .c (.v _)⟩) h
  simp only [execOp, (hs.ev (by simp [Op.operands, Call.operands]) hx).bool]
  simp [go_sem, Op.unary]
abbrev fnV (f : FuncId) : CV := .v (.func (.func f) #[] #[])
theorem r_callfv [W : Walk P X] {f : FuncId} {cf : Operand} {args : List Operand} {tys : Array TypeId} {ys : List AV} {zs : List CV} {r : CV} {y : AV} (hcf : St.ev ⟨n, env, heap, nx, gl⟩ cf = some (.c (fnV f))) (hys : evs ⟨n, env, heap, nx, gl⟩ args = some ys) (hz0 : clF.clFL ys = some zs) (hcon : Con P gl f zs r) (hy : ofC r = y) (hd : Nat.blt d n = true)
    (h : X rest ⟨n, (d, y) :: env, heap, nx, gl⟩) : X (⟨some d, .call ⟨.value cf, args.toArray, tys⟩, ty, pos, af, none⟩ :: rest) ⟨n, env, heap, nx, gl⟩ := by
  subst hy
  have hz : cl.clL (fun _ => none) ys zs := clF_clL hz0
  refine W.step rfl rfl hd (fun base w0 M a hs K Q hK => ?_) h
  obtain ⟨e1, e2⟩ := evs_get hys
  obtain ⟨e3, e4⟩ := clL_get hz
  have hfv := (hs.ev (by simp [Op.operands, Call.operands]) hcf).bool
  unfold Oper.wp
  rw [run_callf (vs := #[]) hcon.1 a M.w hfv]
  refine Calls.mono (hcon.2 M.w M.F _ hs.sim.heap.frz (fun g xs hg => ?_) (by simp; omega) (fun i x u hx hu => ?_)) (fun e w'' hR => ?_)
  · have := hs.sim.gl g xs hg
    generalize hq : Value.pointer (some ⟨g, 0, none⟩) = q at this ⊢
    cases this with
    | eptr cs hF hcell hr => exact .eptr cs hF hcell hr
  · have hi : i < args.length := by have := (List.getElem?_eq_some_iff.1 hx).1; omega
    obtain ⟨y, hy⟩ : ∃ y, ys[i]? = some y := ⟨_, List.getElem?_eq_getElem (by omega)⟩
    have hev := hs.ev (by simp [Op.operands, Call.operands]; exact Or.inr (List.getElem_mem hi)) (e2 i args[i] y (by simp [hi]) hy)
    have hu' : a.eval args[i] = u := by simpa [hi] using hu
    rw [hu'] at hev
    exact cl_rc hs.sim.heap (F' := M.F) (fun _ h => h) (fun b E s l h => by cases h) hev (e4 i y x hy hx)
  · obtain ⟨v, rfl, hb, hrc⟩ := hR
    exact hK v (M.after w'') (Ext.after hb hs.sim.heap.frz) (fun s hs' => hs'.after hb) (RA.ofC (M := M.after w'') hrc)
def fnc : AV → AV
  | .fn f [] => .c (fnV f)
  | x => x
theorem RA.fnc {M : Wd} {x : AV} {u : Value} (h : RA M x u) : RA M (fnc x) u := by
  cases h with
  | @fn f xs vs hl hh =>
    cases xs with
    | nil =>
      have : vs = #[] := Array.eq_empty_of_size_eq_zero (by simpa using hl.symm)
      subst this; exact .c (.v _)
    | cons x xs => exact .fn hl hh
  | c h => exact .c h
  | agg hl hh => exact .agg hl hh
  | tup hl hh => exact .tup hl hh
  | ptr h => exact .ptr h
  | vec hb ho hh => exact .vec hb ho hh
  | vptr hb ho hh => exact .vptr hb ho hh
  | eptr cs hF hc hr => exact .eptr cs hF hc hr
theorem r_fnc {l : List Oper} (i : Nat) {xs ys : List AV} (hi : look i env = some (.agg xs)) (hy : xs.map fnc = ys) (h : AOps P ops Q l ⟨n, (i, .agg ys) :: env, heap, nx, gl⟩) : AOps P ops Q l ⟨n, env, heap, nx, gl⟩ := by
  subst hy
  intro base w0 M a hs
  refine h base w0 M a ⟨hs.H, hs.nx, hs.n, fun k y hy => ?_, hs.gl, hs.heap, hs.below, hs.base, hs.defs, hs.old⟩
  rw [look_cons] at hy
  by_cases hk : i = k
  · subst hk
    rw [if_pos rfl] at hy
    simp only [Option.some.injEq] at hy; subst hy
    obtain ⟨v, e1, e2⟩ := hs.env i _ hi
    refine ⟨v, e1, ?_⟩
    cases e2 with
    | @agg _ vs hl hh =>
      refine .agg (by simpa using hl) (fun j x u hx hu => ?_)
      simp only [List.getElem?_map, Option.map_eq_some_iff] at hx
      obtain ⟨z, hz, rfl⟩ := hx
      exact (hh j z u hz hu).fnc
  · rw [if_neg hk] at hy; exact hs.env k y hy
end
end Go.Proofs.YtkhljpbkebnnmaaGreatDoor.Ev
/- Rules of a walk: regions that draw their order, store into lists while addresses are still computed. Nothing here names a program. -/
namespace Go.Proofs.YtkhljpbkebnnmaaGreatDoor.Ev
set_option linter.unusedVariables false
set_option linter.unusedSimpArgs false
open Go.RowKit
section
variable {P : Program} {ops : Array Oper} {n : Nat}
inductive DG4 (P : Program) (ops : Array Oper) (bs : List Nat) (o : Oper) (st : St) : St → Prop
  | q {d : Nat} {y : AV} (h : DY P ops o st d y) : DG4 P ops bs o st (st.put d y)
  | s {b : Nat} {x : AB} (hb : b ∈ bs) (hlt : b < st.nx) (h : SStep P ops o st b x) : DG4 P ops bs o st (st.set b x)
  | a {d : Nat} {x : AB} (h : AOp P o d x) (hd : Nat.blt d st.n = true) : DG4 P ops bs o st ((st.new x).put d (.ptr st.nx 0))
variable {bs : List Nat}
theorem DG4.eq {o : Oper} {s t s' : St} (h : DG4 P ops bs o s s') (e : StEq2 s t) : ∃ t', DG4 P ops bs o t t' ∧ StEq2 s' t' := by
  cases h with
  | q h => exact ⟨_, .q (h.eq2 e), e.put _ _⟩
  | s hb hlt h => exact ⟨_, .s hb (by rw [← e.nx]; exact hlt) (h.of e.n e.gl (e.H _) (fun z _ => e.ev z)), e.set _ _⟩
  | a h hd => exact ⟨_, .a h (by rw [← e.n]; exact hd), by rw [e.nx]; exact (e.new _).put _ _⟩
def DAny4 (P : Program) (ops : Array Oper) (bs : List Nat) (L : Array Bool → St → Prop) : Nat → Array Bool → St → Prop
  | 0, listed, st => L listed st
  | f + 1, listed, st => Region.ready .any ops listed ≠ [] ∧ ∀ i ∈ Region.ready .any ops listed, ∃ o st', ops[i]? = some o ∧ DG4 P ops bs o st st' ∧ DAny4 P ops bs L f (listed.setIfInBounds i true) st'
variable {L : Array Bool → St → Prop}
theorem DAny4.eq (hL : ∀ listed s t, StEq2 s t → L listed s → L listed t) : ∀ (f : Nat) (listed : Array Bool) (s t : St), StEq2 s t → DAny4 P ops bs L f listed s → DAny4 P ops bs L f listed t
  | 0, listed, s, t, e, h => hL listed s t e h
  | f + 1, listed, s, t, e, h => ⟨h.1, fun i hi => by
    obtain ⟨o, s', h2, h3, h4⟩ := h.2 i hi
    obtain ⟨t', h5, h6⟩ := h3.eq e
    exact ⟨o, t', h2, h5, DAny4.eq hL f _ _ _ h6 h4⟩⟩
def upB (ops : Array Oper) : Nat → Nat → Oper → Bool
  | 0, _, _ => false
  | f + 1, i, o => o.after.toList.any fun e => Region.binds .any e && (Nat.beq e.on i || match ops[e.on]? with | some o' => upB ops f i o' | none => false)
def Cl (ops : Array Oper) (listed : Array Bool) : Prop := ∀ (j : Nat) (oj : Oper), ops[j]? = some oj → listed.getD j false = true → ∀ e ∈ oj.after, Region.binds .any e = true → listed.getD e.on false = true
theorem Cl.set {listed : Array Bool} (cl : Cl ops listed) {i : Nat} (hr : i ∈ Region.ready .any ops listed) : Cl ops (listed.setIfInBounds i true) := by
  obtain ⟨h1, o, h2, h3⟩ := mem_ready.1 hr
  have mono : ∀ j, listed.getD j false = true → (listed.setIfInBounds i true).getD j false = true := fun j hj => by
    by_cases he : i = j
    · subst he
      have := getD_both h1
      rw [this] at hj; cases hj
    · rw [getD_set_ne false he]; exact hj
  intro j oj hj hl e he hb
  by_cases hij : i = j
  · subst hij
    have : oj = o := Option.some.inj (hj.symm.trans h2)
    subst this
    exact mono _ (h3 e he hb)
  · rw [getD_set_ne false hij] at hl
    exact mono _ (cl j oj hj hl e he hb)
def Loose (P : Program) (ops : Array Oper) (bs : List Nat) (i : Nat) (o : Oper) (st : St) (d : Nat) (y : AV) : Prop :=
  DY P ops o (st.hide bs) d y ∨ (DY P ops o st d y ∧ ∀ (k : Nat) (ok : Oper), ops[k]? = some ok → ok.dst = none → upB ops 8 i ok = true)
theorem unhide {o : Oper} {st : St} {d : Nat} {y : AV} (h : DY P ops o (st.hide bs) d y) : DY P ops o st d y :=
  h.of rfl (fun b z hz => by
    rw [H_hide] at hz
    split at hz
    · cases hz
    · exact hz) rfl (fun z _ => by cases z <;> rfl) (fun _ _ _ _ _ => rfl)
theorem Loose.dy {i : Nat} {o : Oper} {st : St} {d : Nat} {y : AV} (h : Loose P ops bs i o st d y) : DY P ops o st d y := by
  rcases h with h | h
  · exact unhide h
  · exact h.1
theorem DG4.wp {base : Nat} {w0 : W0} {st st' : St} {M : Wd} {a : Act} {i : Nat} {o : Oper} {K : Act → World → Prop} {Q' : Exit → Act → World → Prop} (hi : ops[i]? = some o) (h : DG4 P ops bs o st st') (hs : Sim base w0 st M a)
    (hK : ∀ M' a', Ext M M' → Sim base w0 st' M' a' → K a' M'.w) : wpOp P ops Q' i K a M.w := by
  cases h with
  | q h => exact h.wp hi hs hK
  | @a d x h hd =>
    obtain ⟨g, hdst, hrun⟩ := h
    obtain ⟨u, c, arr, t, e1, e2, e3⟩ := hrun st base w0 M a hs
    unfold wpOp
    simp only [hi]
    rw [if_pos (by simp [Region.wanted, g])]
    refine .inl ?_
    unfold Oper.wp
    rw [e1]
    have := hK (M.new st x c (.cells arr t)) (a.put o.dst u) (hs.extNew x c _) (by rw [hdst]; exact e2.put hd e3)
    exact this
  | @s b x hb hlt h =>
    have hl := h.2.2 st rfl rfl rfl (fun _ _ => rfl) base w0 M a hs
    have hw : Region.wanted o (yielded ops a.tmps) = true := by simp [Region.wanted, h.1]
    unfold wpList at hl
    rw [if_pos hw] at hl
    unfold wpOp
    simp only [hi]
    rw [if_pos hw]
    rcases hl with hl | ⟨_, a', w', M', st', _, _, _, hf⟩
    · refine .inl (upon_mono2 (fun a' w' hk => ?_) (fun e a' w' hne hq => ?_) hl)
      · obtain ⟨M', st', e1, e2, e3, e4⟩ := hk
        subst e1
        have e4 : st' = _ := e4
        subst e4
        exact hK M' a' e3 e2
      · obtain ⟨M', st', e1, e2, e3, e4⟩ := hq
        cases e <;> first | exact absurd rfl hne | exact e4.elim
    · exact hf.elim
section
variable {i nn nx k : Nat} {env : List (Nat × AV)} {heap : List (Nat × Option AB)} {gl : List (Nat × List CV)} {listed : Array Bool} {ty : TypeId} {pos : String} {af : Array Edge}
end
end
end Go.Proofs.YtkhljpbkebnnmaaGreatDoor.Ev
/- Rules of a walk: regions that draw their order and call what makes memory. Nothing here names a program. -/
namespace Go.Proofs.YtkhljpbkebnnmaaGreatDoor.Ev
set_option linter.unusedVariables false
set_option linter.unusedSimpArgs false
open Go.RowKit
section
variable {P : Program} {ops : Array Oper} {n : Nat}
def NStep (P : Program) (ops : Array Oper) (o : Oper) (st : St) (d : Nat) (x : AB) (mk : Nat → AV) : Prop :=
  o.guard = none ∧ o.dst = some d ∧ ∀ s : St, s.n = st.n → s.gl = st.gl → (∀ z ∈ o.op.operands, s.ev z = st.ev z) → AOps P ops (only (fun s' => StEq2 s' ((s.new x).put d (mk s.nx)))) [o] s
theorem NStep.of {o : Oper} {s t : St} {d : Nat} {x : AB} {mk : Nat → AV} (h : NStep P ops o s d x mk) (hn : s.n = t.n) (hg : s.gl = t.gl) (hev : ∀ z ∈ o.op.operands, s.ev z = t.ev z) : NStep P ops o t d x mk :=
  ⟨h.1, h.2.1, fun u e1 e2 e4 => h.2.2 u (e1.trans hn.symm) (e2.trans hg.symm) (fun z hz => (e4 z hz).trans (hev z hz).symm)⟩
inductive DG5 (P : Program) (ops : Array Oper) (bs : List Nat) (o : Oper) (st : St) : St → Prop
  | q {d : Nat} {y : AV} (h : DY P ops o st d y) : DG5 P ops bs o st (st.put d y)
  | s {b : Nat} {x : AB} (hb : b ∈ bs) (hlt : b < st.nx) (h : SStep P ops o st b x) : DG5 P ops bs o st (st.set b x)
  | a {d : Nat} {x : AB} (h : AOp P o d x) (hd : Nat.blt d st.n = true) : DG5 P ops bs o st ((st.new x).put d (.ptr st.nx 0))
  | n {d : Nat} {x : AB} {mk : Nat → AV} (h : NStep P ops o st d x mk) : DG5 P ops bs o st ((st.new x).put d (mk st.nx))
variable {bs : List Nat}
theorem DG5.eq {o : Oper} {s t s' : St} (h : DG5 P ops bs o s s') (e : StEq2 s t) : ∃ t', DG5 P ops bs o t t' ∧ StEq2 s' t' := by
  cases h with
  | q h => exact ⟨_, .q (h.eq2 e), e.put _ _⟩
  | s hb hlt h => exact ⟨_, .s hb (by rw [← e.nx]; exact hlt) (h.of e.n e.gl (e.H _) (fun z _ => e.ev z)), e.set _ _⟩
  | a h hd => exact ⟨_, .a h (by rw [← e.n]; exact hd), by rw [e.nx]; exact (e.new _).put _ _⟩
  | n h => exact ⟨_, .n (h.of e.n e.gl (fun z _ => e.ev z)), by rw [e.nx]; exact (e.new _).put _ _⟩
def DAny5 (P : Program) (ops : Array Oper) (bs : List Nat) (L : Array Bool → St → Prop) : Nat → Array Bool → St → Prop
  | 0, listed, st => L listed st
  | f + 1, listed, st => Region.ready .any ops listed ≠ [] ∧ ∀ i ∈ Region.ready .any ops listed, ∃ o st', ops[i]? = some o ∧ DG5 P ops bs o st st' ∧ DAny5 P ops bs L f (listed.setIfInBounds i true) st'
variable {L : Array Bool → St → Prop}
theorem DAny5.eq (hL : ∀ listed s t, StEq2 s t → L listed s → L listed t) : ∀ (f : Nat) (listed : Array Bool) (s t : St), StEq2 s t → DAny5 P ops bs L f listed s → DAny5 P ops bs L f listed t
  | 0, listed, s, t, e, h => hL listed s t e h
  | f + 1, listed, s, t, e, h => ⟨h.1, fun i hi => by
    obtain ⟨o, s', h2, h3, h4⟩ := h.2 i hi
    obtain ⟨t', h5, h6⟩ := h3.eq e
    exact ⟨o, t', h2, h5, DAny5.eq hL f _ _ _ h6 h4⟩⟩
theorem DG5.wp {base : Nat} {w0 : W0} {st st' : St} {M : Wd} {a : Act} {i : Nat} {o : Oper} {K : Act → World → Prop} {Q' : Exit → Act → World → Prop} (hi : ops[i]? = some o) (h : DG5 P ops bs o st st') (hs : Sim base w0 st M a)
    (hK : ∀ M' a', Ext M M' → Sim base w0 st' M' a' → K a' M'.w) : wpOp P ops Q' i K a M.w := by
  cases h with
  | q h => exact h.wp hi hs hK
  | @a d x h hd =>
    obtain ⟨g, hdst, hrun⟩ := h
    obtain ⟨u, c, arr, t, e1, e2, e3⟩ := hrun st base w0 M a hs
    unfold wpOp
    simp only [hi]
    rw [if_pos (by simp [Region.wanted, g])]
    refine .inl ?_
    unfold Oper.wp
    rw [e1]
    have := hK (M.new st x c (.cells arr t)) (a.put o.dst u) (hs.extNew x c _) (by rw [hdst]; exact e2.put hd e3)
    exact this
  | @n d x mk h =>
    have hl := h.2.2 st rfl rfl (fun _ _ => rfl) base w0 M a hs
    have hw : Region.wanted o (yielded ops a.tmps) = true := by simp [Region.wanted, h.1]
    unfold wpList at hl
    rw [if_pos hw] at hl
    unfold wpOp
    simp only [hi]
    rw [if_pos hw]
    rcases hl with hl | ⟨_, a', w', M', st', _, _, _, hf⟩
    · refine .inl (upon_mono2 (fun a' w' hk => ?_) (fun e a' w' hne hq => ?_) hl)
      · obtain ⟨M', st', e1, e2, e3, e4⟩ := hk
        subst e1
        have e4 : StEq2 st' _ := e4
        exact hK M' a' e3 (e4.sim e2)
      · obtain ⟨M', st', e1, e2, e3, e4⟩ := hq
        cases e <;> first | exact absurd rfl hne | exact e4.elim
    · exact hf.elim
  | @s b x hb hlt h =>
    have hl := h.2.2 st rfl rfl rfl (fun _ _ => rfl) base w0 M a hs
    have hw : Region.wanted o (yielded ops a.tmps) = true := by simp [Region.wanted, h.1]
    unfold wpList at hl
    rw [if_pos hw] at hl
    unfold wpOp
    simp only [hi]
    rw [if_pos hw]
    rcases hl with hl | ⟨_, a', w', M', st', _, _, _, hf⟩
    · refine .inl (upon_mono2 (fun a' w' hk => ?_) (fun e a' w' hne hq => ?_) hl)
      · obtain ⟨M', st', e1, e2, e3, e4⟩ := hk
        subst e1
        have e4 : st' = _ := e4
        subst e4
        exact hK M' a' e3 e2
      · obtain ⟨M', st', e1, e2, e3, e4⟩ := hq
        cases e <;> first | exact absurd rfl hne | exact e4.elim
    · exact hf.elim
section
variable {i nn nx k : Nat} {env : List (Nat × AV)} {heap : List (Nat × Option AB)} {gl : List (Nat × List CV)} {listed : Array Bool} {ty : TypeId} {pos : String} {af : Array Edge}
end
end
end Go.Proofs.YtkhljpbkebnnmaaGreatDoor.Ev
/- Rules of a walk: strings, arrays as values, closures with a result in a slot. Nothing here names a program. -/
namespace Go.Proofs.YtkhljpbkebnnmaaGreatDoor.Ev
set_option linter.unusedVariables false
set_option linter.unusedSimpArgs false
open Go.RowKit
section
variable {P : Program} {ops : Array Oper} {Q : Exit → St → Prop} {X : List Oper → St → Prop} {rest : List Oper} {d : Nat} {ty : TypeId} {pos : String} {af : Array Edge} {n : Nat} {env : List (Nat × AV)} {heap : List (Nat × Option AB)} {nx : Nat} {gl : List (Nat × List CV)}
class StrTy (P : Program) (t : Nat) : Prop where
  h : P.underlying t = some .string
def bt (s : ByteArray) (k : Nat) : Int := ((s.data.toList.getD k 0).toNat : Int)
theorem str_get (s : ByteArray) (k : Nat) (h : k < s.size) : ∃ b, s[k]? = some b ∧ (b.toNat : Int) = bt s k := by
  refine ⟨s[k], getElem?_pos s k h, ?_⟩
  unfold bt
  have h2 : k < s.data.toList.length := by simpa using h
  rw [List.getD_eq_getElem?_getD, List.getElem?_eq_getElem h2]
  rfl
theorem r_len_s [W : Walk P X] {x : Operand} {t : TypeId} {s : ByteArray} [I : StrTy P t] (hx : St.ev ⟨n, env, heap, nx, gl⟩ x = some (.c (.v (.string s)))) (hd : Nat.blt d n = true) (h : X rest ⟨n, (d, .c (.v (.int .i64 (s.size : Int)))) :: env, heap, nx, gl⟩) : X (⟨some d, .call ⟨.builtin .len, #[x], #[t]⟩, ty, pos, af, none⟩ :: rest) ⟨n, env, heap, nx, gl⟩ := by
  refine ao_val (st := ⟨n, env, heap, nx, gl⟩) rfl rfl hd (fun _ _ M e hs => ⟨.int .i64 (s.size : Int), ?_, .c (.v _)⟩) h
  have hv := (hs.ev (by simp [Op.operands, Call.operands]) hx).bool
  simp only [execOp, resolve, List.map_toArray, List.map_cons, List.map_nil, hv]
  simp [invoke, builtin, Builtin.len_, run_underlying I.h, goInt]
theorem r_index_s [W : Walk P X] {x y : Operand} {t : TypeId} {s : ByteArray} {kk : IntKind} {idx : Int} [I : StrTy P t] (k : Nat) (hx : St.ev ⟨n, env, heap, nx, gl⟩ x = some (.c (.v (.string s)))) (hy : St.ev ⟨n, env, heap, nx, gl⟩ y = some (.c (.v (.int kk idx)))) (hk : idx = (k : Int)) (hlt : k < s.size) (hd : Nat.blt d n = true) (h : X rest ⟨n, (d, .c (.v (.int .u8 (bt s k)))) :: env, heap, nx, gl⟩) : X (⟨some d, .index t x y, ty, pos, af, none⟩ :: rest) ⟨n, env, heap, nx, gl⟩ := by
  obtain ⟨b, h1, h2⟩ := str_get s k hlt
  refine ao_val (st := ⟨n, env, heap, nx, gl⟩) rfl rfl hd (fun _ _ M e hs => ⟨.int .u8 (bt s k), ?_, .c (.v _)⟩) h
  simp only [execOp, (hs.ev (by simp [Op.operands, Call.operands]) hx).bool, (hs.ev (by simp [Op.operands, Call.operands]) hy).bool]
  subst hk
  simp [Instr.index, asIntOf, run_underlying I.h, h1, h2]
theorem r_eqstr [W : Walk P X] {x y : Operand} {t t2 : TypeId} {a b : ByteArray} (hx : St.ev ⟨n, env, heap, nx, gl⟩ x = some (.c (.v (.string a)))) (hy : St.ev ⟨n, env, heap, nx, gl⟩ y = some (.c (.v (.string b)))) (hd : Nat.blt d n = true) (h : X rest ⟨n, (d, .c (.v (.bool (a.toList == b.toList)))) :: env, heap, nx, gl⟩) : X (⟨some d, .binOp .eql t x y t2, ty, pos, af, none⟩ :: rest) ⟨n, env, heap, nx, gl⟩ := by
  refine ao_val (st := ⟨n, env, heap, nx, gl⟩) rfl rfl hd (fun _ _ M e hs => ⟨.bool (a.toList == b.toList), ?_, .c (.v _)⟩) h
  simp only [execOp, (hs.ev (by simp [Op.operands, Call.operands]) hx).bool, (hs.ev (by simp [Op.operands, Call.operands]) hy).bool]
  rfl
theorem r_inF {f : FuncId} {fn : Func} {c : Code} {t nt : Nat} {cf : Operand} {args : List Operand} {tys : Array TypeId} {caps ys : List AV} {env' : List (Nat × AV)} (hf : P.funcs[f]? = some fn) (hb : fn.body = some c) (hr : fn.results = #[.tmp t]) (hcall : callableB P f = true) (hnt : fn.ntmps = nt) (hcf : St.ev ⟨n, env, heap, nx, gl⟩ cf = some (.fn f caps)) (hys : evs ⟨n, env, heap, nx, gl⟩ args = some ys) (hn : Nat.ble (ys ++ caps).length nt = true) (he : argEnvA 0 (ys ++ caps) = env') (hd : Nat.blt d n = true)
    (h : Awp P c (Back t gl (fun y heap nx => AOps P ops Q rest ⟨n, (d, y) :: env, heap, nx, gl⟩)) ⟨nt, env', heap, nx, gl⟩) : AOps P ops Q (⟨some d, .call ⟨.value cf, args.toArray, tys⟩, ty, pos, af, none⟩ :: rest) ⟨n, env, heap, nx, gl⟩ := by
  subst hnt; subst he
  intro base w0 M a hs
  obtain ⟨e1, e2⟩ := evs_get hys
  have hn := Nat.le_of_ble_eq_true hn
  have hfv := hs.ev hcf
  generalize hev : a.eval cf = fv at hfv
  cases hfv with
  | fn hl hh =>
  rename_i vs
  have hsim : Sim base w0 ⟨fn.ntmps, argEnvA 0 (ys ++ caps), heap, nx, gl⟩ M { tmps := ((args.map a.eval).toArray ++ vs) ++ Array.replicate (fn.ntmps - ((args.map a.eval).toArray ++ vs).size) undef, defers := [] } := by
    refine ⟨hs.H, hs.nx, by simp at hn ⊢; omega, fun i y hy => ?_, hs.gl, hs.heap, hs.below, hs.base, rfl, hs.old⟩
    obtain ⟨_, h1⟩ := argEnvA_get (ys ++ caps) 0 i y hy
    rw [Nat.sub_zero] at h1
    rcases Nat.lt_or_ge i ys.length with hi | hi
    · rw [List.getElem?_append_left hi] at h1
      have hi2 : i < args.length := by omega
      exact ⟨a.eval args[i], by simp [Array.getElem?_append, hi2], hs.ev (e2 i args[i] y (by simp [hi2]) h1)⟩
    · rw [List.getElem?_append_right hi] at h1
      have hi2 : i - ys.length < vs.size := by have := (List.getElem?_eq_some_iff.1 h1).1; omega
      refine ⟨vs[i - ys.length], ?_, hh _ y _ h1 (by simp [hi2])⟩
      have e : args.length = ys.length := by omega
      rw [Array.getElem?_append, if_pos (by simp; omega), Array.getElem?_append, if_neg (by simp; omega)]
      simp only [List.size_toArray, List.length_map, e]
      exact Array.getElem?_eq_getElem hi2
  refine wl_enter rfl (run_callf hcall a M.w hev) (R := fun v w'' => wpList P ops (Lift base w0 M Q) rest (a.put (some d) v) w'') (calls_of_wp hf hb ?_) (fun v w'' hR => hR)
  refine Code.wp_mono ?_ (h base w0 M _ hsim)
  intro e a' w' ⟨M', s', h1, h2, h3, h4, h5, y, h6, h7⟩
  subst h1
  obtain ⟨v, g1, g2⟩ := h2.env t y h6
  have hres : (results fn a'.tmps).run P M'.w = .ok v M'.w := by
    unfold results
    rw [hr]
    simp [Array.getD_eq_getD_getElem?, g1]
  have hd' := blt_true hd
  have hcaller : Sim base w0 ⟨n, (d, y) :: env, s'.heap, s'.nx, gl⟩ M' (a.put (some d) v) := by
    refine ⟨h2.H, h2.nx, by show (a.tmps.setIfInBounds d v).size = _; rw [Array.size_setIfInBounds]; exact hs.n, fun i z hz => ?_, fun g xs hg => h2.gl g xs (by rw [h5]; exact hg), h2.heap, h2.below, h2.base, by simpa [Act.put] using hs.defs, h2.old⟩
    rw [look_cons] at hz
    by_cases hi : d = i
    · subst hi
      rw [if_pos rfl] at hz
      simp only [Option.some.injEq] at hz; subst hz
      exact ⟨v, by simp [Act.put, hs.n, hd'], g2⟩
    · rw [if_neg hi] at hz
      obtain ⟨u, q1, q2⟩ := hs.env i z hz
      exact ⟨u, by simp [Act.put, Array.getElem?_setIfInBounds_ne hi, q1], q2.mono h3⟩
  have hgoal : wpList P ops (Lift base w0 M Q) rest (a.put (some d) v) M'.w := wpList_monoQ (fun e a w => Lift.ext h3) _ _ _ (h7 base w0 M' _ hcaller)
  have : bodyPost P fn (fun e w'' => ∃ v, e = .returned v ∧ wpList P ops (Lift base w0 M Q) rest (a.put (some d) v) w'') e a' M'.w := by
    rcases h4 with rfl | rfl
    · exact ⟨h2.defs, v, hres, v, rfl, hgoal⟩
    · exact ⟨h2.defs, v, hres, v, rfl, hgoal⟩
  exact this
end
end Go.Proofs.YtkhljpbkebnnmaaGreatDoor.Ev
/- Rules of a walk: an array as a value. Nothing here names a program. -/
namespace Go.Proofs.YtkhljpbkebnnmaaGreatDoor.Ev
set_option linter.unusedVariables false
set_option linter.unusedSimpArgs false
open Go.RowKit
section
variable {P : Program} {ops : Array Oper} {Q : Exit → St → Prop} {X : List Oper → St → Prop} {rest : List Oper} {d : Nat} {ty : TypeId} {pos : String} {af : Array Edge} {n : Nat} {env : List (Nat × AV)} {heap : List (Nat × Option AB)} {nx : Nat} {gl : List (Nat × List CV)}
def arrTB (P : Program) (t len : Nat) : Bool :=
  match P.underlying t with
  | some (.array l e) => match tyB P e with
    | some (false, s) => l == len && s == 1
    | _ => false
  | _ => false
class ArrT (P : Program) (t : Nat) (len : outParam Nat) : Prop where
  h : arrTB P t len = true
theorem r_index_arr [W : Walk P X] {x y : Operand} {t : TypeId} {len : Nat} {kk : IntKind} {idx : Int} {xs : List AV} {z : AV} [I : ArrT P t len] (k : Nat) (hx : St.ev ⟨n, env, heap, nx, gl⟩ x = some (.agg xs)) (hy : St.ev ⟨n, env, heap, nx, gl⟩ y = some (.c (.v (.int kk idx)))) (hk : idx = (k : Int)) (hlt : k < len) (hz : xs[k]? = some z) (hd : Nat.blt d n = true) (h : X rest ⟨n, (d, z) :: env, heap, nx, gl⟩) : X (⟨some d, .index t x y, ty, pos, af, none⟩ :: rest) ⟨n, env, heap, nx, gl⟩ := by
  refine ao_val (st := ⟨n, env, heap, nx, gl⟩) rfl rfl hd (fun _ _ M a hs => ?_) h
  have hv := hs.ev (by simp [Op.operands, Call.operands]) hx
  have hw := (hs.ev (by simp [Op.operands, Call.operands]) hy).bool
  have hI := I.h
  unfold arrTB at hI
  split at hI
  · rename_i l e hu
    split at hI
    · rename_i s ht
      simp only [Bool.and_eq_true, beq_iff_eq] at hI
      obtain ⟨rfl, rfl⟩ := hI
      obtain ⟨dd, ii, g1, g2, g3, g4⟩ := TyC.out (P := P) (t := e) ⟨ht⟩
      generalize he : a.eval x = u at hv
      cases hv with
      | agg hl hh =>
        rename_i vs
        have hl2 : k < vs.size := by rw [← hl]; exact (List.getElem?_eq_some_iff.1 hz).1
        refine ⟨vs[k], ?_, hh _ z _ hz (by simp [hl2])⟩
        have hagg : (isAgg e).run P M.w = .ok false M.w := by
          unfold isAgg
          rw [Sem.run_bind, run_underlying g1 M.w]
          cases dd <;> simp_all
        simp only [execOp, he, hw]
        subst hk
        have hsz : (sizeOf e).run P M.w = .ok 1 M.w := by
          rw [← g4]
          simp [sizeOf, typeInfo, g3]
        simp [Instr.index, asIntOf, run_underlying hu, part, hagg, hsz, hlt, hl2]
    · cases hI
  · cases hI
end
end Go.Proofs.YtkhljpbkebnnmaaGreatDoor.Ev
/- Rules of a walk: the making of an array value. Nothing here names a program. -/
namespace Go.Proofs.YtkhljpbkebnnmaaGreatDoor.Ev
set_option linter.unusedVariables false
set_option linter.unusedSimpArgs false
open Go.RowKit
section
variable {P : Program} {ops : Array Oper} {Q : Exit → St → Prop} {X : List Oper → St → Prop} {rest : List Oper} {d : Nat} {ty : TypeId} {pos : String} {af : Array Edge} {n : Nat} {env : List (Nat × AV)} {heap : List (Nat × Option AB)} {nx : Nat} {gl : List (Nat × List CV)}
def arrbB (P : Program) (t : Nat) : Option (List (Nat × Nat) × List Value) :=
  match P.info? t, P.underlying t with
  | some it, some (.array len e) => match it.zero, P.info? e with
    | some z, some ie => some ((List.range len).map (fun i => (i * ie.size, ie.size)), z.cells.toList)
    | _, _ => none
  | _, _ => none
class ArrB (P : Program) (t : Nat) (pl : outParam (List (Nat × Nat))) (zs : outParam (List Value)) : Prop where
  h : arrbB P t = some (pl, zs)
theorem fill_mono {f g : Nat → Option (Nat × Nat)} (hfg : ∀ i x, f i = some x → g i = some x) : ∀ (parts : List (Nat × Value)) (cells res : Array Value), Instr.fill f cells parts = some res → Instr.fill g cells parts = some res
  | [], _, _, h => h
  | (i, v) :: rest, cells, res, h => by
    unfold Instr.fill at h ⊢
    cases hf : f i with
    | none => rw [hf] at h; cases h
    | some p =>
      rw [hf] at h
      rw [hfg i p hf]
      dsimp only at h ⊢
      split
      · rename_i hc; rw [if_pos hc] at h; cases h
      · rename_i hc; rw [if_neg hc] at h; exact fill_mono hfg rest _ res h
theorem r_build_arr [W : Walk P X] {t : TypeId} {parts : List (Nat × Operand)} {pl : List (Nat × Nat)} {zs : List Value} {ps : List (Nat × AV)} {out : List AV} [I : ArrB P t pl zs] (hp : evp ⟨n, env, heap, nx, gl⟩ parts = some ps) (hf : fillA pl (zs.map fun z => .c (.v z)) ps = some out) (hd : Nat.blt d n = true) (h : X rest ⟨n, (d, (.agg out)) :: env, heap, nx, gl⟩) : X (⟨some d, .build t parts.toArray, ty, pos, af, none⟩ :: rest) ⟨n, env, heap, nx, gl⟩ := by
  refine ao_val (st := ⟨n, env, heap, nx, gl⟩) rfl rfl hd (fun _ _ M a hs => ?_) h
  have hI := I.h
  unfold arrbB at hI
  split at hI
  · rename_i it len e hi hu
    split at hI
    · rename_i z ie hz he
      simp only [Option.some.injEq, Prod.mk.injEq] at hI
      obtain ⟨rfl, rfl⟩ := hI
      obtain ⟨e1, e2⟩ := evp_get hp
      obtain ⟨res, f1, f2, f3⟩ := fill_sound (M := M) _ ps _ z.cells (parts.map fun q => (q.1, a.eval q.2)) out hf (by simp) (fun i x u hx hu' => by
        simp only [List.getElem?_map, Array.getElem?_toList, hu', Option.map_some, Option.some.injEq] at hx
        subst hx; exact .c (.v _)) (by simp [e1]) (fun i p q hp' hq' => by
          obtain ⟨q0, h1, rfl⟩ : ∃ q0, parts[i]? = some q0 ∧ (q0.1, a.eval q0.2) = q := by simpa using hq'
          obtain ⟨h2, h3⟩ := e2 i p q0 hp' h1
          exact ⟨h2, hs.ev (by simp only [Op.operands]; simp; exact ⟨q0.1, List.mem_of_getElem? h1⟩) h3⟩)
      refine ⟨.agg res, ?_, .agg f2 f3⟩
      have f4 := fill_mono (g := fun i => some (i * ie.size, ie.size)) (fun i x hx => by
        rw [List.getElem?_toArray, List.getElem?_map] at hx
        obtain ⟨k, hk, rfl⟩ := Option.map_eq_some_iff.1 hx
        obtain ⟨hk1, hk2⟩ := List.getElem?_eq_some_iff.1 hk
        rw [List.getElem_range] at hk2; subst hk2; rfl) _ _ _ f1
      simp only [execOp]
      rw [Sem.run_bind, run_build M.w t _ res (by simp only [Program.built, hi, hu, hz, he, List.map_toArray]; exact f4)]; rfl
    · cases hI
  · cases hI
end
end Go.Proofs.YtkhljpbkebnnmaaGreatDoor.Ev
/- Rules of a walk: make as a quiet step, its list taken as a closed one. Nothing here names a program. -/
namespace Go.Proofs.YtkhljpbkebnnmaaGreatDoor.Ev
set_option linter.unusedVariables false
set_option linter.unusedSimpArgs false
open Go.RowKit
section
variable {P : Program} {X : List Oper → St → Prop} {rest : List Oper} {d : Nat} {ty : TypeId} {pos : String} {af : Array Edge} {n : Nat} {env : List (Nat × AV)} {heap : List (Nat × Option AB)} {nx : Nat} {gl : List (Nat × List CV)}
theorem r_makeq [W : Walk P X] {α : Type} {enc : α → List CV} {t E size bytes : Nat} {zs : List Value} [I : SlT P t E size bytes] [Z : ZeroT P E zs] {x y : Operand} {k1 k2 : IntKind} {i1 i2 : Int} (z0 : α) (k : Nat) (J : EncL enc size) (hz : enc z0 = zs.map .v) (hx : St.ev ⟨n, env, heap, nx, gl⟩ x = some (.c (.v (.int k1 i1)))) (hy : St.ev ⟨n, env, heap, nx, gl⟩ y = some (.c (.v (.int k2 i2)))) (h1 : i1 = (k : Int)) (h2 : i2 = (k : Int)) (hb1 : k < 1000000000000) (hb2 : bytes * k ≤ 281474976710656) (hd : Nat.blt d n = true)
    (h : X rest ⟨n, (d, .c (.lst size ((List.replicate k z0).flatMap enc))) :: env, heap, nx, gl⟩) : X (⟨some d, .makeSlice t x y, ty, pos, af, none⟩ :: rest) ⟨n, env, heap, nx, gl⟩ := by
  refine W.step (st := ⟨n, env, heap, nx, gl⟩) rfl rfl hd (fun base w0 M a hs K Q hK => ?_) h
  obtain ⟨i, z, f1, f2, f3, f4, f5, f6⟩ := I.out
  obtain ⟨i', z', g1, g2, g3⟩ := Z.out
  rw [f2] at g1; cases g1
  rw [f3] at g2; cases g2
  subst h1; subst h2
  have hlen := flat_len J.len (List.replicate k z0)
  rw [List.length_replicate] at hlen
  have hrun := run_make (P := P) M.w t E i z f1 f2 f3 k1 k2 (k : Int) (k : Int) (by omega) (by omega) (by rw [f5, ← Int.natCast_mul]; omega) (by omega)
  simp only [Int.toNat_natCast, f4] at hrun
  have hget : ∀ (j : Nat) (q : CV), ((List.replicate k z0).flatMap enc)[j]? = some q → ∃ u, (madeCells z.cells (k * size))[j]? = some u ∧ q = .v u := fun j q hq => by
    have hj : j < k * size := by rw [← hlen]; exact (List.getElem?_eq_some_iff.1 hq).1
    have hpos := I.pos
    have hq1 : j / size < k := (Nat.div_lt_iff_lt_mul hpos).2 hj
    have hr : j % size < size := Nat.mod_lt _ hpos
    have e : j / size * size + j % size = j := by rw [Nat.mul_comm]; exact Nat.div_add_mod j size
    have hdrop := drop_atj J (List.replicate k z0) (j / size) (j % size) (by rw [List.length_replicate]; exact hq1) (Nat.le_of_lt hr)
    rw [e] at hdrop
    have h0 : ((List.replicate k z0).flatMap enc)[j]? = (enc z0)[j % size]? := by
      have : (((List.replicate k z0).flatMap enc).drop j)[0]? = (enc z0)[j % size]? := by
        rw [hdrop, List.getElem?_append_left (by rw [List.length_drop, J.len]; omega), List.getElem?_drop, List.getElem_replicate, Nat.add_zero]
      rwa [List.getElem?_drop] at this
    rw [h0, hz, List.getElem?_map, ← g3, Array.getElem?_toList] at hq
    have hzs : j % size < z.cells.size := by rw [f6]; exact hr
    simp only [Array.getElem?_eq_getElem hzs, Option.map_some, Option.some.injEq] at hq
    subst hq
    refine ⟨_, ?_, rfl⟩
    simp [madeCells, hj, f6, hr]
  have hrun2 : (execOp a.eval ⟨some d, .makeSlice t x y, ty, pos, af, none⟩).run P M.w = .ok (.value (.slice (some ⟨M.w.heap.size, 0, none⟩) k k)) (M.w.alloc (.cells (madeCells z.cells (k * size)) E)) := by
    simp only [execOp, (hs.ev (by simp [Op.operands]) hx).bool, (hs.ev (by simp [Op.operands]) hy).bool]
    rw [Sem.run_bind, hrun]; rfl
  have hb : Below M.w.heap.size M.w (M.w.alloc (.cells (madeCells z.cells (k * size)) E)) := (Below.refl _ _).alloc (Nat.le_refl _) _
  unfold Oper.wp
  rw [hrun2]
  have hext := Ext.after hb hs.sim.heap.frz
  refine hK _ (M.after _) hext (fun s hs' => hs'.after hb) (.c (.lst (fun j => (madeCells z.cells (k * size)).getD j undef) hlen (Nat.le_refl _) (.inr ⟨Nat.le_refl _, by simp [World.alloc]⟩) (fun j q hj => ?_) (fun j q hj => ?_)))
  · obtain ⟨u, hu, rfl⟩ := hget j q hj
    show (M.w.alloc _).cell? _ = _
    rw [cell_new, Nat.zero_add, hu, Array.getD_eq_getD_getElem?, hu]; rfl
  · obtain ⟨u, hu, rfl⟩ := hget j q hj
    have e : (madeCells z.cells (k * size)).getD j undef = u := by rw [Array.getD_eq_getD_getElem?, hu]; rfl
    show RC _ _ (.v u) ((madeCells z.cells (k * size)).getD j undef)
    rw [e]; exact .v _
end
end Go.Proofs.YtkhljpbkebnnmaaGreatDoor.Ev
