/- Rules of a walk: regions that draw their order and store into boxes while other operands are still computed. Nothing here names a program. -/
import Derived.Test.YtokkpocccgdilaaEv22
import Derived.Test.YtokkpocccgdilaaEv20
namespace Go.Proofs.Ytokkpocccgdilaa.Ev
set_option linter.unusedVariables false
set_option linter.unusedSimpArgs false
open Go.RowKit
section
variable {P : Program} {ops : Array Oper} {n : Nat}

/-- The same states, but for the order in which memory is listed. -/
structure StEq2 (s t : St) : Prop where
  n : s.n = t.n
  H : ∀ b, s.H b = t.H b
  nx : s.nx = t.nx
  gl : s.gl = t.gl
  env : ∀ i, look i s.env = look i t.env
theorem StEq2.refl (s : St) : StEq2 s s := ⟨rfl, fun _ => rfl, rfl, rfl, fun _ => rfl⟩
theorem StEq2.symm {s t : St} (h : StEq2 s t) : StEq2 t s := ⟨h.n.symm, fun b => (h.H b).symm, h.nx.symm, h.gl.symm, fun i => (h.env i).symm⟩
theorem StEq2.put {s t : St} (h : StEq2 s t) (d : Nat) (y : AV) : StEq2 (s.put d y) (t.put d y) :=
  ⟨h.n, h.H, h.nx, h.gl, fun i => by simp only [St.put, look_cons]; rw [h.env i]⟩
theorem StEq2.set {s t : St} (h : StEq2 s t) (b : Nat) (x : AB) : StEq2 (s.set b x) (t.set b x) :=
  ⟨h.n, fun b' => by rw [H_set, H_set, h.H b'], h.nx, h.gl, h.env⟩
theorem StEq2.ev {s t : St} (h : StEq2 s t) (x : Operand) : s.ev x = t.ev x := by
  cases x with
  | tmp i => exact h.env i
  | const v => rfl
  | global g => simp only [St.ev]; rw [h.gl]
  | func f => rfl
theorem StEq2.sim {s t : St} (h : StEq2 s t) {base : Nat} {w0 : W0} {M : Wd} {a : Act} (hs : Sim base w0 s M a) : Sim base w0 t M a :=
  ⟨hs.H.trans (funext h.H), hs.nx.trans h.nx, hs.n.trans h.n, fun i x hx => hs.env i x (by rw [h.env i]; exact hx), fun g xs hg => hs.gl g xs (by rw [h.gl]; exact hg), hs.heap, hs.below, hs.base, hs.defs, hs.old⟩

def St.hide (bs : List Nat) (st : St) : St := { st with heap := bs.map (fun b => (b, none)) ++ st.heap }
theorem look_hide (bs : List Nat) (heap : List (Nat × Option AB)) (b : Nat) : look b (bs.map (fun b => (b, none)) ++ heap) = if b ∈ bs then some none else look b heap := by
  induction bs with
  | nil => simp
  | cons c bs ih =>
    rw [List.map_cons, List.cons_append, look_cons, ih]
    by_cases h : c = b
    · subst h; simp
    · rw [if_neg h]
      by_cases h2 : b ∈ bs
      · rw [if_pos h2, if_pos (by simp [h2])]
      · rw [if_neg h2, if_neg (by simp [h2, Ne.symm h])]
theorem H_hide (bs : List Nat) (st : St) (b : Nat) : (st.hide bs).H b = if b ∈ bs then none else st.H b := by
  unfold St.H St.hide
  simp only [look_hide]
  by_cases h : b ∈ bs
  · rw [if_pos h, if_pos h]
  · rw [if_neg h, if_neg h]
/-- One store into the box b, wherever these operands and this content are. -/
def SStep (P : Program) (ops : Array Oper) (o : Oper) (st : St) (b : Nat) (x : AB) : Prop :=
  o.guard = none ∧ o.dst = none ∧ ∀ s : St, s.n = st.n → s.gl = st.gl → s.H b = st.H b → (∀ z ∈ o.op.operands, s.ev z = st.ev z) → AOps P ops (only (fun s' => s' = s.set b x)) [o] s
theorem SStep.of {o : Oper} {s t : St} {b : Nat} {x : AB} (h : SStep P ops o s b x) (hn : s.n = t.n) (hg : s.gl = t.gl) (hH : s.H b = t.H b) (hev : ∀ z ∈ o.op.operands, s.ev z = t.ev z) : SStep P ops o t b x :=
  ⟨h.1, h.2.1, fun u e1 e2 e3 e4 => h.2.2 u (e1.trans hn.symm) (e2.trans hg.symm) (e3.trans hH.symm) (fun z hz => (e4 z hz).trans (hev z hz).symm)⟩
inductive DG3 (P : Program) (ops : Array Oper) (bs : List Nat) (o : Oper) (st : St) : St → Prop
  | q {d : Nat} {y : AV} (h : DY P ops o (st.hide bs) d y) : DG3 P ops bs o st (st.put d y)
  | s {b : Nat} {x : AB} (hb : b ∈ bs) (hlt : b < st.nx) (h : SStep P ops o st b x) : DG3 P ops bs o st (st.set b x)
  | a {d : Nat} {x : AB} (h : AOp P o d x) (hd : Nat.blt d st.n = true) : DG3 P ops bs o st ((st.new x).put d (.ptr st.nx 0))
theorem StEq2.new {s t : St} (h : StEq2 s t) (x : AB) : StEq2 (s.new x) (t.new x) :=
  ⟨h.n, fun b' => by rw [H_new, H_new, h.H b', h.nx], by simp only [St.new]; rw [h.nx], h.gl, h.env⟩
theorem Fr.set {st : St} (h : Fr st) {b : Nat} (hb : b < st.nx) (x : AB) : Fr (st.set b x) := fun b' hb' => by
  have : st.nx ≤ b' := hb'
  rw [H_set, if_neg (by omega)]; exact h b' this
variable {bs : List Nat}
theorem StEq2.hide {s t : St} (h : StEq2 s t) (bs : List Nat) : StEq2 (s.hide bs) (t.hide bs) :=
  ⟨h.n, fun b => by rw [H_hide, H_hide, h.H b], h.nx, h.gl, h.env⟩
theorem DY.eq2 {o : Oper} {s t : St} {d : Nat} {y : AV} (h : DY P ops o s d y) (e : StEq2 s t) : DY P ops o t d y :=
  h.of e.n (fun b x hx => by rw [← e.H]; exact hx) e.gl (fun x _ => e.ev x) (fun _ _ q _ _ => e.env q)
theorem DG3.eq {o : Oper} {s t s' : St} (h : DG3 P ops bs o s s') (e : StEq2 s t) : ∃ t', DG3 P ops bs o t t' ∧ StEq2 s' t' := by
  cases h with
  | q h => exact ⟨_, .q (h.eq2 (e.hide bs)), e.put _ _⟩
  | s hb hlt h => exact ⟨_, .s hb (by rw [← e.nx]; exact hlt) (h.of e.n e.gl (e.H _) (fun z _ => e.ev z)), e.set _ _⟩
  | a h hd => exact ⟨_, .a h (by rw [← e.n]; exact hd), by rw [e.nx]; exact (e.new _).put _ _⟩

def DAny3 (P : Program) (ops : Array Oper) (bs : List Nat) (L : Array Bool → St → Prop) : Nat → Array Bool → St → Prop
  | 0, listed, st => L listed st
  | f + 1, listed, st => Region.ready .any ops listed ≠ [] ∧ ∀ i ∈ Region.ready .any ops listed, ∃ o st', ops[i]? = some o ∧ DG3 P ops bs o st st' ∧ DAny3 P ops bs L f (listed.setIfInBounds i true) st'
variable {L : Array Bool → St → Prop}
theorem DAny3.eq (hL : ∀ listed s t, StEq2 s t → L listed s → L listed t) : ∀ (f : Nat) (listed : Array Bool) (s t : St), StEq2 s t → DAny3 P ops bs L f listed s → DAny3 P ops bs L f listed t
  | 0, listed, s, t, e, h => hL listed s t e h
  | f + 1, listed, s, t, e, h => ⟨h.1, fun i hi => by
    obtain ⟨o, s', h2, h3, h4⟩ := h.2 i hi
    obtain ⟨t', h5, h6⟩ := h3.eq e
    exact ⟨o, t', h2, h5, DAny3.eq hL f _ _ _ h6 h4⟩⟩
theorem StEq2.comm (st : St) {d d' : Nat} (h : d ≠ d') (y y' : AV) : StEq2 ((st.put d y).put d' y') ((st.put d' y').put d y) :=
  ⟨rfl, fun _ => rfl, rfl, rfl, fun i => by simp only [St.put, look_cons]; by_cases h1 : d' = i <;> by_cases h2 : d = i <;> simp_all⟩
theorem DAny3_first {i : Nat} {oi : Oper} (hi : ops[i]? = some oi) (hL : ∀ listed s t, StEq2 s t → L listed s → L listed t) (hdone : ∀ listed st, L listed st → Region.ready .any ops listed = []) :
    ∀ (f : Nat) (listed : Array Bool) (st : St) (d : Nat) (y : AV), Fr st →
      (∀ j oj, ops[j]? = some oj → j ≠ i → listed.getD j true = false → (∀ e ∈ oj.after, Region.binds .any e = true → e.on ≠ i) → oi.apart ops oj = true) →
      i ∈ Region.ready .any ops listed → DY P ops oi (st.hide bs) d y → DAny3 P ops bs L f (listed.setIfInBounds i true) (st.put d y) → DAny3 P ops bs L (f + 1) listed st := by
  intro f
  induction f with
  | zero =>
    intro listed st d y fr hfree hr hy H
    refine ⟨fun h0 => (by rw [h0] at hr; cases hr), fun j hj => ?_⟩
    by_cases hji : j = i
    · subst hji; exact ⟨oi, _, hi, .q hy, H⟩
    · have := ready_mono hj hji
      rw [hdone _ _ H] at this; cases this
  | succ f ih =>
    intro listed st d y fr hfree hr hy H
    refine ⟨fun h0 => (by rw [h0] at hr; cases hr), fun j hj => ?_⟩
    by_cases hji : j = i
    · subst hji; exact ⟨oi, _, hi, .q hy, H⟩
    · obtain ⟨oj, sj, h2, h3, h4⟩ := H.2 j (ready_mono hj hji)
      obtain ⟨hjun, oj', hoj, hall⟩ := mem_ready.1 hj
      have hoo : oj' = oj := Option.some.inj (hoj.symm.trans h2)
      subst hoo
      have hnot : ∀ e ∈ oj'.after, Region.binds .any e = true → e.on ≠ i := fun e he hb heq => by
        have h1 := hall e he hb
        have h0 := getD_both (mem_ready.1 hr).1
        rw [heq, h0] at h1
        cases h1
      obtain ⟨a1, a2, a3⟩ := Oper.apart_spec (hfree j oj' hoj hji hjun hnot)
      have hdi : oi.dst = some d := hy.1
      have hfree' : ∀ k ok, ops[k]? = some ok → k ≠ i → (listed.setIfInBounds j true).getD k true = false → (∀ e ∈ ok.after, Region.binds .any e = true → e.on ≠ i) → oi.apart ops ok = true := fun k ok hk hki hun hno => by
        refine hfree k ok hk hki ?_ hno
        by_cases hjk : j = k
        · subst hjk; exact hjun
        · rw [getD_set_ne true hjk] at hun; exact hun
      cases h3 with
      | @q dj yj h3 =>
        have hdj : oj'.dst = some dj := h3.1
        have hne : d ≠ dj := fun e => a2 d hdi (by rw [hdj, e])
        have h3' : DY P ops oj' (st.hide bs) dj yj := DY.unput (s := st.hide bs) (d' := d) (y' := y) h3 (a1 d hdi)
        have hy' : DY P ops oi ((st.put dj yj).hide bs) d y := DY.put (s := st.hide bs) hy yj (a3 dj hdj)
        refine ⟨oj', _, h2, .q h3', ?_⟩
        refine ih (listed.setIfInBounds j true) (st.put dj yj) d y (fr.put _ _) hfree' (ready_mono hr (Ne.symm hji)) hy' ?_
        rw [Array.setIfInBounds_comm _ _ hji]
        exact DAny3.eq hL f _ _ _ (StEq2.comm st hne y yj) h4
      | @a dj x h3 hd3 =>
        have hdj : oj'.dst = some dj := h3.2.1
        have hne : d ≠ dj := fun e => a2 d hdi (by rw [hdj, e])
        have hy1 : DY P ops oi ((st.new x).hide bs) d y := hy.of rfl (fun b' z hz => by
          rw [H_hide] at hz ⊢
          by_cases hm : b' ∈ bs
          · rw [if_pos hm] at hz; cases hz
          · rw [if_neg hm] at hz ⊢
            rw [H_new, if_neg]
            · exact hz
            · intro e; subst e; rw [fr _ (Nat.le_refl _)] at hz; cases hz) rfl (fun z _ => by cases z <;> rfl) (fun _ _ _ _ _ => rfl)
        have hy' : DY P ops oi (((st.new x).put dj (.ptr st.nx 0)).hide bs) d y := DY.put (s := (st.new x).hide bs) hy1 _ (a3 dj hdj)
        refine ⟨oj', _, h2, .a h3 hd3, ?_⟩
        refine ih (listed.setIfInBounds j true) ((st.new x).put dj (.ptr st.nx 0)) d y ((fr.new x).put _ _) hfree' (ready_mono hr (Ne.symm hji)) hy' ?_
        rw [Array.setIfInBounds_comm _ _ hji]
        exact DAny3.eq hL f _ _ _ (StEq2.comm (st.new x) hne y _) h4
      | @s b x hb hlt h3 =>
        obtain ⟨l1, l2⟩ := looks_ne (a1 d hdi)
        refine ⟨oj', _, h2, .s hb hlt (h3.of rfl rfl rfl (fun z hz => ev_put (l1 z hz))), ?_⟩
        refine ih (listed.setIfInBounds j true) (st.set b x) d y (fr.set hlt x) hfree' (ready_mono hr (Ne.symm hji)) (hy.of rfl (fun b' z hz => ?_) rfl (fun z _ => by cases z <;> rfl) (fun _ _ _ _ _ => rfl)) ?_
        · rw [H_hide] at hz ⊢
          by_cases hm : b' ∈ bs
          · rw [if_pos hm] at hz; cases hz
          · rw [if_neg hm] at hz ⊢
            rw [H_set, if_neg (fun e => hm (by rw [← e]; exact hb))]; exact hz
        · rw [Array.setIfInBounds_comm _ _ hji]
          exact h4
theorem DG3.wp {base : Nat} {w0 : W0} {st st' : St} {M : Wd} {a : Act} {i : Nat} {o : Oper} {K : Act → World → Prop} {Q' : Exit → Act → World → Prop} (hi : ops[i]? = some o) (h : DG3 P ops bs o st st') (hs : Sim base w0 st M a)
    (hK : ∀ M' a', Ext M M' → Sim base w0 st' M' a' → K a' M'.w) : wpOp P ops Q' i K a M.w := by
  cases h with
  | q h =>
    refine (h.of (t := st) rfl (fun b z hz => ?_) rfl (fun z _ => by cases z <;> rfl) (fun _ _ _ _ _ => rfl)).wp hi hs hK
    rw [H_hide] at hz
    split at hz
    · cases hz
    · exact hz
  | @a d x h hd =>
    obtain ⟨g, hdst, hrun⟩ := h
    obtain ⟨u, c, arr, t, e1, e2, e3⟩ := hrun st base w0 M a hs
    unfold wpOp
    simp only [hi]
    rw [if_pos (by simp [Region.wanted, g])]
    refine .inl ?_
    unfold Oper.wp
    rw [e1]
    have := hK (M.new st x c (.cells arr t)) (a.put o.dst u) (hs.extNew x c _) (by rw [hdst]; exact e2.put hd e3)
    exact this
  | @s b x hb hlt h =>
    have hl := h.2.2 st rfl rfl rfl (fun _ _ => rfl) base w0 M a hs
    have hw : Region.wanted o (yielded ops a.tmps) = true := by simp [Region.wanted, h.1]
    unfold wpList at hl
    rw [if_pos hw] at hl
    unfold wpOp
    simp only [hi]
    rw [if_pos hw]
    rcases hl with hl | ⟨_, a', w', M', st', _, _, _, hf⟩
    · refine .inl (upon_mono2 (fun a' w' hk => ?_) (fun e a' w' hne hq => ?_) hl)
      · obtain ⟨M', st', e1, e2, e3, e4⟩ := hk
        subst e1
        have e4 : st' = _ := e4
        subst e4
        exact hK M' a' e3 e2
      · obtain ⟨M', st', e1, e2, e3, e4⟩ := hq
        cases e <;> first | exact absurd rfl hne | exact e4.elim
    · exact hf.elim
theorem wpAny_of_DAny3 {base : Nat} {w0 : W0} {M0 : Wd} {Q : Exit → St → Prop} (hL : ∀ listed st M a, L listed st → Sim base w0 st M a → Ext M0 M → wpAny P .any ops (Lift base w0 M0 Q) 0 listed a M.w) :
    ∀ (f : Nat) (listed : Array Bool) (st : St) (M : Wd) (a : Act), Sim base w0 st M a → Ext M0 M → DAny3 P ops bs L f listed st → wpAny P .any ops (Lift base w0 M0 Q) f listed a M.w
  | 0, listed, st, M, a, hs, he, h => hL _ _ _ _ h hs he
  | f + 1, listed, st, M, a, hs, he, h => by
    refine ⟨fun h0 => absurd h0 h.1, fun i hi => ?_⟩
    obtain ⟨o, st', h1, h2, h3⟩ := h.2 i hi
    exact h2.wp h1 hs fun M' a' hext hs' => wpAny_of_DAny3 hL f _ _ M' a' hs' (he.trans hext) h3

def ends (P : Program) (ops : Array Oper) (Q : Exit → St → Prop) : Array Bool → St → Prop := fun listed st => Region.ready .any ops listed = [] ∧ AOps P ops Q [] st
def setAll : List Nat → Array Bool → Array Bool
  | [], listed => listed
  | i :: is, listed => setAll is (listed.setIfInBounds i true)
theorem ends_eq {Q : Exit → St → Prop} : ∀ listed s t, StEq2 s t → ends P ops Q listed s → ends P ops Q listed t := fun _ _ _ e hh => ⟨hh.1, fun base w0 M a hs' => hh.2 base w0 M a (e.symm.sim hs')⟩
theorem DAny3_ord {k : Nat} {Q : Exit → St → Prop} {hp : List (Nat × Option AB)} : ∀ (is : List Nat) (listed : Array Bool) (st : St), st.heap = hp → Fr st → ordB .any ops (fun _ => true) is listed = true →
    DSeq P ops (fun s => DAny3 P ops bs (ends P ops Q) k (setAll is listed) { s with heap := hp }) (pk ops.toList is) (st.hide bs) → DAny3 P ops bs (ends P ops Q) (is.length + k) listed st
  | [], listed, st, hhp, _, _, h => by
    rw [List.length_nil, Nat.zero_add]
    have h : DAny3 P ops bs (ends P ops Q) k listed { st.hide bs with heap := hp } := h
    rw [← hhp] at h
    exact h
  | i :: is, listed, st, hhp, fr, hB, h => by
    unfold ordB at hB
    simp only [Bool.and_eq_true] at hB
    obtain ⟨⟨hr, hf⟩, hB'⟩ := hB
    have hr' : i ∈ Region.ready .any ops listed := by simpa using hr
    obtain ⟨_, o, h0, _⟩ := mem_ready.1 hr'
    rw [pk_cons (by simpa using h0)] at h
    obtain ⟨d, y, hy, hK⟩ := h
    have := DAny3_first h0 ends_eq (fun listed' st' hL => hL.1) (is.length + k) listed st d y fr (Region.free_spec h0 hf) hr' hy
      (DAny3_ord is _ (st.put d y) hhp (fr.put _ _) hB' hK)
    rw [List.length_cons, show is.length + 1 + k = is.length + k + 1 by omega]
    exact this
def drawSB (ops : Array Oper) (is : List Nat) (k : Nat) : Bool := Region.noSelect ops && Nat.beq (is.length + k) ops.size && ordB .any ops (fun _ => true) is (Array.replicate ops.size false)
/-- A region that draws its order: the operations is are quiet and read nothing of the boxes bs; the others make boxes or store into the boxes bs, in whatever order. -/
theorem aw_drawS {id : Nat} {l : List Oper} {Q : Exit → St → Prop} {nn nx : Nat} {env : List (Nat × AV)} {heap : List (Nat × Option AB)} {gl : List (Nat × List CV)} [m : Mixed P] (bs is : List Nat) (k : Nat) (hB : drawSB l.toArray is k = true) (hf : frB heap nx = true)
    (h : DSeq P l.toArray (fun s => DAny3 P l.toArray bs (ends P l.toArray Q) k (setAll is (Array.replicate (is.length + k) false)) { s with heap := heap }) (pk l is) ⟨nn, env, bs.map (fun b => (b, none)) ++ heap, nx, gl⟩) : Awp P (.region id l.toArray true) Q ⟨nn, env, heap, nx, gl⟩ := by
  simp only [drawSB, Bool.and_eq_true] at hB
  obtain ⟨⟨hsel, hlen⟩, hord⟩ := hB
  have hlen := beq_true hlen
  intro base w0 M a hs
  rw [hlen] at h
  have H := DAny3_ord (P := P) (ops := l.toArray) (bs := bs) (k := k) (Q := Q) (hp := heap) is _ ⟨nn, env, heap, nx, gl⟩ rfl (fr_of hf) hord h
  refine wp_region_any m.h ?_
  have := wpAny_of_DAny3 (P := P) (ops := l.toArray) (bs := bs) (base := base) (w0 := w0) (M0 := M) (Q := Q) (fun listed st' M' a' hL hs' he => by
    have h1 := wpList_monoQ (fun e a w => Lift.ext he) _ _ _ (hL.2 base w0 M' a' hs')
    exact ⟨hL.1, h1⟩) (is.length + k) (Array.replicate l.toArray.size false) _ M.drew a hs.drew (Ext.drew M) H
  rw [hlen] at this
  exact this
section
variable {i nn nx k : Nat} {env : List (Nat × AV)} {heap : List (Nat × Option AB)} {gl : List (Nat × List CV)} {listed : Array Bool} {ty : TypeId} {pos : String} {af : Array Edge}
/-- What may be drawn next. -/
def D3 (P : Program) (ops : Array Oper) (bs : List Nat) (L : Array Bool → St → Prop) (k i : Nat) (listed : Array Bool) (st : St) : Prop :=
  ∃ o st', ops[i]? = some o ∧ DG3 P ops bs o st st' ∧ DAny3 P ops bs L k (listed.setIfInBounds i true) st'
theorem ds_nilS {heap' : List (Nat × Option AB)} (h : DAny3 P ops bs L k listed ⟨nn, env, heap, nx, gl⟩) : DSeq P ops (fun s => DAny3 P ops bs L k listed { s with heap := heap }) [] ⟨nn, env, heap', nx, gl⟩ := h
theorem d3_step {st : St} (is : List Nat) (hr : Region.ready .any ops listed = is) (hne : is.isEmpty = false) (h : ∀ i ∈ is, D3 P ops bs L k i listed st) : DAny3 P ops bs L (k + 1) listed st :=
  ⟨fun h0 => (by rw [hr] at h0; subst h0; cases hne), fun i hi => h i (by rw [← hr]; exact hi)⟩
theorem d3_none {st : St} : ∀ i ∈ ([] : List Nat), D3 P ops bs L k i listed st := fun _ h => by cases h
theorem d3_nil {Q : Exit → St → Prop} {st : St} (hr : Region.ready .any ops listed = []) (h : AOps P ops Q [] st) : DAny3 P ops bs (ends P ops Q) 0 listed st := ⟨hr, h⟩
theorem d3_a {d : Nat} {t : TypeId} {zs : List Value} (hi : ops[i]? = some ⟨some d, .alloc t, ty, pos, af, none⟩) (I : ZeroT P t zs) (hd : Nat.blt d nn = true) (h : DAny3 P ops bs L k (listed.setIfInBounds i true) ⟨nn, (d, .ptr nx 0) :: env, (nx, some (.cells t (zs.map fun z => .c (.v z)))) :: heap, nx + 1, gl⟩) : D3 P ops bs L k i listed ⟨nn, env, heap, nx, gl⟩ :=
  ⟨_, _, hi, .a (d := d) (x := .cells t (zs.map fun z => .c (.v z))) (aop_alloc (I := I)) hd, h⟩
theorem d3_pa {x z : Operand} {t n' b off : Nat} {ag : Bool} {t' : TypeId} {l ys : List AV} (hi : ops[i]? = some ⟨none, .store t x z, ty, pos, af, none⟩) (I : TyC P t ag n') (hx : St.ev ⟨nn, env, heap, nx, gl⟩ x = some (.ptr b off)) (hz : St.ev ⟨nn, env, heap, nx, gl⟩ z = some (.agg ys)) (hc : ys.all AV.cellB = true) (h1 : ys.length = n') (hH : St.H ⟨nn, env, heap, nx, gl⟩ b = some (.cells t' l)) (hl : Nat.ble (off + n') l.length = true) (hb : bs.contains b = true) (hlt : Nat.blt b nx = true)
    (h : DAny3 P ops bs L k (listed.setIfInBounds i true) ⟨nn, env, (b, some (.cells t' (splice l ys off))) :: heap, nx, gl⟩) : D3 P ops bs L k i listed ⟨nn, env, heap, nx, gl⟩ :=
  ⟨_, _, hi, .s (b := b) (x := .cells t' (splice l ys off)) (by simpa using hb) (blt_true hlt) ⟨rfl, rfl, fun s e1 e2 e3 e4 => ao_store_pa (l := l) (t' := t') (st := s) ((e4 x (by simp [Op.operands])).trans hx) ((e4 z (by simp [Op.operands])).trans hz) hc h1 (e3.trans hH) hl (ao_nil (only_normal rfl))⟩, h⟩
theorem d3_p {x z : Operand} {t n' b off : Nat} {ag : Bool} {t' : TypeId} {l : List AV} {y : AV} (hi : ops[i]? = some ⟨none, .store t x z, ty, pos, af, none⟩) (I : TyC P t ag n') (hx : St.ev ⟨nn, env, heap, nx, gl⟩ x = some (.ptr b off)) (hz : St.ev ⟨nn, env, heap, nx, gl⟩ z = some y) (hc : y.cellB = true) (h1 : n' = 1) (hH : St.H ⟨nn, env, heap, nx, gl⟩ b = some (.cells t' l)) (hl : Nat.blt off l.length = true) (hb : bs.contains b = true) (hlt : Nat.blt b nx = true)
    (h : DAny3 P ops bs L k (listed.setIfInBounds i true) ⟨nn, env, (b, some (.cells t' (l.set off y))) :: heap, nx, gl⟩) : D3 P ops bs L k i listed ⟨nn, env, heap, nx, gl⟩ :=
  ⟨_, _, hi, .s (b := b) (x := .cells t' (l.set off y)) (by simpa using hb) (blt_true hlt) ⟨rfl, rfl, fun s e1 e2 e3 e4 => ao_store_p (l := l) (t' := t') (st := s) ((e4 x (by simp [Op.operands])).trans hx) ((e4 z (by simp [Op.operands])).trans hz) hc h1 (e3.trans hH) hl (ao_nil (only_normal rfl))⟩, h⟩
end
end
end Go.Proofs.Ytokkpocccgdilaa.Ev
