/- Ev23 Ev24 Ev25 Ev26 Ev27 Ev28 Ev29 Ev30 Ev31 Ev32 Ev33 Ev34: texts laid together. -/
import Derived.Test.YthkjkhffljlidaaMrgE2
import Derived.Laws.Concat
import Derived.Laws.Strings2
import Derived.Laws.Strings3
import Derived.Laws.IdiomStrings
import Derived.Laws.Build
import Derived.Laws.Slices
/- Rules of a walk: regions that draw their order and store into boxes while other operands are still computed. Nothing here names a program. -/
namespace Go.Proofs.Ythkjkhffljlidaa.Ev
set_option linter.unusedVariables false
set_option linter.unusedSimpArgs false
open Go.RowKit
section
variable {P : Program} {ops : Array Oper} {n : Nat}
structure StEq2 (s t : St) : Prop where
  n : s.n = t.n
  H : ∀ b, s.H b = t.H b
  nx : s.nx = t.nx
  gl : s.gl = t.gl
  env : ∀ i, look i s.env = look i t.env
theorem StEq2.refl (s : St) : StEq2 s s := ⟨rfl, fun _ => rfl, rfl, rfl, fun _ => rfl⟩
theorem StEq2.symm {s t : St} (h : StEq2 s t) : StEq2 t s := ⟨h.n.symm, fun b => (h.H b).symm, h.nx.symm, h.gl.symm, fun i => (h.env i).symm⟩
theorem StEq2.put {s t : St} (h : StEq2 s t) (d : Nat) (y : AV) : StEq2 (s.put d y) (t.put d y) :=
  ⟨h.n, h.H, h.nx, h.gl, fun i => by simp only [St.put, look_cons]; rw [h.env i]⟩
theorem StEq2.set {s t : St} (h : StEq2 s t) (b : Nat) (x : AB) : StEq2 (s.set b x) (t.set b x) :=
  ⟨h.n, fun b' => by rw [H_set, H_set, h.H b'], h.nx, h.gl, h.env⟩
theorem StEq2.ev {s t : St} (h : StEq2 s t) (x : Operand) : s.ev x = t.ev x := by
  cases x with
  | tmp i => exact h.env i
  | const v => rfl
  | global g => simp only [St.ev]; rw [h.gl]
  | func f => rfl
theorem StEq2.sim {s t : St} (h : StEq2 s t) {base : Nat} {w0 : W0} {M : Wd} {a : Act} (hs : Sim base w0 s M a) : Sim base w0 t M a :=
  ⟨hs.H.trans (funext h.H), hs.nx.trans h.nx, hs.n.trans h.n, fun i x hx => hs.env i x (by rw [h.env i]; exact hx), fun g xs hg => hs.gl g xs (by rw [h.gl]; exact hg), hs.heap, hs.below, hs.base, hs.defs, hs.old⟩
def St.hide (bs : List Nat) (st : St) : St := { st with heap := bs.map (fun b => (b, none)) ++ st.heap }
theorem look_hide (bs : List Nat) (heap : List (Nat × Option AB)) (b : Nat) : look b (bs.map (fun b => (b, none)) ++ heap) = if b ∈ bs then some none else look b heap := by
  induction bs with
  | nil => simp
  | cons c bs ih =>
    rw [List.map_cons, List.cons_append, look_cons, ih]
    by_cases h : c = b
    · subst h; simp
    · rw [if_neg h]
      by_cases h2 : b ∈ bs
      · rw [if_pos h2, if_pos (by simp [h2])]
      · rw [if_neg h2, if_neg (by simp [h2, Ne.symm h])]
theorem H_hide (bs : List Nat) (st : St) (b : Nat) : (st.hide bs).H b = if b ∈ bs then none else st.H b := by
  unfold St.H St.hide
  simp only [look_hide]
  by_cases h : b ∈ bs
  · rw [if_pos h, if_pos h]
  · rw [if_neg h, if_neg h]
def SStep (P : Program) (ops : Array Oper) (o : Oper) (st : St) (b : Nat) (x : AB) : Prop :=
  o.guard = none ∧ o.dst = none ∧ ∀ s : St, s.n = st.n → s.gl = st.gl → s.H b = st.H b → (∀ z ∈ o.op.operands, s.ev z = st.ev z) → AOps P ops (only (fun s' => s' = s.set b x)) [o] s
theorem SStep.of {o : Oper} {s t : St} {b : Nat} {x : AB} (h : SStep P ops o s b x) (hn : s.n = t.n) (hg : s.gl = t.gl) (hH : s.H b = t.H b) (hev : ∀ z ∈ o.op.operands, s.ev z = t.ev z) : SStep P ops o t b x :=
  ⟨h.1, h.2.1, fun u e1 e2 e3 e4 => h.2.2 u (e1.trans hn.symm) (e2.trans hg.symm) (e3.trans hH.symm) (fun z hz => (e4 z hz).trans (hev z hz).symm)⟩
inductive DG3 (P : Program) (ops : Array Oper) (bs : List Nat) (o : Oper) (st : St) : St → Prop
  | q {d : Nat} {y : AV} (h : DY P ops o (st.hide bs) d y) : DG3 P ops bs o st (st.put d y)
  | s {b : Nat} {x : AB} (hb : b ∈ bs) (hlt : b < st.nx) (h : SStep P ops o st b x) : DG3 P ops bs o st (st.set b x)
  | a {d : Nat} {x : AB} (h : AOp P o d x) (hd : Nat.blt d st.n = true) : DG3 P ops bs o st ((st.new x).put d (.ptr st.nx 0))
theorem StEq2.new {s t : St} (h : StEq2 s t) (x : AB) : StEq2 (s.new x) (t.new x) :=
  ⟨h.n, fun b' => by rw [H_new, H_new, h.H b', h.nx], by simp only [St.new]; rw [h.nx], h.gl, h.env⟩
theorem Fr.set {st : St} (h : Fr st) {b : Nat} (hb : b < st.nx) (x : AB) : Fr (st.set b x) := fun b' hb' => by
  have : st.nx ≤ b' := hb'
  rw [H_set, if_neg (by omega)]; exact h b' this
variable {bs : List Nat}
theorem StEq2.hide {s t : St} (h : StEq2 s t) (bs : List Nat) : StEq2 (s.hide bs) (t.hide bs) :=
  ⟨h.n, fun b => by rw [H_hide, H_hide, h.H b], h.nx, h.gl, h.env⟩
theorem DY.eq2 {o : Oper} {s t : St} {d : Nat} {y : AV} (h : DY P ops o s d y) (e : StEq2 s t) : DY P ops o t d y :=
  h.of e.n (fun b x hx => by rw [← e.H]; exact hx) e.gl (fun x _ => e.ev x) (fun _ _ q _ _ => e.env q)
theorem DG3.eq {o : Oper} {s t s' : St} (h : DG3 P ops bs o s s') (e : StEq2 s t) : ∃ t', DG3 P ops bs o t t' ∧ StEq2 s' t' := by
  cases h with
  | q h => exact ⟨_, .q (h.eq2 (e.hide bs)), e.put _ _⟩
  | s hb hlt h => exact ⟨_, .s hb (by rw [← e.nx]; exact hlt) (h.of e.n e.gl (e.H _) (fun z _ => e.ev z)), e.set _ _⟩
  | a h hd => exact ⟨_, .a h (by rw [← e.n]; exact hd), by rw [e.nx]; exact (e.new _).put _ _⟩
def DAny3 (P : Program) (ops : Array Oper) (bs : List Nat) (L : Array Bool → St → Prop) : Nat → Array Bool → St → Prop
  | 0, listed, st => L listed st
  | f + 1, listed, st => Region.ready .any ops listed ≠ [] ∧ ∀ i ∈ Region.ready .any ops listed, ∃ o st', ops[i]? = some o ∧ DG3 P ops bs o st st' ∧ DAny3 P ops bs L f (listed.setIfInBounds i true) st'
variable {L : Array Bool → St → Prop}
theorem DAny3.eq (hL : ∀ listed s t, StEq2 s t → L listed s → L listed t) : ∀ (f : Nat) (listed : Array Bool) (s t : St), StEq2 s t → DAny3 P ops bs L f listed s → DAny3 P ops bs L f listed t
  | 0, listed, s, t, e, h => hL listed s t e h
  | f + 1, listed, s, t, e, h => ⟨h.1, fun i hi => by
    obtain ⟨o, s', h2, h3, h4⟩ := h.2 i hi
    obtain ⟨t', h5, h6⟩ := h3.eq e
    exact ⟨o, t', h2, h5, DAny3.eq hL f _ _ _ h6 h4⟩⟩
theorem StEq2.comm (st : St) {d d' : Nat} (h : d ≠ d') (y y' : AV) : StEq2 ((st.put d y).put d' y') ((st.put d' y').put d y) :=
  ⟨rfl, fun _ => rfl, rfl, rfl, fun i => by simp only [St.put, look_cons]; by_cases h1 : d' = i <;> by_cases h2 : d = i <;> simp_all⟩
theorem DG3.wp {base : Nat} {w0 : W0} {st st' : St} {M : Wd} {a : Act} {i : Nat} {o : Oper} {K : Act → World → Prop} {Q' : Exit → Act → World → Prop} (hi : ops[i]? = some o) (h : DG3 P ops bs o st st') (hs : Sim base w0 st M a)
    (hK : ∀ M' a', Ext M M' → Sim base w0 st' M' a' → K a' M'.w) : wpOp P ops Q' i K a M.w := by
  cases h with
  | q h =>
    refine (h.of (t := st) rfl (fun b z hz => ?_) rfl (fun z _ => by cases z <;> rfl) (fun _ _ _ _ _ => rfl)).wp hi hs hK
    rw [H_hide] at hz
    split at hz
    · cases hz
    · exact hz
  | @a d x h hd =>
    obtain ⟨g, hdst, hrun⟩ := h
    obtain ⟨u, c, arr, t, e1, e2, e3⟩ := hrun st base w0 M a hs
    unfold wpOp
    simp only [hi]
    rw [if_pos (by simp [Region.wanted, g])]
    refine .inl ?_
    unfold Oper.wp
    rw [e1]
    have := hK (M.new st x c (.cells arr t)) (a.put o.dst u) (hs.extNew x c _) (by rw [hdst]; exact e2.put hd e3)
    exact this
  | @s b x hb hlt h =>
    have hl := h.2.2 st rfl rfl rfl (fun _ _ => rfl) base w0 M a hs
    have hw : Region.wanted o (yielded ops a.tmps) = true := by simp [Region.wanted, h.1]
    unfold wpList at hl
    rw [if_pos hw] at hl
    unfold wpOp
    simp only [hi]
    rw [if_pos hw]
    rcases hl with hl | ⟨_, a', w', M', st', _, _, _, hf⟩
    · refine .inl (upon_mono2 (fun a' w' hk => ?_) (fun e a' w' hne hq => ?_) hl)
      · obtain ⟨M', st', e1, e2, e3, e4⟩ := hk
        subst e1
        have e4 : st' = _ := e4
        subst e4
        exact hK M' a' e3 e2
      · obtain ⟨M', st', e1, e2, e3, e4⟩ := hq
        cases e <;> first | exact absurd rfl hne | exact e4.elim
    · exact hf.elim
section
variable {i nn nx k : Nat} {env : List (Nat × AV)} {heap : List (Nat × Option AB)} {gl : List (Nat × List CV)} {listed : Array Bool} {ty : TypeId} {pos : String} {af : Array Edge}
end
end
end Go.Proofs.Ythkjkhffljlidaa.Ev
/- Rules of a walk: bits, truth values held against each other, function values in calls. Nothing here names a program. -/
namespace Go.Proofs.Ythkjkhffljlidaa.Ev
set_option linter.unusedVariables false
set_option linter.unusedSimpArgs false
open Go.RowKit
section
variable {P : Program} {ops : Array Oper} {Q : Exit → St → Prop} {X : List Oper → St → Prop} {rest : List Oper} {d : Nat} {ty : TypeId} {pos : String} {af : Array Edge} {n : Nat} {env : List (Nat × AV)} {heap : List (Nat × Option AB)} {nx : Nat} {gl : List (Nat × List CV)}
theorem r_or [W : Walk P X] {x y : Operand} {t t2 : TypeId} {k : IntKind} {a b : Int} (hx : St.ev ⟨n, env, heap, nx, gl⟩ x = some (.c (.v (.int k a)))) (hy : St.ev ⟨n, env, heap, nx, gl⟩ y = some (.c (.v (.int k b)))) (hd : Nat.blt d n = true) (h : X rest ⟨n, (d, .c (.v (.int k (bits .or k a b)))) :: env, heap, nx, gl⟩) : X (⟨some d, .binOp .or t x y t2, ty, pos, af, none⟩ :: rest) ⟨n, env, heap, nx, gl⟩ := by
  refine ao_val (st := ⟨n, env, heap, nx, gl⟩) rfl rfl hd (fun _ _ M e hs => ⟨.int k (bits .or k a b), ?_, .c (.v _)⟩) h
  simp only [execOp, (hs.ev (by simp [Op.operands, Call.operands]) hx).bool, (hs.ev (by simp [Op.operands, Call.operands]) hy).bool]
  simp [go_sem]
theorem r_shr [W : Walk P X] {x y : Operand} {t t2 : TypeId} {k k2 : IntKind} {a b : Int} (hx : St.ev ⟨n, env, heap, nx, gl⟩ x = some (.c (.v (.int k a)))) (hy : St.ev ⟨n, env, heap, nx, gl⟩ y = some (.c (.v (.int k2 b)))) (h0 : 0 ≤ b) (h1 : b < k.bits) (hd : Nat.blt d n = true) (h : X rest ⟨n, (d, .c (.v (.int k (a / 2 ^ b.toNat)))) :: env, heap, nx, gl⟩) : X (⟨some d, .binOp .shr t x y t2, ty, pos, af, none⟩ :: rest) ⟨n, env, heap, nx, gl⟩ := by
  refine ao_val (st := ⟨n, env, heap, nx, gl⟩) rfl rfl hd (fun _ _ M e hs => ⟨.int k (a / 2 ^ b.toNat), ?_, .c (.v _)⟩) h
  simp only [execOp, (hs.ev (by simp [Op.operands, Call.operands]) hx).bool, (hs.ev (by simp [Op.operands, Call.operands]) hy).bool]
  have e1 : min b.toNat k.bits = b.toNat := by omega
  have e2 : a.fdiv (2 ^ b.toNat) = a / 2 ^ b.toNat := Int.fdiv_eq_ediv_of_nonneg _ (Int.le_of_lt (Int.pow_pos (by decide)))
  have e3 : (binOp .shr t (.int k a) (.int k2 b)).run P M.w = .ok (.int k (a / 2 ^ b.toNat)) M.w := by
    show (Op.shift .shr k a k2 b).run P M.w = _
    unfold Op.shift
    rw [if_neg (by omega)]
    dsimp only
    rw [e1, e2]; rfl
  simp only [Sem.run_bind]
  rw [show (eqGuard .shr t x y (.int k a) (.int k2 b)).run P M.w = .ok () M.w from rfl]
  show (Sem.run P (binOp .shr t (.int k a) (.int k2 b)) M.w).andThen _ = _
  rw [e3]; rfl
end
end Go.Proofs.Ythkjkhffljlidaa.Ev
/- Rules of a walk: regions that draw their order, store into lists while addresses are still computed. Nothing here names a program. -/
namespace Go.Proofs.Ythkjkhffljlidaa.Ev
set_option linter.unusedVariables false
set_option linter.unusedSimpArgs false
open Go.RowKit
section
variable {P : Program} {ops : Array Oper} {n : Nat}
inductive DG4 (P : Program) (ops : Array Oper) (bs : List Nat) (o : Oper) (st : St) : St → Prop
  | q {d : Nat} {y : AV} (h : DY P ops o st d y) : DG4 P ops bs o st (st.put d y)
  | s {b : Nat} {x : AB} (hb : b ∈ bs) (hlt : b < st.nx) (h : SStep P ops o st b x) : DG4 P ops bs o st (st.set b x)
  | a {d : Nat} {x : AB} (h : AOp P o d x) (hd : Nat.blt d st.n = true) : DG4 P ops bs o st ((st.new x).put d (.ptr st.nx 0))
variable {bs : List Nat}
theorem DG4.eq {o : Oper} {s t s' : St} (h : DG4 P ops bs o s s') (e : StEq2 s t) : ∃ t', DG4 P ops bs o t t' ∧ StEq2 s' t' := by
  cases h with
  | q h => exact ⟨_, .q (h.eq2 e), e.put _ _⟩
  | s hb hlt h => exact ⟨_, .s hb (by rw [← e.nx]; exact hlt) (h.of e.n e.gl (e.H _) (fun z _ => e.ev z)), e.set _ _⟩
  | a h hd => exact ⟨_, .a h (by rw [← e.n]; exact hd), by rw [e.nx]; exact (e.new _).put _ _⟩
def DAny4 (P : Program) (ops : Array Oper) (bs : List Nat) (L : Array Bool → St → Prop) : Nat → Array Bool → St → Prop
  | 0, listed, st => L listed st
  | f + 1, listed, st => Region.ready .any ops listed ≠ [] ∧ ∀ i ∈ Region.ready .any ops listed, ∃ o st', ops[i]? = some o ∧ DG4 P ops bs o st st' ∧ DAny4 P ops bs L f (listed.setIfInBounds i true) st'
variable {L : Array Bool → St → Prop}
theorem DAny4.eq (hL : ∀ listed s t, StEq2 s t → L listed s → L listed t) : ∀ (f : Nat) (listed : Array Bool) (s t : St), StEq2 s t → DAny4 P ops bs L f listed s → DAny4 P ops bs L f listed t
  | 0, listed, s, t, e, h => hL listed s t e h
  | f + 1, listed, s, t, e, h => ⟨h.1, fun i hi => by
    obtain ⟨o, s', h2, h3, h4⟩ := h.2 i hi
    obtain ⟨t', h5, h6⟩ := h3.eq e
    exact ⟨o, t', h2, h5, DAny4.eq hL f _ _ _ h6 h4⟩⟩
def upB (ops : Array Oper) : Nat → Nat → Oper → Bool
  | 0, _, _ => false
  | f + 1, i, o => o.after.toList.any fun e => Region.binds .any e && (Nat.beq e.on i || match ops[e.on]? with | some o' => upB ops f i o' | none => false)
def Cl (ops : Array Oper) (listed : Array Bool) : Prop := ∀ (j : Nat) (oj : Oper), ops[j]? = some oj → listed.getD j false = true → ∀ e ∈ oj.after, Region.binds .any e = true → listed.getD e.on false = true
theorem up_listed {listed : Array Bool} (cl : Cl ops listed) {i : Nat} : ∀ (f : Nat) (o : Oper), upB ops f i o = true → (∀ e ∈ o.after, Region.binds .any e = true → listed.getD e.on false = true) → listed.getD i false = true
  | 0, o, h, _ => by cases h
  | f + 1, o, h, ha => by
    unfold upB at h
    simp only [List.any_eq_true, Bool.and_eq_true, Bool.or_eq_true] at h
    obtain ⟨e, h1, h2, h3⟩ := h
    have he := ha e (by simpa using h1) h2
    rcases h3 with h3 | h3
    · rw [← beq_true h3]; exact he
    · split at h3
      · rename_i o' ho
        exact up_listed cl f o' h3 (cl _ _ ho he)
      · cases h3
theorem Cl.set {listed : Array Bool} (cl : Cl ops listed) {i : Nat} (hr : i ∈ Region.ready .any ops listed) : Cl ops (listed.setIfInBounds i true) := by
  obtain ⟨h1, o, h2, h3⟩ := mem_ready.1 hr
  have mono : ∀ j, listed.getD j false = true → (listed.setIfInBounds i true).getD j false = true := fun j hj => by
    by_cases he : i = j
    · subst he
      have := getD_both h1
      rw [this] at hj; cases hj
    · rw [getD_set_ne false he]; exact hj
  intro j oj hj hl e he hb
  by_cases hij : i = j
  · subst hij
    have : oj = o := Option.some.inj (hj.symm.trans h2)
    subst this
    exact mono _ (h3 e he hb)
  · rw [getD_set_ne false hij] at hl
    exact mono _ (cl j oj hj hl e he hb)
theorem cl_0 (n : Nat) : Cl ops (Array.replicate n false) := fun j _ _ hl => by rw [getD_replicate_false] at hl; cases hl
def Loose (P : Program) (ops : Array Oper) (bs : List Nat) (i : Nat) (o : Oper) (st : St) (d : Nat) (y : AV) : Prop :=
  DY P ops o (st.hide bs) d y ∨ (DY P ops o st d y ∧ ∀ (k : Nat) (ok : Oper), ops[k]? = some ok → ok.dst = none → upB ops 8 i ok = true)
theorem unhide {o : Oper} {st : St} {d : Nat} {y : AV} (h : DY P ops o (st.hide bs) d y) : DY P ops o st d y :=
  h.of rfl (fun b z hz => by
    rw [H_hide] at hz
    split at hz
    · cases hz
    · exact hz) rfl (fun z _ => by cases z <;> rfl) (fun _ _ _ _ _ => rfl)
theorem Loose.dy {i : Nat} {o : Oper} {st : St} {d : Nat} {y : AV} (h : Loose P ops bs i o st d y) : DY P ops o st d y := by
  rcases h with h | h
  · exact unhide h
  · exact h.1
theorem DAny4_first {i : Nat} {oi : Oper} (hi : ops[i]? = some oi) (hL : ∀ listed s t, StEq2 s t → L listed s → L listed t) (hdone : ∀ listed st, L listed st → Region.ready .any ops listed = []) :
    ∀ (f : Nat) (listed : Array Bool) (st : St) (d : Nat) (y : AV), Cl ops listed → Fr st →
      (∀ j oj, ops[j]? = some oj → j ≠ i → listed.getD j true = false → (∀ e ∈ oj.after, Region.binds .any e = true → e.on ≠ i) → oi.apart ops oj = true) →
      i ∈ Region.ready .any ops listed → Loose P ops bs i oi st d y → DAny4 P ops bs L f (listed.setIfInBounds i true) (st.put d y) → DAny4 P ops bs L (f + 1) listed st := by
  intro f
  induction f with
  | zero =>
    intro listed st d y cl fr hfree hr hy H
    refine ⟨fun h0 => (by rw [h0] at hr; cases hr), fun j hj => ?_⟩
    by_cases hji : j = i
    · subst hji; exact ⟨oi, _, hi, .q hy.dy, H⟩
    · have := ready_mono hj hji
      rw [hdone _ _ H] at this; cases this
  | succ f ih =>
    intro listed st d y cl fr hfree hr hy H
    refine ⟨fun h0 => (by rw [h0] at hr; cases hr), fun j hj => ?_⟩
    by_cases hji : j = i
    · subst hji; exact ⟨oi, _, hi, .q hy.dy, H⟩
    · obtain ⟨oj, sj, h2, h3, h4⟩ := H.2 j (ready_mono hj hji)
      obtain ⟨hjun, oj', hoj, hall⟩ := mem_ready.1 hj
      have hoo : oj' = oj := Option.some.inj (hoj.symm.trans h2)
      subst hoo
      have hnot : ∀ e ∈ oj'.after, Region.binds .any e = true → e.on ≠ i := fun e he hb heq => by
        have h1 := hall e he hb
        have h0 := getD_both (mem_ready.1 hr).1
        rw [heq, h0] at h1
        cases h1
      obtain ⟨a1, a2, a3⟩ := Oper.apart_spec (hfree j oj' hoj hji hjun hnot)
      have hdi : oi.dst = some d := hy.dy.1
      have hfree' : ∀ k ok, ops[k]? = some ok → k ≠ i → (listed.setIfInBounds j true).getD k true = false → (∀ e ∈ ok.after, Region.binds .any e = true → e.on ≠ i) → oi.apart ops ok = true := fun k ok hk hki hun hno => by
        refine hfree k ok hk hki ?_ hno
        by_cases hjk : j = k
        · subst hjk; exact hjun
        · rw [getD_set_ne true hjk] at hun; exact hun
      cases h3 with
      | @q dj yj h3 =>
        have hdj : oj'.dst = some dj := h3.1
        have hne : d ≠ dj := fun e => a2 d hdi (by rw [hdj, e])
        have h3' : DY P ops oj' st dj yj := h3.unput (a1 d hdi)
        have hy' : Loose P ops bs i oi (st.put dj yj) d y := hy.imp (fun h => DY.put (s := st.hide bs) h yj (a3 dj hdj)) (fun ⟨h, b⟩ => ⟨h.put yj (a3 dj hdj), b⟩)
        refine ⟨oj', _, h2, .q h3', ?_⟩
        refine ih (listed.setIfInBounds j true) (st.put dj yj) d y (cl.set hj) (fr.put _ _) hfree' (ready_mono hr (Ne.symm hji)) hy' ?_
        rw [Array.setIfInBounds_comm _ _ hji]
        exact DAny4.eq hL f _ _ _ (StEq2.comm st hne y yj) h4
      | @a dj x h3 hd3 =>
        have hdj : oj'.dst = some dj := h3.2.1
        have hne : d ≠ dj := fun e => a2 d hdi (by rw [hdj, e])
        have hy1 : DY P ops oi (st.hide bs) d y → DY P ops oi ((st.new x).hide bs) d y := fun hy => hy.of rfl (fun b' z hz => by
          rw [H_hide] at hz ⊢
          by_cases hm : b' ∈ bs
          · rw [if_pos hm] at hz; cases hz
          · rw [if_neg hm] at hz ⊢
            rw [H_new, if_neg]
            · exact hz
            · intro e; subst e; rw [fr _ (Nat.le_refl _)] at hz; cases hz) rfl (fun z _ => by cases z <;> rfl) (fun _ _ _ _ _ => rfl)
        have hy' : Loose P ops bs i oi ((st.new x).put dj (.ptr st.nx 0)) d y := hy.imp (fun h => DY.put (s := (st.new x).hide bs) (hy1 h) _ (a3 dj hdj)) (fun ⟨h, b⟩ => ⟨(h.new fr x).put _ (a3 dj hdj), b⟩)
        refine ⟨oj', _, h2, .a h3 hd3, ?_⟩
        refine ih (listed.setIfInBounds j true) ((st.new x).put dj (.ptr st.nx 0)) d y (cl.set hj) ((fr.new x).put _ _) hfree' (ready_mono hr (Ne.symm hji)) hy' ?_
        rw [Array.setIfInBounds_comm _ _ hji]
        exact DAny4.eq hL f _ _ _ (StEq2.comm (st.new x) hne y _) h4
      | @s b x hb hlt h3 =>
        obtain ⟨l1, l2⟩ := looks_ne (a1 d hdi)
        rcases hy with hy | ⟨_, hbar⟩
        rotate_left
        · have := up_listed cl 8 oj' (hbar j oj' hoj h3.2.1) hall
          rw [getD_both (mem_ready.1 hr).1] at this; cases this
        refine ⟨oj', _, h2, .s hb hlt (h3.of rfl rfl rfl (fun z hz => ev_put (l1 z hz))), ?_⟩
        refine ih (listed.setIfInBounds j true) (st.set b x) d y (cl.set hj) (fr.set hlt x) hfree' (ready_mono hr (Ne.symm hji)) (Or.inl (hy.of rfl (fun b' z hz => ?_) rfl (fun z _ => by cases z <;> rfl) (fun _ _ _ _ _ => rfl))) ?_
        · rw [H_hide] at hz ⊢
          by_cases hm : b' ∈ bs
          · rw [if_pos hm] at hz; cases hz
          · rw [if_neg hm] at hz ⊢
            rw [H_set, if_neg (fun e => hm (by rw [← e]; exact hb))]; exact hz
        · rw [Array.setIfInBounds_comm _ _ hji]
          exact h4
theorem DG4.wp {base : Nat} {w0 : W0} {st st' : St} {M : Wd} {a : Act} {i : Nat} {o : Oper} {K : Act → World → Prop} {Q' : Exit → Act → World → Prop} (hi : ops[i]? = some o) (h : DG4 P ops bs o st st') (hs : Sim base w0 st M a)
    (hK : ∀ M' a', Ext M M' → Sim base w0 st' M' a' → K a' M'.w) : wpOp P ops Q' i K a M.w := by
  cases h with
  | q h => exact h.wp hi hs hK
  | @a d x h hd =>
    obtain ⟨g, hdst, hrun⟩ := h
    obtain ⟨u, c, arr, t, e1, e2, e3⟩ := hrun st base w0 M a hs
    unfold wpOp
    simp only [hi]
    rw [if_pos (by simp [Region.wanted, g])]
    refine .inl ?_
    unfold Oper.wp
    rw [e1]
    have := hK (M.new st x c (.cells arr t)) (a.put o.dst u) (hs.extNew x c _) (by rw [hdst]; exact e2.put hd e3)
    exact this
  | @s b x hb hlt h =>
    have hl := h.2.2 st rfl rfl rfl (fun _ _ => rfl) base w0 M a hs
    have hw : Region.wanted o (yielded ops a.tmps) = true := by simp [Region.wanted, h.1]
    unfold wpList at hl
    rw [if_pos hw] at hl
    unfold wpOp
    simp only [hi]
    rw [if_pos hw]
    rcases hl with hl | ⟨_, a', w', M', st', _, _, _, hf⟩
    · refine .inl (upon_mono2 (fun a' w' hk => ?_) (fun e a' w' hne hq => ?_) hl)
      · obtain ⟨M', st', e1, e2, e3, e4⟩ := hk
        subst e1
        have e4 : st' = _ := e4
        subst e4
        exact hK M' a' e3 e2
      · obtain ⟨M', st', e1, e2, e3, e4⟩ := hq
        cases e <;> first | exact absurd rfl hne | exact e4.elim
    · exact hf.elim
theorem wpAny_of_DAny4 {base : Nat} {w0 : W0} {M0 : Wd} {Q : Exit → St → Prop} (hL : ∀ listed st M a, L listed st → Sim base w0 st M a → Ext M0 M → wpAny P .any ops (Lift base w0 M0 Q) 0 listed a M.w) :
    ∀ (f : Nat) (listed : Array Bool) (st : St) (M : Wd) (a : Act), Sim base w0 st M a → Ext M0 M → DAny4 P ops bs L f listed st → wpAny P .any ops (Lift base w0 M0 Q) f listed a M.w
  | 0, listed, st, M, a, hs, he, h => hL _ _ _ _ h hs he
  | f + 1, listed, st, M, a, hs, he, h => by
    refine ⟨fun h0 => absurd h0 h.1, fun i hi => ?_⟩
    obtain ⟨o, st', h1, h2, h3⟩ := h.2 i hi
    exact h2.wp h1 hs fun M' a' hext hs' => wpAny_of_DAny4 hL f _ _ M' a' hs' (he.trans hext) h3
def endsV (P : Program) (ops : Array Oper) (Q : Exit → St → Prop) : Array Bool → St → Prop := fun listed st => Region.ready .any ops listed = [] ∧ AOps P ops Q [] st
def setAllV : List Nat → Array Bool → Array Bool
  | [], listed => listed
  | i :: is, listed => setAllV is (listed.setIfInBounds i true)
theorem endsV_eq {Q : Exit → St → Prop} : ∀ listed s t, StEq2 s t → endsV P ops Q listed s → endsV P ops Q listed t := fun _ _ _ e hh => ⟨hh.1, fun base w0 M a hs' => hh.2 base w0 M a (e.symm.sim hs')⟩
theorem DAny4_ord {k : Nat} {Q : Exit → St → Prop} {hp : List (Nat × Option AB)} : ∀ (is : List Nat) (listed : Array Bool) (st : St), st.heap = hp → Cl ops listed → Fr st → ordB .any ops (fun _ => true) is listed = true →
    DSeq P ops (fun s => DAny4 P ops bs (endsV P ops Q) k (setAllV is listed) { s with heap := hp }) (pk ops.toList is) (st.hide bs) → DAny4 P ops bs (endsV P ops Q) (is.length + k) listed st
  | [], listed, st, hhp, _, _, _, h => by
    rw [List.length_nil, Nat.zero_add]
    have h : DAny4 P ops bs (endsV P ops Q) k listed { st.hide bs with heap := hp } := h
    rw [← hhp] at h
    exact h
  | i :: is, listed, st, hhp, cl, fr, hB, h => by
    unfold ordB at hB
    simp only [Bool.and_eq_true] at hB
    obtain ⟨⟨hr, hf⟩, hB'⟩ := hB
    have hr' : i ∈ Region.ready .any ops listed := by simpa using hr
    obtain ⟨_, o, h0, _⟩ := mem_ready.1 hr'
    rw [pk_cons (by simpa using h0)] at h
    obtain ⟨d, y, hy, hK⟩ := h
    have := DAny4_first h0 endsV_eq (fun listed' st' hL => hL.1) (is.length + k) listed st d y cl fr (Region.free_spec h0 hf) hr' (Or.inl hy)
      (DAny4_ord is _ (st.put d y) hhp (cl.set hr') (fr.put _ _) hB' hK)
    rw [List.length_cons, show is.length + 1 + k = is.length + k + 1 by omega]
    exact this
def barB (ops : Array Oper) (i : Nat) : Bool := ops.toList.all fun o => o.dst.isSome || upB ops 8 i o
theorem bar_of {i : Nat} (h : barB ops i = true) : ∀ (k : Nat) (ok : Oper), ops[k]? = some ok → ok.dst = none → upB ops 8 i ok = true := by
  intro k ok hk hd
  have hm : ok ∈ ops.toList := by
    obtain ⟨hl, he⟩ := Array.getElem?_eq_some_iff.1 hk
    rw [← he]; exact Array.getElem_mem_toList hl
  have := List.all_eq_true.1 h ok hm
  rw [hd] at this
  simpa using this
theorem DAny4_ord1 {k : Nat} {Q : Exit → St → Prop} {E : St → Prop} {rest : Array Bool → Bool} {hp : List (Nat × Option AB)} : ∀ (is : List Nat) (listed : Array Bool) (st : St), (∀ st, Cl ops (setAllV is listed) → Fr st → st.heap = hp → rest (setAllV is listed) = true → E st → DAny4 P ops bs (endsV P ops Q) k (setAllV is listed) st) → Cl ops listed → Fr st → st.heap = hp → is.all (barB ops) = true → ordB .any ops rest is listed = true →
    DSeq P ops E (pk ops.toList is) st → DAny4 P ops bs (endsV P ops Q) (is.length + k) listed st
  | [], listed, st, hE, cl, fr, hhp, _, hB, h => by
    rw [List.length_nil, Nat.zero_add]
    exact hE st cl fr hhp hB h
  | i :: is, listed, st, hE, cl, fr, hhp, hb, hB, h => by
    unfold ordB at hB
    simp only [Bool.and_eq_true] at hB
    obtain ⟨⟨hr, hf⟩, hB'⟩ := hB
    simp only [List.all_cons, Bool.and_eq_true] at hb
    have hr' : i ∈ Region.ready .any ops listed := by simpa using hr
    obtain ⟨_, o, h0, _⟩ := mem_ready.1 hr'
    rw [pk_cons (by simpa using h0)] at h
    obtain ⟨d, y, hy, hK⟩ := h
    have := DAny4_first h0 endsV_eq (fun listed' st' hL => hL.1) (is.length + k) listed st d y cl fr (Region.free_spec h0 hf) hr' (Or.inr ⟨hy, bar_of hb.1⟩)
      (DAny4_ord1 is _ (st.put d y) hE (cl.set hr') (fr.put _ _) hhp hb.2 hB' hK)
    rw [List.length_cons, show is.length + 1 + k = is.length + k + 1 by omega]
    exact this
def drawVB (ops : Array Oper) (is js : List Nat) (k : Nat) : Bool := Region.noSelect ops && Nat.beq (is.length + (js.length + k)) ops.size && is.all (barB ops) && ordB .any ops (fun listed => ordB .any ops (fun _ => true) js listed) is (Array.replicate ops.size false)
theorem aw_drawV {id : Nat} {l : List Oper} {Q : Exit → St → Prop} {nn nx : Nat} {env : List (Nat × AV)} {heap : List (Nat × Option AB)} {gl : List (Nat × List CV)} [m : Mixed P] (bs is js : List Nat) (k : Nat) (listed0 : Array Bool) (hB : drawVB l.toArray is js k = true) (h0 : listed0 = setAllV js (setAllV is (Array.replicate l.length false))) (hf : frB heap nx = true)
    (h : DSeq P l.toArray (fun s => DSeq P l.toArray (fun s => DAny4 P l.toArray bs (endsV P l.toArray Q) k listed0 { s with heap := heap }) (pk l js) { s with heap := bs.map (fun b => (b, none)) ++ heap }) (pk l is) ⟨nn, env, heap, nx, gl⟩) : Awp P (.region id l.toArray true) Q ⟨nn, env, heap, nx, gl⟩ := by
  simp only [drawVB, Bool.and_eq_true] at hB
  obtain ⟨⟨⟨hsel, hlen⟩, hbar⟩, hord⟩ := hB
  have hlen := beq_true hlen
  intro base w0 M a hs
  subst h0
  have hsz : l.length = l.toArray.size := by simp
  rw [hsz] at h
  have H := DAny4_ord1 (P := P) (ops := l.toArray) (bs := bs) (k := js.length + k) (Q := Q) (hp := heap) (rest := fun listed => ordB .any l.toArray (fun _ => true) js listed) (E := fun s => DSeq P l.toArray (fun s => DAny4 P l.toArray bs (endsV P l.toArray Q) k (setAllV js (setAllV is (Array.replicate l.toArray.size false))) { s with heap := heap }) (pk l js) { s with heap := bs.map (fun b => (b, none)) ++ heap }) is _ ⟨nn, env, heap, nx, gl⟩
    (fun st cl fr hhp hB hE => DAny4_ord (hp := heap) js _ st hhp cl fr hB (by
      have e : st.hide bs = { st with heap := bs.map (fun b => (b, none)) ++ heap } := by unfold St.hide; rw [hhp]
      rw [e]; exact hE)) (cl_0 _) (fr_of hf) rfl hbar hord h
  refine wp_region_any m.h ?_
  have := wpAny_of_DAny4 (P := P) (ops := l.toArray) (bs := bs) (base := base) (w0 := w0) (M0 := M) (Q := Q) (fun listed st' M' a' hL hs' he => by
    have h1 := wpList_monoQ (fun e a w => Lift.ext he) _ _ _ (hL.2 base w0 M' a' hs')
    exact ⟨hL.1, h1⟩) (is.length + (js.length + k)) (Array.replicate l.toArray.size false) _ M.drew a hs.drew (Ext.drew M) H
  rw [hlen] at this
  exact this
theorem ds_nilV1 {nn nx : Nat} {env : List (Nat × AV)} {heap' heap2 : List (Nat × Option AB)} {gl : List (Nat × List CV)} {E : St → Prop} {qs : List Oper} (h : DSeq P ops E qs ⟨nn, env, heap2, nx, gl⟩) : DSeq P ops (fun s => DSeq P ops E qs { s with heap := heap2 }) [] ⟨nn, env, heap', nx, gl⟩ := h
section
variable {i nn nx k : Nat} {env : List (Nat × AV)} {heap : List (Nat × Option AB)} {gl : List (Nat × List CV)} {listed : Array Bool} {ty : TypeId} {pos : String} {af : Array Edge}
def D4 (P : Program) (ops : Array Oper) (bs : List Nat) (L : Array Bool → St → Prop) (k i : Nat) (listed : Array Bool) (st : St) : Prop :=
  ∃ o st', ops[i]? = some o ∧ DG4 P ops bs o st st' ∧ DAny4 P ops bs L k (listed.setIfInBounds i true) st'
theorem ds_nilV {heap' : List (Nat × Option AB)} (h : DAny4 P ops bs L k listed ⟨nn, env, heap, nx, gl⟩) : DSeq P ops (fun s => DAny4 P ops bs L k listed { s with heap := heap }) [] ⟨nn, env, heap', nx, gl⟩ := h
theorem d4_step {st : St} (is : List Nat) (hr : Region.ready .any ops listed = is) (hne : is.isEmpty = false) (h : ∀ i ∈ is, D4 P ops bs L k i listed st) : DAny4 P ops bs L (k + 1) listed st :=
  ⟨fun h0 => (by rw [hr] at h0; subst h0; cases hne), fun i hi => h i (by rw [← hr]; exact hi)⟩
theorem d4_none {st : St} : ∀ i ∈ ([] : List Nat), D4 P ops bs L k i listed st := fun _ h => by cases h
theorem d4_nil {Q : Exit → St → Prop} {st : St} (hr : Region.ready .any ops listed = []) (h : AOps P ops Q [] st) : DAny4 P ops bs (endsV P ops Q) 0 listed st := ⟨hr, h⟩
theorem d4_a {d : Nat} {t : TypeId} {zs : List Value} (hi : ops[i]? = some ⟨some d, .alloc t, ty, pos, af, none⟩) (I : ZeroT P t zs) (hd : Nat.blt d nn = true) (h : DAny4 P ops bs L k (listed.setIfInBounds i true) ⟨nn, (d, .ptr nx 0) :: env, (nx, some (.cells t (zs.map fun z => .c (.v z)))) :: heap, nx + 1, gl⟩) : D4 P ops bs L k i listed ⟨nn, env, heap, nx, gl⟩ :=
  ⟨_, _, hi, .a (d := d) (x := .cells t (zs.map fun z => .c (.v z))) (aop_alloc (I := I)) hd, h⟩
theorem d4_pa {x z : Operand} {t n' b off : Nat} {ag : Bool} {t' : TypeId} {l ys : List AV} (hi : ops[i]? = some ⟨none, .store t x z, ty, pos, af, none⟩) (I : TyC P t ag n') (hx : St.ev ⟨nn, env, heap, nx, gl⟩ x = some (.ptr b off)) (hz : St.ev ⟨nn, env, heap, nx, gl⟩ z = some (.agg ys)) (hc : ys.all AV.cellB = true) (h1 : ys.length = n') (hH : St.H ⟨nn, env, heap, nx, gl⟩ b = some (.cells t' l)) (hl : Nat.ble (off + n') l.length = true) (hb : bs.contains b = true) (hlt : Nat.blt b nx = true)
    (h : DAny4 P ops bs L k (listed.setIfInBounds i true) ⟨nn, env, (b, some (.cells t' (splice l ys off))) :: heap, nx, gl⟩) : D4 P ops bs L k i listed ⟨nn, env, heap, nx, gl⟩ :=
  ⟨_, _, hi, .s (b := b) (x := .cells t' (splice l ys off)) (by simpa using hb) (blt_true hlt) ⟨rfl, rfl, fun s e1 e2 e3 e4 => ao_store_pa (l := l) (t' := t') (st := s) ((e4 x (by simp [Op.operands])).trans hx) ((e4 z (by simp [Op.operands])).trans hz) hc h1 (e3.trans hH) hl (ao_nil (only_normal rfl))⟩, h⟩
theorem d4_q {l : List Oper} {st : St} (hlt : Nat.blt i l.length = true) (h : DSeq P l.toArray (fun s => DAny4 P l.toArray bs L k (listed.setIfInBounds i true) s) (pk l [i]) st) : D4 P l.toArray bs L k i listed st := by
  have hlt := blt_true hlt
  rw [pk_cons (List.getElem?_eq_getElem hlt)] at h
  obtain ⟨d, y, hy, hK⟩ := h
  exact ⟨_, _, by simp [hlt], .q hy, hK⟩
theorem ds_nilV2 {st : St} (h : DAny4 P ops bs L k listed st) : DSeq P ops (fun s => DAny4 P ops bs L k listed s) [] st := h
theorem d4_p {x z : Operand} {t n' b off : Nat} {ag : Bool} {t' : TypeId} {l : List AV} {y : AV} (hi : ops[i]? = some ⟨none, .store t x z, ty, pos, af, none⟩) (I : TyC P t ag n') (hx : St.ev ⟨nn, env, heap, nx, gl⟩ x = some (.ptr b off)) (hz : St.ev ⟨nn, env, heap, nx, gl⟩ z = some y) (hc : y.cellB = true) (h1 : n' = 1) (hH : St.H ⟨nn, env, heap, nx, gl⟩ b = some (.cells t' l)) (hl : Nat.blt off l.length = true) (hb : bs.contains b = true) (hlt : Nat.blt b nx = true)
    (h : DAny4 P ops bs L k (listed.setIfInBounds i true) ⟨nn, env, (b, some (.cells t' (l.set off y))) :: heap, nx, gl⟩) : D4 P ops bs L k i listed ⟨nn, env, heap, nx, gl⟩ :=
  ⟨_, _, hi, .s (b := b) (x := .cells t' (l.set off y)) (by simpa using hb) (blt_true hlt) ⟨rfl, rfl, fun s e1 e2 e3 e4 => ao_store_p (l := l) (t' := t') (st := s) ((e4 x (by simp [Op.operands])).trans hx) ((e4 z (by simp [Op.operands])).trans hz) hc h1 (e3.trans hH) hl (ao_nil (only_normal rfl))⟩, h⟩
end
end
end Go.Proofs.Ythkjkhffljlidaa.Ev
/- Rules of a walk: regions that draw their order and call what makes memory. Nothing here names a program. -/
namespace Go.Proofs.Ythkjkhffljlidaa.Ev
set_option linter.unusedVariables false
set_option linter.unusedSimpArgs false
open Go.RowKit
section
variable {P : Program} {ops : Array Oper} {n : Nat}
def NStep (P : Program) (ops : Array Oper) (o : Oper) (st : St) (d : Nat) (x : AB) (mk : Nat → AV) : Prop :=
  o.guard = none ∧ o.dst = some d ∧ ∀ s : St, s.n = st.n → s.gl = st.gl → (∀ z ∈ o.op.operands, s.ev z = st.ev z) → AOps P ops (only (fun s' => StEq2 s' ((s.new x).put d (mk s.nx)))) [o] s
theorem NStep.of {o : Oper} {s t : St} {d : Nat} {x : AB} {mk : Nat → AV} (h : NStep P ops o s d x mk) (hn : s.n = t.n) (hg : s.gl = t.gl) (hev : ∀ z ∈ o.op.operands, s.ev z = t.ev z) : NStep P ops o t d x mk :=
  ⟨h.1, h.2.1, fun u e1 e2 e4 => h.2.2 u (e1.trans hn.symm) (e2.trans hg.symm) (fun z hz => (e4 z hz).trans (hev z hz).symm)⟩
inductive DG5 (P : Program) (ops : Array Oper) (bs : List Nat) (o : Oper) (st : St) : St → Prop
  | q {d : Nat} {y : AV} (h : DY P ops o st d y) : DG5 P ops bs o st (st.put d y)
  | s {b : Nat} {x : AB} (hb : b ∈ bs) (hlt : b < st.nx) (h : SStep P ops o st b x) : DG5 P ops bs o st (st.set b x)
  | a {d : Nat} {x : AB} (h : AOp P o d x) (hd : Nat.blt d st.n = true) : DG5 P ops bs o st ((st.new x).put d (.ptr st.nx 0))
  | n {d : Nat} {x : AB} {mk : Nat → AV} (h : NStep P ops o st d x mk) : DG5 P ops bs o st ((st.new x).put d (mk st.nx))
variable {bs : List Nat}
theorem DG5.eq {o : Oper} {s t s' : St} (h : DG5 P ops bs o s s') (e : StEq2 s t) : ∃ t', DG5 P ops bs o t t' ∧ StEq2 s' t' := by
  cases h with
  | q h => exact ⟨_, .q (h.eq2 e), e.put _ _⟩
  | s hb hlt h => exact ⟨_, .s hb (by rw [← e.nx]; exact hlt) (h.of e.n e.gl (e.H _) (fun z _ => e.ev z)), e.set _ _⟩
  | a h hd => exact ⟨_, .a h (by rw [← e.n]; exact hd), by rw [e.nx]; exact (e.new _).put _ _⟩
  | n h => exact ⟨_, .n (h.of e.n e.gl (fun z _ => e.ev z)), by rw [e.nx]; exact (e.new _).put _ _⟩
def DAny5 (P : Program) (ops : Array Oper) (bs : List Nat) (L : Array Bool → St → Prop) : Nat → Array Bool → St → Prop
  | 0, listed, st => L listed st
  | f + 1, listed, st => Region.ready .any ops listed ≠ [] ∧ ∀ i ∈ Region.ready .any ops listed, ∃ o st', ops[i]? = some o ∧ DG5 P ops bs o st st' ∧ DAny5 P ops bs L f (listed.setIfInBounds i true) st'
variable {L : Array Bool → St → Prop}
theorem DAny5.eq (hL : ∀ listed s t, StEq2 s t → L listed s → L listed t) : ∀ (f : Nat) (listed : Array Bool) (s t : St), StEq2 s t → DAny5 P ops bs L f listed s → DAny5 P ops bs L f listed t
  | 0, listed, s, t, e, h => hL listed s t e h
  | f + 1, listed, s, t, e, h => ⟨h.1, fun i hi => by
    obtain ⟨o, s', h2, h3, h4⟩ := h.2 i hi
    obtain ⟨t', h5, h6⟩ := h3.eq e
    exact ⟨o, t', h2, h5, DAny5.eq hL f _ _ _ h6 h4⟩⟩
theorem DG5.wp {base : Nat} {w0 : W0} {st st' : St} {M : Wd} {a : Act} {i : Nat} {o : Oper} {K : Act → World → Prop} {Q' : Exit → Act → World → Prop} (hi : ops[i]? = some o) (h : DG5 P ops bs o st st') (hs : Sim base w0 st M a)
    (hK : ∀ M' a', Ext M M' → Sim base w0 st' M' a' → K a' M'.w) : wpOp P ops Q' i K a M.w := by
  cases h with
  | q h => exact h.wp hi hs hK
  | @a d x h hd =>
    obtain ⟨g, hdst, hrun⟩ := h
    obtain ⟨u, c, arr, t, e1, e2, e3⟩ := hrun st base w0 M a hs
    unfold wpOp
    simp only [hi]
    rw [if_pos (by simp [Region.wanted, g])]
    refine .inl ?_
    unfold Oper.wp
    rw [e1]
    have := hK (M.new st x c (.cells arr t)) (a.put o.dst u) (hs.extNew x c _) (by rw [hdst]; exact e2.put hd e3)
    exact this
  | @n d x mk h =>
    have hl := h.2.2 st rfl rfl (fun _ _ => rfl) base w0 M a hs
    have hw : Region.wanted o (yielded ops a.tmps) = true := by simp [Region.wanted, h.1]
    unfold wpList at hl
    rw [if_pos hw] at hl
    unfold wpOp
    simp only [hi]
    rw [if_pos hw]
    rcases hl with hl | ⟨_, a', w', M', st', _, _, _, hf⟩
    · refine .inl (upon_mono2 (fun a' w' hk => ?_) (fun e a' w' hne hq => ?_) hl)
      · obtain ⟨M', st', e1, e2, e3, e4⟩ := hk
        subst e1
        have e4 : StEq2 st' _ := e4
        exact hK M' a' e3 (e4.sim e2)
      · obtain ⟨M', st', e1, e2, e3, e4⟩ := hq
        cases e <;> first | exact absurd rfl hne | exact e4.elim
    · exact hf.elim
  | @s b x hb hlt h =>
    have hl := h.2.2 st rfl rfl rfl (fun _ _ => rfl) base w0 M a hs
    have hw : Region.wanted o (yielded ops a.tmps) = true := by simp [Region.wanted, h.1]
    unfold wpList at hl
    rw [if_pos hw] at hl
    unfold wpOp
    simp only [hi]
    rw [if_pos hw]
    rcases hl with hl | ⟨_, a', w', M', st', _, _, _, hf⟩
    · refine .inl (upon_mono2 (fun a' w' hk => ?_) (fun e a' w' hne hq => ?_) hl)
      · obtain ⟨M', st', e1, e2, e3, e4⟩ := hk
        subst e1
        have e4 : st' = _ := e4
        subst e4
        exact hK M' a' e3 e2
      · obtain ⟨M', st', e1, e2, e3, e4⟩ := hq
        cases e <;> first | exact absurd rfl hne | exact e4.elim
    · exact hf.elim
section
variable {i nn nx k : Nat} {env : List (Nat × AV)} {heap : List (Nat × Option AB)} {gl : List (Nat × List CV)} {listed : Array Bool} {ty : TypeId} {pos : String} {af : Array Edge}
end
end
end Go.Proofs.Ythkjkhffljlidaa.Ev
/- Rules of a walk: strings, arrays as values, closures with a result in a slot. Nothing here names a program. -/
namespace Go.Proofs.Ythkjkhffljlidaa.Ev
set_option linter.unusedVariables false
set_option linter.unusedSimpArgs false
open Go.RowKit
section
variable {P : Program} {ops : Array Oper} {Q : Exit → St → Prop} {X : List Oper → St → Prop} {rest : List Oper} {d : Nat} {ty : TypeId} {pos : String} {af : Array Edge} {n : Nat} {env : List (Nat × AV)} {heap : List (Nat × Option AB)} {nx : Nat} {gl : List (Nat × List CV)}
class StrTy (P : Program) (t : Nat) : Prop where
  h : P.underlying t = some .string
def bt (s : ByteArray) (k : Nat) : Int := ((s.data.toList.getD k 0).toNat : Int)
theorem str_get (s : ByteArray) (k : Nat) (h : k < s.size) : ∃ b, s[k]? = some b ∧ (b.toNat : Int) = bt s k := by
  refine ⟨s[k], getElem?_pos s k h, ?_⟩
  unfold bt
  have h2 : k < s.data.toList.length := by simpa using h
  rw [List.getD_eq_getElem?_getD, List.getElem?_eq_getElem h2]
  rfl
theorem r_len_s [W : Walk P X] {x : Operand} {t : TypeId} {s : ByteArray} [I : StrTy P t] (hx : St.ev ⟨n, env, heap, nx, gl⟩ x = some (.c (.v (.string s)))) (hd : Nat.blt d n = true) (h : X rest ⟨n, (d, .c (.v (.int .i64 (s.size : Int)))) :: env, heap, nx, gl⟩) : X (⟨some d, .call ⟨.builtin .len, #[x], #[t]⟩, ty, pos, af, none⟩ :: rest) ⟨n, env, heap, nx, gl⟩ := by
  refine ao_val (st := ⟨n, env, heap, nx, gl⟩) rfl rfl hd (fun _ _ M e hs => ⟨.int .i64 (s.size : Int), ?_, .c (.v _)⟩) h
  have hv := (hs.ev (by simp [Op.operands, Call.operands]) hx).bool
  simp only [execOp, resolve, List.map_toArray, List.map_cons, List.map_nil, hv]
  simp [invoke, builtin, Builtin.len_, run_underlying I.h, goInt]
theorem r_index_s [W : Walk P X] {x y : Operand} {t : TypeId} {s : ByteArray} {kk : IntKind} {idx : Int} [I : StrTy P t] (k : Nat) (hx : St.ev ⟨n, env, heap, nx, gl⟩ x = some (.c (.v (.string s)))) (hy : St.ev ⟨n, env, heap, nx, gl⟩ y = some (.c (.v (.int kk idx)))) (hk : idx = (k : Int)) (hlt : k < s.size) (hd : Nat.blt d n = true) (h : X rest ⟨n, (d, .c (.v (.int .u8 (bt s k)))) :: env, heap, nx, gl⟩) : X (⟨some d, .index t x y, ty, pos, af, none⟩ :: rest) ⟨n, env, heap, nx, gl⟩ := by
  obtain ⟨b, h1, h2⟩ := str_get s k hlt
  refine ao_val (st := ⟨n, env, heap, nx, gl⟩) rfl rfl hd (fun _ _ M e hs => ⟨.int .u8 (bt s k), ?_, .c (.v _)⟩) h
  simp only [execOp, (hs.ev (by simp [Op.operands, Call.operands]) hx).bool, (hs.ev (by simp [Op.operands, Call.operands]) hy).bool]
  subst hk
  simp [Instr.index, asIntOf, run_underlying I.h, h1, h2]
theorem r_eqstr [W : Walk P X] {x y : Operand} {t t2 : TypeId} {a b : ByteArray} (hx : St.ev ⟨n, env, heap, nx, gl⟩ x = some (.c (.v (.string a)))) (hy : St.ev ⟨n, env, heap, nx, gl⟩ y = some (.c (.v (.string b)))) (hd : Nat.blt d n = true) (h : X rest ⟨n, (d, .c (.v (.bool (a.toList == b.toList)))) :: env, heap, nx, gl⟩) : X (⟨some d, .binOp .eql t x y t2, ty, pos, af, none⟩ :: rest) ⟨n, env, heap, nx, gl⟩ := by
  refine ao_val (st := ⟨n, env, heap, nx, gl⟩) rfl rfl hd (fun _ _ M e hs => ⟨.bool (a.toList == b.toList), ?_, .c (.v _)⟩) h
  simp only [execOp, (hs.ev (by simp [Op.operands, Call.operands]) hx).bool, (hs.ev (by simp [Op.operands, Call.operands]) hy).bool]
  rfl
end
end Go.Proofs.Ythkjkhffljlidaa.Ev
/- Rules of a walk: an array as a value. Nothing here names a program. -/
namespace Go.Proofs.Ythkjkhffljlidaa.Ev
set_option linter.unusedVariables false
set_option linter.unusedSimpArgs false
open Go.RowKit
section
variable {P : Program} {ops : Array Oper} {Q : Exit → St → Prop} {X : List Oper → St → Prop} {rest : List Oper} {d : Nat} {ty : TypeId} {pos : String} {af : Array Edge} {n : Nat} {env : List (Nat × AV)} {heap : List (Nat × Option AB)} {nx : Nat} {gl : List (Nat × List CV)}
def arrTB (P : Program) (t len : Nat) : Bool :=
  match P.underlying t with
  | some (.array l e) => match tyB P e with
    | some (false, s) => l == len && s == 1
    | _ => false
  | _ => false
class ArrT (P : Program) (t : Nat) (len : outParam Nat) : Prop where
  h : arrTB P t len = true
end
end Go.Proofs.Ythkjkhffljlidaa.Ev
/- Rules of a walk: the making of an array value. Nothing here names a program. -/
namespace Go.Proofs.Ythkjkhffljlidaa.Ev
set_option linter.unusedVariables false
set_option linter.unusedSimpArgs false
open Go.RowKit
section
variable {P : Program} {ops : Array Oper} {Q : Exit → St → Prop} {X : List Oper → St → Prop} {rest : List Oper} {d : Nat} {ty : TypeId} {pos : String} {af : Array Edge} {n : Nat} {env : List (Nat × AV)} {heap : List (Nat × Option AB)} {nx : Nat} {gl : List (Nat × List CV)}
def arrbB (P : Program) (t : Nat) : Option (List (Nat × Nat) × List Value) :=
  match P.info? t, P.underlying t with
  | some it, some (.array len e) => match it.zero, P.info? e with
    | some z, some ie => some ((List.range len).map (fun i => (i * ie.size, ie.size)), z.cells.toList)
    | _, _ => none
  | _, _ => none
class ArrB (P : Program) (t : Nat) (pl : outParam (List (Nat × Nat))) (zs : outParam (List Value)) : Prop where
  h : arrbB P t = some (pl, zs)
end
end Go.Proofs.Ythkjkhffljlidaa.Ev
/- Rules of a walk: make as a quiet step, its list taken as a closed one. Nothing here names a program. -/
namespace Go.Proofs.Ythkjkhffljlidaa.Ev
set_option linter.unusedVariables false
set_option linter.unusedSimpArgs false
open Go.RowKit
section
variable {P : Program} {X : List Oper → St → Prop} {rest : List Oper} {d : Nat} {ty : TypeId} {pos : String} {af : Array Edge} {n : Nat} {env : List (Nat × AV)} {heap : List (Nat × Option AB)} {nx : Nat} {gl : List (Nat × List CV)}
end
end Go.Proofs.Ythkjkhffljlidaa.Ev
/- Rules of a walk: a list of the call's own as an element of another one: its value is named, and a box (whose content is not needed any more) keeps which list has it. Nothing here names a program. -/
namespace Go.Proofs.Ythkjkhffljlidaa.Ev
set_option linter.unusedVariables false
set_option linter.unusedSimpArgs false
open Go.RowKit
section
variable {P : Program} {ops : Array Oper} {Q : Exit → St → Prop} {st : St}
end
section
variable {P : Program} {ops : Array Oper} {Q : Exit → St → Prop} {X : List Oper → St → Prop} {rest : List Oper} {d : Nat} {ty : TypeId} {pos : String} {af : Array Edge} {n : Nat} {env : List (Nat × AV)} {heap : List (Nat × Option AB)} {nx : Nat} {gl : List (Nat × List CV)}
end
end Go.Proofs.Ythkjkhffljlidaa.Ev
/- Rules of a walk: objects: calls that change one, boxes that become one, calls that make one. Nothing here names a program. -/
namespace Go.Proofs.Ythkjkhffljlidaa.Ev
set_option linter.unusedVariables false
set_option linter.unusedSimpArgs false
open Go.RowKit
def refP : Nat → Value := fun g => .pointer (some ⟨g, 0, none⟩)
inductive OA where
  | c (x : CV)
  | o (f : Nat → Value)
  | p
def OA.rel (F : Nat → Prop) (w : World) (g : Nat) : OA → Value → Prop
  | .c x, u => RC F w x u
  | .o f, u => u = f g
  | .p, u => u = refP g
def oaOf (b : Nat) : AV → Option OA
  | .ptr b' off => bif Nat.beq b b' && Nat.beq off 0 then some .p else none
  | .ref b' f => bif Nat.beq b b' then some (.o f) else none
  | x => (clF x).map .c
def oas (b : Nat) : List AV → Option (List OA)
  | [] => some []
  | x :: l => match oaOf b x, oas b l with | some y, some ys => some (y :: ys) | _, _ => none
theorem oas_get {b : Nat} : ∀ {xs : List AV} {ys : List OA}, oas b xs = some ys → xs.length = ys.length ∧ ∀ (i : Nat) (x : AV) (y : OA), xs[i]? = some x → ys[i]? = some y → oaOf b x = some y
  | [], ys, h => by simp only [oas, Option.some.injEq] at h; subst h; exact ⟨rfl, fun i x y h => by simp at h⟩
  | x :: l, ys, h => by
    simp only [oas] at h
    split at h
    · rename_i y ys' h1 h2
      simp only [Option.some.injEq] at h; subst h
      obtain ⟨e1, e2⟩ := oas_get h2
      refine ⟨by simp [e1], fun i x' y' h3 h4 => ?_⟩
      cases i with
      | zero => simp at h3 h4; subst h3; subst h4; exact h1
      | succ i => exact e2 i x' y' (by simpa using h3) (by simpa using h4)
    · cases h
theorem clF_rc {M : Wd} {base : Nat} (hok : HeapOK M base) {y : AV} {u : Value} {z : CV} (h : RA M y u) (hz : clF y = some z) : RC M.F M.w z u :=
  cl_rc hok (F' := M.F) (fun _ h => h) (H := fun _ => none) (fun b E s l h => by cases h) h (clF_cl hz)
theorem oaOf_rel {M : Wd} {base : Nat} (hok : HeapOK M base) {b g : Nat} (hb : M.m b = .blk g) {x : AV} {u : Value} {y : OA} (h : RA M x u) (hy : oaOf b x = some y) : y.rel M.F M.w g u := by
  cases x with
  | ptr b' off =>
    simp only [oaOf] at hy
    cases hc : (Nat.beq b b' && Nat.beq off 0) with
    | false => rw [hc] at hy; cases hy
    | true =>
      rw [hc] at hy
      simp only [cond_true, Option.some.injEq] at hy; subst hy
      simp only [Bool.and_eq_true] at hc
      obtain rfl := beq_true hc.1
      obtain rfl := beq_true hc.2
      cases h with
      | ptr h => rw [hb] at h; cases h; rfl
  | ref b' f =>
    simp only [oaOf] at hy
    cases hc : Nat.beq b b' with
    | false => rw [hc] at hy; cases hy
    | true =>
      rw [hc] at hy
      simp only [cond_true, Option.some.injEq] at hy; subst hy
      obtain rfl := beq_true hc
      cases h with
      | ref h _ => rw [hb] at h; cases h; rfl
  | c x => simp only [oaOf, clF, Option.map_some, Option.some.injEq] at hy; subst hy; exact clF_rc hok h rfl
  | agg xs =>
    simp only [oaOf, Option.map_eq_some_iff] at hy
    obtain ⟨z, hz, rfl⟩ := hy
    exact clF_rc hok h hz
  | tup xs =>
    simp only [oaOf, Option.map_eq_some_iff] at hy
    obtain ⟨z, hz, rfl⟩ := hy
    exact clF_rc hok h hz
  | vec b n => simp [oaOf, clF] at hy
  | vptr b n off => simp [oaOf, clF] at hy
  | eptr xs off => simp [oaOf, clF] at hy
  | fn f xs => simp [oaOf, clF] at hy
  | ghost b n v => simp [oaOf, clF] at hy
structure OPost (w : World) (F fp : Nat → Prop) (g : Nat) (p' : ObjP) (fp' : Nat → Prop) (w' : World) : Prop where
  os : w'.os = w.os
  tape : w'.tape = w.tape
  output : w'.output = w.output
  size : w.heap.size ≤ w'.heap.size
  block : ∀ k, k < w.heap.size → ¬ fp k → w'.heap[k]? = w.heap[k]?
  holds : p'.holds w' g fp'
  root : fp' g
  lt : ∀ k, fp' k → k < w'.heap.size ∧ (fp k ∨ w.heap.size ≤ k)
def oF (w : World) (F fp fp' : Nat → Prop) (w' : World) : Nat → Prop := fun b => F b ∨ (b < w'.heap.size ∧ ¬ fp' b ∧ (fp b ∨ w.heap.size ≤ b))
def OCon (P : Program) (gl : List (Nat × List CV)) (f : FuncId) (args : List OA) (p : ObjP) (r : CV) (p' : ObjP) : Prop :=
  callableB P f = true ∧ ∀ (w : World) (F fp : Nat → Prop) (g : Nat) (vals : Array Value), (∀ b, F b → b < w.heap.size) → GlOK gl F w → p.holds w g fp → fp g → (∀ k, fp k → k < w.heap.size ∧ ¬ F k) → args.length = vals.size → (∀ (i : Nat) (x : OA) (u : Value), args[i]? = some x → vals[i]? = some u → x.rel F w g u) →
    Calls P f vals w fun e w' => ∃ v fp', e = .returned v ∧ OPost w F fp g p' fp' w' ∧ RC (oF w F fp fp' w') w' r v
section
variable {base : Nat} {w0 : W0} {st : St} {M : Wd} {a : Act}
def Wd.chg (M : Wd) (b : Nat) (p' : ObjP) (fp' : Nat → Prop) (w' : World) : Wd :=
  { m := M.m, H := fun k => if b = k then some (.obj p') else M.H k, nx := M.nx, F := oF M.w M.F (M.fp b) fp' w', w := w', fp := fun k => if k = b then fp' else M.fp k }
theorem Sim.chg (hs : Sim base w0 st M a) {b : Nat} {p p' : ObjP} (hb : M.H b = some (.obj p)) {g : Nat} (hm : M.m b = .blk g) {fp' : Nat → Prop} {w' : World} (h : OPost M.w M.F (M.fp b) g p' fp' w') :
    Sim base w0 (st.set b (.obj p')) (M.chg b p' fp' w') a ∧ Ext M (M.chg b p' fp' w') := by
  obtain ⟨g0, o1, o2, o3, o4, o5⟩ := hs.heap.obj b p hb
  rw [hm] at o1; cases o1
  let M' : Wd := M.chg b p' fp' w'
  have hH : ∀ k, M'.H k = if b = k then some (.obj p') else M.H k := fun k => rfl
  have hne : ∀ k, M'.H k ≠ none → M.H k ≠ none := fun k hk => by
    rw [hH] at hk
    by_cases h : b = k
    · subst h; rw [hb]; simp
    · rwa [if_neg h] at hk
  have hold : ∀ k, b ≠ k → ∀ x, M'.H k = some x → M.H k = some x := fun k hk x hx => by rwa [hH, if_neg hk] at hx
  have hF : ∀ k, M.F k → oF M.w M.F (M.fp b) fp' w' k ∧ w'.heap[k]? = M.w.heap[k]? := fun k hk => ⟨Or.inl hk, h.block k (hs.heap.frz k hk) (fun hf => (o4 k hf).2.2 hk)⟩
  have hext : Ext M M' := ⟨fun _ _ h => h, fun k E size' l' _ hl => by
    rw [hH] at hl
    by_cases h : b = k
    · rw [if_pos h] at hl; cases hl
    · rw [if_neg h] at hl; exact ⟨l', hl, Nat.le_refl _, fun _ => rfl⟩, Nat.le_refl _, hF⟩
  have hblk : ∀ k, b ≠ k → M.H k ≠ none → ∀ q, (M.m k).block = some q → w'.heap[q]? = M.w.heap[q]? ∧ ¬ oF M.w M.F (M.fp b) fp' w' q ∨ M.F q := fun k hk hn q hq => by
    by_cases hf : M.F q
    · exact Or.inr hf
    · have hlt := conc_lt hs.heap hn hq
      refine Or.inl ⟨h.block q hlt (fun hfp => (o5 k q (Ne.symm hk) hfp).1 hn hq), fun hh => ?_⟩
      rcases hh with hh | hh
      · exact hf hh
      · rcases hh.2.2 with hh | hh
        · exact (o5 k q (Ne.symm hk) hh).1 hn hq
        · omega
  have hfpb : M'.fp b = fp' := by simp [M', Wd.chg]
  have hfpk : ∀ k, b ≠ k → M'.fp k = M.fp k := fun k hk => by simp [M', Wd.chg, Ne.symm hk]
  refine ⟨⟨funext fun k => by rw [H_set, ← hs.H]; exact hH k, hs.nx, hs.n, fun i y hy => ?_, fun g xs hg => (hs.gl g xs hg).mono hext, ⟨?_, ?_, ?_, ?_, hs.heap.fresh, ?_, ?_⟩, ?_, Nat.le_trans hs.base h.size, hs.defs, fun k hk hlt => ?_⟩, hext⟩
  · obtain ⟨u, h1, h2⟩ := hs.env i y hy
    exact ⟨u, h1, h2.mono hext⟩
  · intro k t l hl
    have hk : b ≠ k := fun e => by rw [hH, if_pos e] at hl; cases hl
    have hl := hold k hk _ hl
    obtain ⟨g', arr, e1, e2, e3, e4, e5, e6⟩ := hs.heap.cells k t l hl
    rcases hblk k hk (by rw [hl]; simp) g' (by rw [e1]; rfl) with ⟨h1, h2⟩ | h1
    · exact ⟨g', arr, e1, e2, h2, h1.trans e4, e5, fun i x u hx hu => (e6 i x u hx hu).mono hext⟩
    · exact absurd h1 e3
  · intro k E size l hl
    have hk : b ≠ k := fun e => by rw [hH, if_pos e] at hl; cases hl
    have hl := hold k hk _ hl
    obtain ⟨v, n, cs, e1, e2, e3, e4, e5, e6⟩ := hs.heap.vec k E size l hl
    have hq : ∀ q, v.ownBlock = some q → w'.heap[q]? = M.w.heap[q]? ∧ ¬ oF M.w M.F (M.fp b) fp' w' q := fun q hq => by
      rcases hblk k hk (by rw [hl]; simp) q (by rw [e1]; exact hq) with h1 | h1
      · exact h1
      · exact absurd h1 (e6 q hq)
    refine ⟨v, n, cs, e1, e2, e3, ?_, fun i y u h1 h2 => (e5 i y u h1 h2).mono hF, fun q hv => (hq q hv).2⟩
    obtain ⟨f1, f2⟩ := e4
    refine ⟨f1, ?_⟩
    rcases f2 with f2 | ⟨g', cap, cur, rfl, g1, g2, g3⟩
    · exact Or.inl f2
    · exact Or.inr ⟨g', cap, cur, rfl, g1, (hq g' rfl).1.trans g2, g3⟩
  · intro k k' g hkk hk hk'
    exact hs.heap.sep k k' g hkk (hne k hk) (hne k' hk')
  · exact fun k hk => hs.heap.lt k (hne k hk)
  · intro k hk
    show k < w'.heap.size
    rcases hk with hk | hk
    · have := hs.heap.frz k hk; have := h.size; omega
    · exact hk.1
  · intro k q hq
    by_cases hk : b = k
    · subst hk
      rw [hH, if_pos rfl] at hq
      simp only [Option.some.injEq, AB.obj.injEq] at hq; subst hq
      refine ⟨g, hm, by rw [hfpb]; exact h.root, by rw [hfpb]; exact h.holds, fun k hk => ?_, fun b' k hbb hk => ⟨fun hb' => ?_, fun p2 hp2 => ?_⟩⟩
      · rw [hfpb] at hk
        obtain ⟨h1, h2⟩ := h.lt k hk
        refine ⟨?_, h1, fun hf => ?_⟩
        · rcases h2 with h2 | h2
          · exact (o4 k h2).1
          · exact Nat.le_trans hs.base h2
        · rcases hf with hf | hf
          · rcases h2 with h2 | h2
            · exact (o4 k h2).2.2 hf
            · have := hs.heap.frz k hf; omega
          · exact hf.2.1 hk
      · rw [hfpb] at hk
        obtain ⟨_, h2⟩ := h.lt k hk
        intro hc
        rcases h2 with h2 | h2
        · exact (o5 b' k hbb h2).1 (hne b' hb') hc
        · have := conc_lt hs.heap (hne b' hb') hc; omega
      · rw [hfpb] at hk
        rw [hfpk b' (Ne.symm hbb)]
        have hp2 := hold b' (Ne.symm hbb) _ hp2
        obtain ⟨_, h2⟩ := h.lt k hk
        intro hc
        rcases h2 with h2 | h2
        · exact (o5 b' k hbb h2).2 p2 hp2 hc
        · obtain ⟨_, _, _, _, r4, _⟩ := hs.heap.obj b' p2 hp2
          have := (r4 k hc).2.1; omega
    · have hq := hold k hk _ hq
      obtain ⟨g', e1, e2, e3, e4, e5⟩ := hs.heap.obj k q hq
      have hnfp : ∀ c, M.fp k c → ¬ M.fp b c := fun c hc => (e5 b c hk hc).2 p hb
      rw [hfpk k hk]
      refine ⟨g', e1, e2, q.stable _ _ _ _ e3 (fun c hc => h.block c (e4 c hc).2.1 (hnfp c hc)), fun c hc => ⟨(e4 c hc).1, Nat.lt_of_lt_of_le (e4 c hc).2.1 h.size, fun hf => ?_⟩, fun b' c hbb hc => ⟨fun hb' => (e5 b' c hbb hc).1 (hne b' hb'), fun p2 hp2 => ?_⟩⟩
      · rcases hf with hf | hf
        · exact (e4 c hc).2.2 hf
        · rcases hf.2.2 with hf | hf
          · exact hnfp c hc hf
          · have := (e4 c hc).2.1; omega
      · by_cases hb' : b = b'
        · subst hb'
          rw [hfpb]
          intro hf
          rcases (h.lt c hf).2 with h2 | h2
          · exact hnfp c hc h2
          · have := (e4 c hc).2.1; omega
        · rw [hfpk b' hb']
          exact (e5 b' c hbb hc).2 p2 (hold b' hb' _ hp2)
  · refine ⟨h.os.trans hs.below.os, h.tape.trans hs.below.tape, h.output.trans hs.below.output, Nat.le_trans hs.below.size h.size, fun k hk => ?_⟩
    show w'.heap[k]? = _
    have hb1 := hs.base
    rw [h.block k (by omega) (fun hf => by have := (o4 k hf).1; omega)]
    exact hs.below.block k hk
  · rcases hk with hk | hk
    · exact hs.old k hk hlt
    · rcases hk.2.2 with hk | hk
      · have := (o4 k hk).1; omega
      · have := hs.base; omega
theorem Sim.changeO (hs : Sim base w0 st M a) {b : Nat} {p p' : ObjP} (hb : M.H b = some (.obj p)) {g : Nat} (hm : M.m b = .blk g) {fp' : Nat → Prop} {w' : World} (h : OPost M.w M.F (M.fp b) g p' fp' w') :
    ∃ M', M'.w = w' ∧ M'.F = oF M.w M.F (M.fp b) fp' w' ∧ Sim base w0 (st.set b (.obj p')) M' a ∧ Ext M M' :=
  ⟨_, rfl, rfl, (hs.chg hb hm h).1, (hs.chg hb hm h).2⟩
end
section
variable {P : Program} {ops : Array Oper} {Q : Exit → St → Prop} {rest : List Oper} {st : St} {d : Nat} {ty : TypeId} {pos : String} {af : Array Edge}
theorem ao_callO {f : FuncId} {args : List Operand} {tys : Array TypeId} {ys : List AV} {zs : List OA} {r : CV} {p p' : ObjP} (b : Nat) (hcon : OCon P st.gl f zs p r p') (hys : evs st args = some ys) (hz : oas b ys = some zs) (hb : st.H b = some (.obj p)) (hd : Nat.blt d st.n = true)
    (h : AOps P ops Q rest ((st.set b (.obj p')).put d (ofC r))) : AOps P ops Q (⟨some d, .call ⟨.value (.func f), args.toArray, tys⟩, ty, pos, af, none⟩ :: rest) st := by
  intro base w0 M a hs
  have hbM : M.H b = some (.obj p) := by rw [hs.H]; exact hb
  obtain ⟨e1, e2⟩ := evs_get hys
  obtain ⟨e3, e4⟩ := oas_get hz
  obtain ⟨g, o1, o2, o3, o4, o5⟩ := hs.heap.obj b p hbM
  refine wl_enter rfl (run_call hcon.1 a M.w) (R := fun v w'' => ∃ fp', OPost M.w M.F (M.fp b) g p' fp' w'' ∧ RC (oF M.w M.F (M.fp b) fp' w'') w'' r v) (Calls.mono (hcon.2 M.w M.F (M.fp b) g _ hs.heap.frz (fun g xs hg => ?_) o3 o2 (fun k hk => (o4 k hk).2) (by simp; omega) (fun i x u hx hu => ?_)) (fun e w'' ⟨v, fp', he, hp, hrc⟩ => ⟨v, he, fp', hp, hrc⟩)) (fun v w'' hR => ?_)
  · have := hs.gl g xs hg
    generalize hq : Value.pointer (some ⟨g, 0, none⟩) = q at this ⊢
    cases this with
    | eptr cs hF hcell hr => exact .eptr cs hF hcell hr
  · have hi : i < args.length := by have := (List.getElem?_eq_some_iff.1 hx).1; omega
    obtain ⟨y, hy⟩ : ∃ y, ys[i]? = some y := ⟨_, List.getElem?_eq_getElem (by omega)⟩
    have hev := hs.ev (e2 i args[i] y (by simp [hi]) hy)
    have hu' : a.eval args[i] = u := by simpa [hi] using hu
    rw [hu'] at hev
    exact oaOf_rel hs.heap o1 hev (e4 i y x hy hx)
  · obtain ⟨fp', hp, hrc⟩ := hR
    obtain ⟨M', h1, h2, h3, h4⟩ := hs.changeO hbM o1 hp
    have := h base w0 M' _ (h3.put hd (RA.ofC (M := M') (by rw [h2, h1]; exact hrc)))
    rw [← h1]
    exact wpList_monoQ (fun e a w => Lift.ext h4) _ _ _ this
end
end Go.Proofs.Ythkjkhffljlidaa.Ev
/- Rules of a walk: a box that becomes an object, and calls that make one. Nothing here names a program. -/
namespace Go.Proofs.Ythkjkhffljlidaa.Ev
set_option linter.unusedVariables false
set_option linter.unusedSimpArgs false
open Go.RowKit
def avOf (b : Nat) : OA → AV
  | .c x => of1 x
  | .o f => .ref b f
  | .p => .ptr b 0
structure NPost (w : World) (g : Nat) (p : ObjP) (fp : Nat → Prop) (w' : World) : Prop where
  below : Below w.heap.size w w'
  holds : p.holds w' g fp
  root : fp g
  lt : ∀ k, fp k → w.heap.size ≤ k ∧ k < w'.heap.size
def nF (w : World) (F fp : Nat → Prop) (w' : World) : Nat → Prop := fun b => F b ∨ (w.heap.size ≤ b ∧ b < w'.heap.size ∧ ¬ fp b)
def NCon (P : Program) (gl : List (Nat × List CV)) (f : FuncId) (args : List CV) (rs : List OA) (p : ObjP) : Prop :=
  callableB P f = true ∧ ∀ (w : World) (F : Nat → Prop) (vals : Array Value), (∀ b, F b → b < w.heap.size) → GlOK gl F w → args.length = vals.size → (∀ (i : Nat) (x : CV) (u : Value), args[i]? = some x → vals[i]? = some u → RC F w x u) →
    Calls P f vals w fun e w' => ∃ vs g fp, e = .returned (.tuple vs) ∧ NPost w g p fp w' ∧ rs.length = vs.size ∧ ∀ (i : Nat) (x : OA) (u : Value), rs[i]? = some x → vs[i]? = some u → x.rel (nF w F fp w') w' g u ∧ (∀ fn, x = .o fn → u.oneCell' = true)
section
variable {base : Nat} {w0 : W0} {st : St} {M : Wd} {a : Act}
theorem Sim.newO (hs : Sim base w0 st M a) {g : Nat} {p : ObjP} {fp : Nat → Prop} {w' : World} (h : NPost M.w g p fp w') :
    ∃ M', M'.w = w' ∧ M'.F = nF M.w M.F fp w' ∧ M'.m M.nx = .blk g ∧ Sim base w0 (st.new (.obj p)) M' a ∧ Ext M M' := by
  let M' : Wd := { m := fun k => if k = M.nx then .blk g else M.m k, H := (st.new (.obj p)).H, nx := M.nx + 1, F := nF M.w M.F fp w', w := w', fp := fun k => if k = M.nx then fp else M.fp k }
  have hH : ∀ k, M'.H k = if M.nx = k then some (.obj p) else M.H k := fun k => by
    show (st.new _).H k = _
    rw [H_new, hs.nx, hs.H]
  have hm : M'.m M.nx = .blk g := by simp [M']
  have hm' : ∀ k, M.nx ≠ k → M'.m k = M.m k := fun k hk => by simp [M', Ne.symm hk]
  have hfp : M'.fp M.nx = fp := by simp [M']
  have hfp' : ∀ k, M.nx ≠ k → M'.fp k = M.fp k := fun k hk => by simp [M', Ne.symm hk]
  have hF : ∀ k, M.F k → nF M.w M.F fp w' k ∧ w'.heap[k]? = M.w.heap[k]? := fun k hk => ⟨Or.inl hk, h.below.block k (hs.heap.frz k hk)⟩
  have hext : Ext M M' := by
    refine ⟨fun b g' hb => ?_, fun k E size' l' hk hl => ?_, by simp [M'], hF⟩
    · rw [hm' b (fun he => hs.heap.fresh b (by omega) g' hb)]; exact hb
    · rw [hH, if_neg (by omega)] at hl
      exact ⟨l', hl, Nat.le_refl _, fun _ => hm' k (by omega)⟩
  have hnF : ∀ k, k < M.w.heap.size → nF M.w M.F fp w' k → M.F k := fun k hk hf => by
    rcases hf with hf | hf
    · exact hf
    · omega
  refine ⟨M', rfl, rfl, hm, ⟨rfl, by show M.nx + 1 = st.nx + 1; rw [hs.nx], hs.n, fun i y hy => ?_, fun g xs hg => (hs.gl g xs hg).mono hext, ⟨?_, ?_, ?_, ?_, ?_, ?_, ?_⟩, hs.below.trans (h.below.mono hs.base), Nat.le_trans hs.base h.below.size, hs.defs, fun k hk hlt => ?_⟩, hext⟩
  · obtain ⟨u, h1, h2⟩ := hs.env i y hy
    exact ⟨u, h1, h2.mono hext⟩
  · intro k t l hl
    have hk : M.nx ≠ k := fun e => by rw [hH, if_pos e] at hl; cases hl
    rw [hH, if_neg hk] at hl
    obtain ⟨g', arr, e1, e2, e3, e4, e5, e6⟩ := hs.heap.cells k t l hl
    have hlt := (Array.getElem?_eq_some_iff.1 e4).1
    exact ⟨g', arr, by rw [hm' k hk]; exact e1, e2, fun hf => e3 (hnF _ hlt hf), (h.below.block g' hlt).trans e4, e5, fun i x u hx hu => (e6 i x u hx hu).mono hext⟩
  · intro k E size l hl
    have hk : M.nx ≠ k := fun e => by rw [hH, if_pos e] at hl; cases hl
    rw [hH, if_neg hk] at hl
    obtain ⟨v, n, cs, e1, e2, e3, e4, e5, e6⟩ := hs.heap.vec k E size l hl
    have hlt : ∀ q, v.ownBlock = some q → q < M.w.heap.size := fun q hq => (World.ownsRow.lt e4 q hq).2
    refine ⟨v, n, cs, by rw [hm' k hk]; exact e1, e2, e3, ?_, fun i y u h1 h2 => (e5 i y u h1 h2).mono hF, fun q hq hf => e6 q hq (hnF _ (hlt q hq) hf)⟩
    obtain ⟨f1, f2⟩ := e4
    refine ⟨f1, ?_⟩
    rcases f2 with f2 | ⟨g', cap, cur, rfl, g1, g2, g3⟩
    · exact Or.inl f2
    · exact Or.inr ⟨g', cap, cur, rfl, g1, (h.below.block g' (hlt g' rfl)).trans g2, g3⟩
  · intro k k' q hkk hk hk' hq hq'
    rw [hH] at hk hk'
    by_cases h1 : M.nx = k
    · subst h1
      rw [hm] at hq
      simp only [Conc.block, Option.some.injEq] at hq; subst hq
      rw [if_neg hkk] at hk'
      rw [hm' k' hkk] at hq'
      have := conc_lt hs.heap hk' hq'
      have := (h.lt _ h.root).1; omega
    · rw [if_neg h1] at hk
      rw [hm' k h1] at hq
      by_cases h2 : M.nx = k'
      · subst h2
        rw [hm] at hq'
        simp only [Conc.block, Option.some.injEq] at hq'; subst hq'
        have := conc_lt hs.heap hk hq
        have := (h.lt _ h.root).1; omega
      · rw [if_neg h2] at hk'
        rw [hm' k' h2] at hq'
        exact hs.heap.sep k k' q hkk hk hk' hq hq'
  · intro k hk
    rw [hH] at hk
    show k < M.nx + 1
    by_cases h1 : M.nx = k
    · omega
    · rw [if_neg h1] at hk
      have := hs.heap.lt k hk; omega
  · intro k hk g'
    have hk : M.nx + 1 ≤ k := hk
    rw [hm' k (by omega)]
    exact hs.heap.fresh k (by omega) g'
  · intro k hk
    show k < w'.heap.size
    rcases hk with hk | hk
    · have := hs.heap.frz k hk; have := h.below.size; omega
    · exact hk.2.1
  · intro k q hq
    rw [hH] at hq
    by_cases hk : M.nx = k
    · subst hk
      rw [if_pos rfl] at hq
      simp only [Option.some.injEq, AB.obj.injEq] at hq; subst hq
      refine ⟨g, hm, by rw [hfp]; exact h.root, by rw [hfp]; exact h.holds, fun c hc => ?_, fun b' c hbb hc => ⟨fun hb' => ?_, fun p2 hp2 => ?_⟩⟩
      · rw [hfp] at hc
        obtain ⟨h1, h2⟩ := h.lt c hc
        refine ⟨Nat.le_trans hs.base h1, h2, fun hf => ?_⟩
        rcases hf with hf | hf
        · have := hs.heap.frz c hf; omega
        · exact hf.2.2 hc
      · rw [hfp] at hc
        rw [hH, if_neg (Ne.symm hbb)] at hb'
        rw [hm' b' (Ne.symm hbb)]
        intro hq
        have := conc_lt hs.heap hb' hq
        have := (h.lt c hc).1; omega
      · rw [hfp] at hc
        rw [hH, if_neg (Ne.symm hbb)] at hp2
        rw [hfp' b' (Ne.symm hbb)]
        intro hf
        obtain ⟨_, _, _, _, r4, _⟩ := hs.heap.obj b' p2 hp2
        have := (r4 c hf).2.1
        have := (h.lt c hc).1; omega
    · rw [if_neg hk] at hq
      obtain ⟨g', e1, e2, e3, e4, e5⟩ := hs.heap.obj k q hq
      rw [hfp' k hk]
      refine ⟨g', by rw [hm' k hk]; exact e1, e2, q.stable _ _ _ _ e3 (fun c hc => h.below.block c (e4 c hc).2.1), fun c hc => ⟨(e4 c hc).1, Nat.lt_of_lt_of_le (e4 c hc).2.1 h.below.size, fun hf => (e4 c hc).2.2 (hnF _ (e4 c hc).2.1 hf)⟩, fun b' c hbb hc => ⟨fun hb' => ?_, fun p2 hp2 => ?_⟩⟩
      · by_cases h2 : M.nx = b'
        · subst h2
          rw [hm]
          intro hg
          simp only [Conc.block, Option.some.injEq] at hg; subst hg
          have := (h.lt _ h.root).1
          have := (e4 _ hc).2.1; omega
        · rw [hH, if_neg h2] at hb'
          rw [hm' b' h2]
          exact (e5 b' c hbb hc).1 hb'
      · by_cases h2 : M.nx = b'
        · subst h2
          rw [hfp]
          intro hf
          have := (h.lt c hf).1
          have := (e4 c hc).2.1; omega
        · rw [hfp' b' h2]
          rw [hH, if_neg h2] at hp2
          exact (e5 b' c hbb hc).2 p2 hp2
  · rcases hk with hk | hk
    · exact hs.old k hk hlt
    · have := hs.base; omega
theorem Sim.boxObjG (hs : Sim base w0 st M a) {b t : Nat} {l : List AV} {vs : List Value} (hb : st.H b = some (.cells t l)) (hv : ∀ arr : Array Value, l.length = arr.size → (∀ (i : Nat) (x : AV) (u : Value), l[i]? = some x → arr[i]? = some u → RA M x u) → arr = vs.toArray) {p : ObjP} (hp : ∀ (w : World) (g : Nat), w.heap[g]? = some (.cells vs.toArray t (0, 0)) → p.holds w g (fun k => k = g)) :
    ∃ M', M'.w = M.w ∧ Sim base w0 (st.set b (.obj p)) M' a ∧ Ext M M' := by
  have hbM : M.H b = some (.cells t l) := by rw [hs.H]; exact hb
  obtain ⟨g, arr, g1, g2, g3, g4, g5, g6⟩ := hs.heap.cells b t _ hbM
  have harr : arr = vs.toArray := hv arr g5 g6
  subst harr
  let M' : Wd := { M with H := (st.set b (.obj p)).H, fp := fun k => if k = b then (fun c => c = g) else M.fp k }
  have hH : ∀ k, M'.H k = if b = k then some (.obj p) else M.H k := fun k => by
    show (st.set b _).H k = _
    rw [H_set, hs.H]
  have hne : ∀ k, M'.H k ≠ none → M.H k ≠ none := fun k hk => by
    rw [hH] at hk
    by_cases h : b = k
    · subst h; rw [hbM]; simp
    · rwa [if_neg h] at hk
  have hfpb : M'.fp b = (fun c => c = g) := by simp [M']
  have hfpk : ∀ k, b ≠ k → M'.fp k = M.fp k := fun k hk => by simp [M', Ne.symm hk]
  have hext : Ext M M' := ⟨fun _ _ h => h, fun k E size' l' _ hl => by
    rw [hH] at hl
    by_cases h : b = k
    · rw [if_pos h] at hl; cases hl
    · rw [if_neg h] at hl; exact ⟨l', hl, Nat.le_refl _, fun _ => rfl⟩, Nat.le_refl _, fun k hk => ⟨hk, rfl⟩⟩
  refine ⟨M', rfl, ⟨rfl, hs.nx, hs.n, fun i y hy => ?_, fun g xs hg => (hs.gl g xs hg).mono hext, ⟨?_, ?_, ?_, ?_, hs.heap.fresh, hs.heap.frz, ?_⟩, hs.below, hs.base, hs.defs, hs.old⟩, hext⟩
  · obtain ⟨u, h1, h2⟩ := hs.env i y hy
    exact ⟨u, h1, h2.mono hext⟩
  · intro k t l hl
    rw [hH] at hl
    by_cases h : b = k
    · rw [if_pos h] at hl; cases hl
    · rw [if_neg h] at hl
      obtain ⟨g, arr, g1, g2, g3, g4, g5, g6⟩ := hs.heap.cells k t l hl
      exact ⟨g, arr, g1, g2, g3, g4, g5, fun i x u hx hu => (g6 i x u hx hu).mono hext⟩
  · intro k E size l hl
    rw [hH] at hl
    by_cases h : b = k
    · rw [if_pos h] at hl; cases hl
    · rw [if_neg h] at hl
      exact hs.heap.vec k E size l hl
  · intro k k' g hkk hk hk'
    exact hs.heap.sep k k' g hkk (hne k hk) (hne k' hk')
  · exact fun k hk => hs.heap.lt k (hne k hk)
  · intro k q hq
    rw [hH] at hq
    by_cases hk : b = k
    · subst hk
      rw [if_pos rfl] at hq
      simp only [Option.some.injEq, AB.obj.injEq] at hq; subst hq
      refine ⟨g, g1, by rw [hfpb], by rw [hfpb]; exact hp _ _ g4, fun c hc => ?_, fun b' c hbb hc => ⟨fun hb' => ?_, fun p2 hp2 => ?_⟩⟩
      · rw [hfpb] at hc; subst hc
        exact ⟨g2, (Array.getElem?_eq_some_iff.1 g4).1, g3⟩
      · rw [hfpb] at hc; subst hc
        exact hs.heap.sep b b' _ (Ne.symm hbb) (by rw [hbM]; simp) (hne b' hb') (by rw [g1]; rfl)
      · rw [hfpb] at hc; subst hc
        rw [hfpk b' (Ne.symm hbb)]
        rw [hH, if_neg (Ne.symm hbb)] at hp2
        obtain ⟨_, _, _, _, _, r5⟩ := hs.heap.obj b' p2 hp2
        intro hf
        exact (r5 b _ (Ne.symm hbb) hf).1 (by rw [hbM]; simp) (by rw [g1]; rfl)
    · rw [if_neg hk] at hq
      obtain ⟨g', e1, e2, e3, e4, e5⟩ := hs.heap.obj k q hq
      rw [hfpk k hk]
      refine ⟨g', e1, e2, e3, e4, fun b' c hbb hc => ⟨fun hb' => (e5 b' c hbb hc).1 (hne b' hb'), fun p2 hp2 => ?_⟩⟩
      by_cases h2 : b = b'
      · subst h2
        rw [hfpb]
        rintro rfl
        exact (e5 b _ hbb hc).1 (by rw [hbM]; simp) (by rw [g1]; rfl)
      · rw [hfpk b' h2]
        rw [hH, if_neg h2] at hp2
        exact (e5 b' c hbb hc).2 p2 hp2
theorem Sim.boxObj (hs : Sim base w0 st M a) {b t : Nat} {vs : List Value} (hb : st.H b = some (.cells t (vs.map (fun v => .c (.v v))))) {p : ObjP} (hp : ∀ (w : World) (g : Nat), w.heap[g]? = some (.cells vs.toArray t (0, 0)) → p.holds w g (fun k => k = g)) :
    ∃ M', M'.w = M.w ∧ Sim base w0 (st.set b (.obj p)) M' a ∧ Ext M M' := by
  refine hs.boxObjG hb (fun arr g5 g6 => ?_) hp
  apply Array.ext_getElem?
  intro i
  by_cases hi : i < vs.length
  · have hia : i < arr.size := by rw [← g5]; simpa using hi
    have := (g6 i (.c (.v vs[i])) arr[i] (by simp [hi]) (by simp [hia])).bool
    simp [hia, hi, this]
  · rw [Array.getElem?_eq_none (by rw [← g5]; simp; omega), Array.getElem?_eq_none (by simp; omega)]
end
section
variable {P : Program} {ops : Array Oper} {Q : Exit → St → Prop} {rest : List Oper} {st : St} {d : Nat} {ty : TypeId} {pos : String} {af : Array Edge}
theorem avOf_ra {M : Wd} {g b : Nat} (hm : M.m b = .blk g) {x : OA} {u : Value} (h : x.rel M.F M.w g u) (ho : ∀ fn, x = .o fn → u.oneCell' = true) : RA M (avOf b x) u := by
  cases x with
  | c x =>
    have h : RC M.F M.w x u := h
    cases x with
    | agg xs => exact RA.ofC (x := .agg xs) h
    | _ => exact .c h
  | o f => cases (show u = f g from h); exact .ref hm (ho f rfl)
  | p => cases (show u = refP g from h); exact .ptr hm
theorem ao_callN {f : FuncId} {args : List Operand} {tys : Array TypeId} {ys : List AV} {zs : List CV} {rs : List OA} {p : ObjP} (hcon : NCon P st.gl f zs rs p) (hys : evs st args = some ys) (hz : cl.clL (fun _ => none) ys zs) (hd : Nat.blt d st.n = true)
    (h : AOps P ops Q rest ((st.new (.obj p)).put d (.tup (rs.map (avOf st.nx))))) : AOps P ops Q (⟨some d, .call ⟨.value (.func f), args.toArray, tys⟩, ty, pos, af, none⟩ :: rest) st := by
  intro base w0 M a hs
  obtain ⟨e1, e2⟩ := evs_get hys
  obtain ⟨e3, e4⟩ := clL_get hz
  refine wl_enter rfl (run_call hcon.1 a M.w) (R := fun v w'' => ∃ vs g fp, v = .tuple vs ∧ NPost M.w g p fp w'' ∧ rs.length = vs.size ∧ ∀ (i : Nat) (x : OA) (u : Value), rs[i]? = some x → vs[i]? = some u → x.rel (nF M.w M.F fp w'') w'' g u ∧ (∀ fn, x = .o fn → u.oneCell' = true)) (Calls.mono (hcon.2 M.w M.F _ hs.heap.frz (fun g xs hg => ?_) (by simp; omega) (fun i x u hx hu => ?_)) (fun e w'' ⟨vs, g, fp, he, hp, hrc⟩ => ⟨_, he, vs, g, fp, rfl, hp, hrc⟩)) (fun v w'' hR => ?_)
  · have := hs.gl g xs hg
    generalize hq : Value.pointer (some ⟨g, 0, none⟩) = q at this ⊢
    cases this with
    | eptr cs hF hcell hr => exact .eptr cs hF hcell hr
  · have hi : i < args.length := by have := (List.getElem?_eq_some_iff.1 hx).1; omega
    obtain ⟨y, hy⟩ : ∃ y, ys[i]? = some y := ⟨_, List.getElem?_eq_getElem (by omega)⟩
    have hev := hs.ev (e2 i args[i] y (by simp [hi]) hy)
    have hu' : a.eval args[i] = u := by simpa [hi] using hu
    rw [hu'] at hev
    exact cl_rc hs.heap (F' := M.F) (fun _ h => h) (H := fun _ => none) (fun b E s l hb => by cases hb) hev (e4 i y x hy hx)
  · obtain ⟨vs, g, fp, rfl, hp, hlen, hrel⟩ := hR
    obtain ⟨M', h1, h2, h3, h4, h5⟩ := hs.newO hp
    have hra : RA M' (.tup (rs.map (avOf st.nx))) (.tuple vs) := by
      refine .tup (by simpa using hlen) (fun i x u hx hu => ?_)
      rw [List.getElem?_map, Option.map_eq_some_iff] at hx
      obtain ⟨y, hy, rfl⟩ := hx
      obtain ⟨r1, r2⟩ := hrel i y u hy hu
      rw [← hs.nx]
      exact avOf_ra h3 (by rw [h2, h1]; exact r1) r2
    have := h base w0 M' _ (h4.put hd hra)
    rw [← h1]
    exact wpList_monoQ (fun e a w => Lift.ext h5) _ _ _ this
theorem aw_boxObj {c : Code} {n : Nat} {env : List (Nat × AV)} {heap : List (Nat × Option AB)} {nx : Nat} {gl : List (Nat × List CV)} (b : Nat) {t : Nat} {vs : List Value} {p : ObjP} (hb : St.H ⟨n, env, heap, nx, gl⟩ b = some (.cells t (vs.map (fun v => .c (.v v))))) (hp : ∀ (w : World) (g : Nat), w.heap[g]? = some (.cells vs.toArray t (0, 0)) → p.holds w g (fun k => k = g))
    (h : Awp P c Q ⟨n, env, (b, some (.obj p)) :: heap, nx, gl⟩) : Awp P c Q ⟨n, env, heap, nx, gl⟩ := by
  intro base w0 M a hs
  obtain ⟨M', h1, h2, h3⟩ := hs.boxObj hb hp
  rw [← h1]
  exact wp_mono (h base w0 M' a h2) fun e a w => Lift.ext h3
end
end Go.Proofs.Ythkjkhffljlidaa.Ev
/- Rules of a walk: strings that are joined, cut and made of bytes; calls through an interface. Nothing here names a program. -/
namespace Go.Proofs.Ythkjkhffljlidaa.Ev
set_option linter.unusedVariables false
set_option linter.unusedSimpArgs false
open Go.RowKit
section
variable {P : Program} {ops : Array Oper} {Q : Exit → St → Prop} {X : List Oper → St → Prop} {rest : List Oper} {d : Nat} {ty : TypeId} {pos : String} {af : Array Edge} {n : Nat} {env : List (Nat × AV)} {heap : List (Nat × Option AB)} {nx : Nat} {gl : List (Nat × List CV)}
theorem r_adds [W : Walk P X] {x y : Operand} {t t2 : TypeId} {a b : ByteArray} (hx : St.ev ⟨n, env, heap, nx, gl⟩ x = some (.c (.v (.string a)))) (hy : St.ev ⟨n, env, heap, nx, gl⟩ y = some (.c (.v (.string b)))) (hb : a.size + b.size ≤ 9223372036854775807) (hd : Nat.blt d n = true) (h : X rest ⟨n, (d, .c (.v (.string (a ++ b)))) :: env, heap, nx, gl⟩) : X (⟨some d, .binOp .add t x y t2, ty, pos, af, none⟩ :: rest) ⟨n, env, heap, nx, gl⟩ := by
  refine ao_val (st := ⟨n, env, heap, nx, gl⟩) rfl rfl hd (fun _ _ M e hs => ⟨.string (a ++ b), ?_, .c (.v _)⟩) h
  simp only [execOp, (hs.ev (by simp [Op.operands, Call.operands]) hx).bool, (hs.ev (by simp [Op.operands, Call.operands]) hy).bool]
  have h1 : (binOp .add t (.string a) (.string b)).run P M.w = .ok (.string (a ++ b)) M.w := by simp [binOp, run_string_add_sum M.w a b hb]
  rw [Sem.run_bind, Sem.run_bind, show (eqGuard .add t x y (.string a) (.string b)).run P M.w = .ok () M.w from rfl]
  show (((binOp .add t (.string a) (.string b)).run P M.w).andThen _) = _
  rw [h1]; rfl
theorem r_neqstr [W : Walk P X] {x y : Operand} {t t2 : TypeId} {a b : ByteArray} (hx : St.ev ⟨n, env, heap, nx, gl⟩ x = some (.c (.v (.string a)))) (hy : St.ev ⟨n, env, heap, nx, gl⟩ y = some (.c (.v (.string b)))) (hd : Nat.blt d n = true) (h : X rest ⟨n, (d, .c (.v (.bool (!(a.toList == b.toList))))) :: env, heap, nx, gl⟩) : X (⟨some d, .binOp .neq t x y t2, ty, pos, af, none⟩ :: rest) ⟨n, env, heap, nx, gl⟩ := by
  refine ao_val (st := ⟨n, env, heap, nx, gl⟩) rfl rfl hd (fun _ _ M e hs => ⟨.bool (!(a.toList == b.toList)), ?_, .c (.v _)⟩) h
  simp only [execOp, (hs.ev (by simp [Op.operands, Call.operands]) hx).bool, (hs.ev (by simp [Op.operands, Call.operands]) hy).bool]
  rfl
theorem r_cutTo [W : Walk P X] {x y : Operand} {t : TypeId} {s : ByteArray} {kk : IntKind} {idx : Int} [I : StrTy P t] (k : Nat) (hx : St.ev ⟨n, env, heap, nx, gl⟩ x = some (.c (.v (.string s)))) (hy : St.ev ⟨n, env, heap, nx, gl⟩ y = some (.c (.v (.int kk idx)))) (hk : idx = (k : Int)) (hle : k ≤ s.size) (hd : Nat.blt d n = true) (h : X rest ⟨n, (d, .c (.v (.string (s.extract 0 k)))) :: env, heap, nx, gl⟩) : X (⟨some d, .slice t x none (some y) none, ty, pos, af, none⟩ :: rest) ⟨n, env, heap, nx, gl⟩ := by
  refine ao_val (st := ⟨n, env, heap, nx, gl⟩) rfl rfl hd (fun _ _ M e hs => ⟨.string (s.extract 0 k), ?_, .c (.v _)⟩) h
  simp only [execOp, (hs.ev (by simp [Op.operands, Call.operands]) hx).bool, Option.map_some, Option.map_none, (hs.ev (by simp [Op.operands, Call.operands]) hy).bool]
  subst hk
  rw [Sem.run_bind, run_sliceAt_string M.w t _ _ _ _ I.h, run_slice_string_to_if M.w t s kk (k : Int) I.h, if_pos ⟨by omega, by omega⟩]
  simp only [Int.toNat_natCast]; rfl
theorem r_cutFrom [W : Walk P X] {x y : Operand} {t : TypeId} {s : ByteArray} {kk : IntKind} {idx : Int} [I : StrTy P t] (k : Nat) (hx : St.ev ⟨n, env, heap, nx, gl⟩ x = some (.c (.v (.string s)))) (hy : St.ev ⟨n, env, heap, nx, gl⟩ y = some (.c (.v (.int kk idx)))) (hk : idx = (k : Int)) (hle : k ≤ s.size) (hd : Nat.blt d n = true) (h : X rest ⟨n, (d, .c (.v (.string (s.extract k s.size)))) :: env, heap, nx, gl⟩) : X (⟨some d, .slice t x (some y) none none, ty, pos, af, none⟩ :: rest) ⟨n, env, heap, nx, gl⟩ := by
  refine ao_val (st := ⟨n, env, heap, nx, gl⟩) rfl rfl hd (fun _ _ M e hs => ⟨.string (s.extract k s.size), ?_, .c (.v _)⟩) h
  simp only [execOp, (hs.ev (by simp [Op.operands, Call.operands]) hx).bool, Option.map_some, Option.map_none, (hs.ev (by simp [Op.operands, Call.operands]) hy).bool]
  subst hk
  rw [Sem.run_bind, run_sliceAt_string M.w t _ _ _ _ I.h, run_slice_string_from_if M.w t s kk (k : Int) I.h, if_pos ⟨by omega, by omega⟩]
  simp only [Int.toNat_natCast]; rfl
theorem r_cutBoth [W : Walk P X] {x y z : Operand} {t : TypeId} {s : ByteArray} {kk k2 : IntKind} {i1 i2 : Int} [I : StrTy P t] (k m : Nat) (hx : St.ev ⟨n, env, heap, nx, gl⟩ x = some (.c (.v (.string s)))) (hy : St.ev ⟨n, env, heap, nx, gl⟩ y = some (.c (.v (.int kk i1)))) (hz : St.ev ⟨n, env, heap, nx, gl⟩ z = some (.c (.v (.int k2 i2)))) (hk : i1 = (k : Int)) (hm : i2 = (m : Int)) (hle : k ≤ m) (hle2 : m ≤ s.size) (hd : Nat.blt d n = true) (h : X rest ⟨n, (d, .c (.v (.string (s.extract k m)))) :: env, heap, nx, gl⟩) : X (⟨some d, .slice t x (some y) (some z) none, ty, pos, af, none⟩ :: rest) ⟨n, env, heap, nx, gl⟩ := by
  refine ao_val (st := ⟨n, env, heap, nx, gl⟩) rfl rfl hd (fun _ _ M e hs => ⟨.string (s.extract k m), ?_, .c (.v _)⟩) h
  simp only [execOp, (hs.ev (by simp [Op.operands, Call.operands]) hx).bool, Option.map_some, Option.map_none, (hs.ev (by simp [Op.operands, Call.operands]) hy).bool, (hs.ev (by simp [Op.operands, Call.operands]) hz).bool]
  subst hk; subst hm
  rw [Sem.run_bind, run_sliceAt_string M.w t _ _ _ _ I.h, run_slice_string M.w t s kk k2 (k : Int) (m : Int) I.h (by omega) (by omega) (by omega)]
  simp only [Int.toNat_natCast]; rfl
def u8C (b : UInt8) : List CV := [.v (.int .u8 (b.toNat : Int))]
instance : EncL u8C 1 := ⟨fun _ => rfl, by decide, fun _ => rfl⟩
class BytesT (P : Program) (t : Nat) : Prop where
  h : ∃ e, P.underlying t = some (.slice e) ∧ P.underlying e = some (.int .u8)
theorem rc_val {F : Nat → Prop} {w : World} {x u : Value} (h : RC F w (.v x) u) : u = x := by cases h; rfl
theorem flat_map_u8 : ∀ l : List UInt8, l.flatMap u8C = l.map fun b => .v (.int .u8 (b.toNat : Int))
  | [] => rfl
  | b :: l => by rw [List.flatMap_cons, flat_map_u8 l]; rfl
theorem flat_u8 (l : List UInt8) (j : Nat) (hj : j < l.length) : (l.flatMap u8C)[j]? = some (.v (.int .u8 (l[j].toNat : Int))) := by
  rw [flat_map_u8]; simp [hj]
theorem r_strOf [W : Walk P X] {x : Operand} {t t2 : Nat} {zs : List CV} [I : BytesT P t] [J : StrTy P t2] (l : List UInt8) (hx : St.ev ⟨n, env, heap, nx, gl⟩ x = some (.c (.lst 1 zs))) (hz : zs = l.flatMap u8C) (hne : 0 < l.length) (hd : Nat.blt d n = true) (h : X rest ⟨n, (d, .c (.v (.string ⟨l.toArray⟩))) :: env, heap, nx, gl⟩) : X (⟨some d, .convert t t2 x, ty, pos, af, none⟩ :: rest) ⟨n, env, heap, nx, gl⟩ := by
  refine ao_val (st := ⟨n, env, heap, nx, gl⟩) rfl rfl hd (fun _ _ M e hs => ⟨.string ⟨l.toArray⟩, ?_, .c (.v _)⟩) h
  obtain ⟨E, u1, u2⟩ := I.h
  have hv := hs.ev (by simp [Op.operands, Call.operands]) hx
  have hlen : zs.length = l.length * 1 := by rw [hz]; exact flat_len EncL.len _
  generalize he : e.eval x = u at hv
  cases hv with
  | c hv =>
    cases hv with
    | nil => simp at hlen; omega
    | lst cs hn hc hF hcell hr =>
      rename_i blk off m cap
      have hm : m = l.length := by omega
      subst hm
      have hcs : ∀ j (hj : j < l.length), M.w.cell? (Addr.add ⟨blk, off, none⟩ j) = some (.int .u8 (l[j].toNat : Int)) := fun j hj => by
        rw [show Addr.add ⟨blk, off, none⟩ j = ⟨blk, off + j, none⟩ from by simp [Addr.add]]
        have hq : zs[j]? = some (.v (.int .u8 (l[j].toNat : Int))) := by rw [hz]; exact flat_u8 l j hj
        have h1 := hcell j _ hq
        have h2 := hr j _ hq
        rw [rc_val h2] at h1
        exact h1
      simp only [execOp, he]
      rw [Sem.run_bind, run_convert_bytes_back M.w t t2 E ⟨blk, off, none⟩ cap l u1 u2 J.h hcs]; rfl
theorem r_strOfV [W : Walk P X] {x : Operand} {t t2 b m E : Nat} [I : BytesT P t] [J : StrTy P t2] (l : List UInt8) (hx : St.ev ⟨n, env, heap, nx, gl⟩ x = some (.vec b m)) (hH : St.H ⟨n, env, heap, nx, gl⟩ b = some (.vec E 1 (l.flatMap u8C))) (hn : l.length = m) (hne : 0 < m) (hd : Nat.blt d n = true) (h : X rest ⟨n, (d, .c (.v (.string ⟨l.toArray⟩))) :: env, heap, nx, gl⟩) : X (⟨some d, .convert t t2 x, ty, pos, af, none⟩ :: rest) ⟨n, env, heap, nx, gl⟩ := by
  refine ao_val (st := ⟨n, env, heap, nx, gl⟩) rfl rfl hd (fun _ _ M e hs => ⟨.string ⟨l.toArray⟩, ?_, .c (.v _)⟩) h
  obtain ⟨E', u1, u2⟩ := I.h
  have hv := hs.ev (by simp [Op.operands, Call.operands]) hx
  have hlen : (l.flatMap u8C).length = m * 1 := by rw [flat_len EncL.len, hn]
  generalize he : e.eval x = u at hv
  cases hv with
  | vec hb ho hh =>
    have hM : M.H b = some (.vec E 1 (l.flatMap u8C)) := hs.H _ _ hH
    obtain ⟨h1, h2⟩ := hh E 1 _ hM
    obtain ⟨v, n', cs, e1, e2, e3, e4, e5, e6⟩ := hs.sim.heap.vec b E 1 _ hM
    rw [h2 hlen] at e1; cases e1
    have hnn : m = n' := by omega
    subst hnn
    rcases e4.2 with ⟨_, hn0⟩ | ⟨g, cap, cur, rfl, f1, f2, f3, f4, f5, f6⟩
    · omega
    · subst hn
      have hcs : ∀ j (hj : j < l.length), M.w.cell? (Addr.add ⟨g, 0, none⟩ j) = some (.int .u8 (l[j].toNat : Int)) := fun j hj => by
        have hq := flat_u8 l j hj
        have hjc : j < cs.length := by rw [e4.1]; omega
        have h3 := e5 j _ cs[j] hq (by simp [hjc])
        have h4 : cs[j] = .int .u8 (l[j].toNat : Int) := rc_val h3
        rw [show Addr.add ⟨g, 0, none⟩ j = ⟨g, j, none⟩ from by
          unfold Addr.add
          split
          · rename_i h0; rw [h0]
          · simp]
        unfold World.cell?
        dsimp only
        rw [f2]
        have h5 : cur.toList[j]? = some cs[j] := by
          have : (cur.toList.take (l.length * 1))[j]? = some cs[j] := by rw [f6]; simp [hjc]
          rwa [List.getElem?_take_of_lt (by omega)] at this
        show cur[j]? = _
        rw [← Array.getElem?_toList, h5, h4]
      simp only [execOp, he]
      rw [Sem.run_bind, run_convert_bytes_back M.w t t2 E' ⟨g, 0, none⟩ cap l u1 u2 J.h hcs]; rfl
end
end Go.Proofs.Ythkjkhffljlidaa.Ev
