/- Rules of a walk: regions that draw their order and make one box. Nothing here names a program. -/
import Derived.Test.YtokkpocccgdilaaEv14
namespace Go.Proofs.Ytokkpocccgdilaa.Ev
set_option linter.unusedVariables false
set_option linter.unusedSimpArgs false
open Go.RowKit
section
variable {P : Program} {ops : Array Oper}

/-- The operation o makes a box with the contents x, wherever. -/
def AOp (P : Program) (o : Oper) (d : Nat) (x : AB) : Prop :=
  o.guard = none ∧ o.dst = some d ∧ ∀ (st : St) base w0 M a, Sim base w0 st M a → ∃ (u : Value) (c : Conc) (arr : Array Value) (t : TypeId), (execOp a.eval o).run P M.w = .ok (.value u) (M.w.alloc (.cells arr t)) ∧ Sim base w0 (st.new x) (M.new st x c (.cells arr t)) a ∧ RA (M.new st x c (.cells arr t)) (.ptr st.nx 0) u
theorem aop_alloc {d : Nat} {t : TypeId} {zs : List Value} {ty : TypeId} {pos : String} {af : Array Edge} [I : ZeroT P t zs] : AOp P ⟨some d, .alloc t, ty, pos, af, none⟩ d (.cells t (zs.map fun z => .c (.v z))) := by
  refine ⟨rfl, rfl, fun st base w0 M a hs => ?_⟩
  obtain ⟨i, z, h1, h2, h3⟩ := I.out
  refine ⟨.pointer (some ⟨M.w.heap.size, 0, none⟩), .blk M.w.heap.size, z.cells, t, ?_, hs.newB (fun g hg => by simpa [Conc.block] using hg.symm) ?_ (fun _ _ _ h => by cases h), ?_⟩
  · simp only [execOp]
    simp [Instr.alloc, zeroValue, typeInfo, h1, h2, newVar, newRow]
  · intro t' l hl
    simp only [AB.cells.injEq] at hl
    obtain ⟨rfl, rfl⟩ := hl
    subst h3
    refine ⟨rfl, rfl, by simp, fun i y u hy hu => ?_⟩
    simp only [List.getElem?_map, Array.getElem?_toList, hu, Option.map_some, Option.some.injEq] at hy
    subst hy; exact .c (.v _)
  · refine .ptr ?_
    simp [Wd.new, hs.nx]

/-- A step: a quiet one, or a box. -/
inductive DG (P : Program) (ops : Array Oper) (o : Oper) (st : St) : St → Prop
  | q {d : Nat} {y : AV} (h : DY P ops o st d y) : DG P ops o st (st.put d y)
  | a {d : Nat} {x : AB} (h : AOp P o d x) (hd : Nat.blt d st.n = true) : DG P ops o st ((st.new x).put d (.ptr st.nx 0))
theorem StEq.new {s t : St} (h : StEq s t) (x : AB) : StEq (s.new x) (t.new x) :=
  ⟨h.n, by simp only [St.new]; rw [h.heap, h.nx], by simp only [St.new]; rw [h.nx], h.gl, h.env⟩
theorem DG.eq {o : Oper} {s t s' : St} (h : DG P ops o s s') (e : StEq s t) : ∃ t', DG P ops o t t' ∧ StEq s' t' := by
  cases h with
  | q h => exact ⟨_, .q (h.eq e), e.put _ _⟩
  | a h hd => exact ⟨_, .a h (by rw [← e.n]; exact hd), by rw [e.nx]; exact (e.new _).put _ _⟩
/-- No block is known beyond the next one. -/
def Fr (st : St) : Prop := ∀ b, st.nx ≤ b → st.H b = none
def frB (heap : List (Nat × Option AB)) (nx : Nat) : Bool := heap.all fun p => Nat.blt p.1 nx
theorem fr_of {st : St} (h : frB st.heap st.nx = true) : Fr st := by
  intro b hb
  have : look b st.heap = none := by
    have h : ∀ p ∈ st.heap, p.1 < st.nx := fun p hp => blt_true (List.all_eq_true.1 h p hp)
    generalize st.heap = l at h
    induction l with
    | nil => rfl
    | cons p l ih =>
      rw [show p :: l = (p.1, p.2) :: l from rfl, look_cons, if_neg (by have := h p (by simp); omega)]
      exact ih (fun q hq => h q (by simp [hq]))
  unfold St.H; rw [this]
theorem Fr.put {st : St} (h : Fr st) (d : Nat) (y : AV) : Fr (st.put d y) := h
theorem Fr.new {st : St} (h : Fr st) (x : AB) : Fr (st.new x) := fun b hb => by
  have : st.nx + 1 ≤ b := hb
  rw [H_new, if_neg (by omega)]; exact h b (by omega)
theorem DY.new {o : Oper} {s : St} {d : Nat} {y : AV} (h : DY P ops o s d y) (hf : Fr s) (x : AB) : DY P ops o (s.new x) d y :=
  h.of rfl (fun b z hz => by
    rw [H_new, if_neg]
    · exact hz
    · intro e; subst e
      rw [hf _ (Nat.le_refl _)] at hz; cases hz) rfl (fun x _ => by cases x <;> rfl) (fun _ _ _ _ _ => rfl)

def DAny2 (P : Program) (md : Region.Mode) (ops : Array Oper) (n : Nat) (L : Array Bool → St → Prop) : Nat → Array Bool → St → Prop
  | 0, listed, st => L listed st
  | f + 1, listed, st => Region.ready md ops listed ≠ [] ∧ ∀ i ∈ Region.ready md ops listed, i < n ∧ ∃ o st', ops[i]? = some o ∧ DG P ops o st st' ∧ DAny2 P md ops n L f (listed.setIfInBounds i true) st'

variable {md : Region.Mode} {n : Nat} {L : Array Bool → St → Prop}
theorem DAny2.eq (hL : ∀ listed s t, StEq s t → L listed s → L listed t) : ∀ (f : Nat) (listed : Array Bool) (s t : St), StEq s t → DAny2 P md ops n L f listed s → DAny2 P md ops n L f listed t
  | 0, listed, s, t, e, h => hL listed s t e h
  | f + 1, listed, s, t, e, h => ⟨h.1, fun i hi => by
    obtain ⟨h1, o, s', h2, h3, h4⟩ := h.2 i hi
    obtain ⟨t', h5, h6⟩ := h3.eq e
    exact ⟨h1, o, t', h2, h5, DAny2.eq hL f _ _ _ h6 h4⟩⟩

theorem DAny2_last {i : Nat} {oi : Oper} (hi : ops[i]? = some oi) (hin : i < n) (hdone : ∀ listed st, L listed st → ∀ j ∈ Region.ready md ops listed, n ≤ j)
    (htail : ∀ listed, HeadInv md ops n listed → ∀ i, i < n → listed.getD i true = false → ∀ t, n ≤ t → t ∉ Region.ready md ops listed)
    (listed : Array Bool) (st st' : St) (inv : HeadInv md ops n listed) (hr : i ∈ Region.ready md ops listed) (hy : DG P ops oi st st') (H : L (listed.setIfInBounds i true) st') : DAny2 P md ops n L 1 listed st := by
  refine ⟨fun h0 => (by rw [h0] at hr; cases hr), fun j hj => ?_⟩
  have hjn : j < n := Nat.lt_of_not_le fun hc => htail listed inv i hin (mem_ready.1 hr).1 j hc hj
  by_cases hji : j = i
  · subst hji; exact ⟨hjn, oi, st', hi, hy, H⟩
  · have := hdone _ _ H j (ready_mono hj hji)
    omega

theorem DAny2_first {i : Nat} {oi : Oper} (hi : ops[i]? = some oi) (hin : i < n) (hL : ∀ listed s t, StEq s t → L listed s → L listed t) (hdone : ∀ listed st, L listed st → ∀ j ∈ Region.ready md ops listed, n ≤ j)
    (htail : ∀ listed, HeadInv md ops n listed → ∀ i, i < n → listed.getD i true = false → ∀ t, n ≤ t → t ∉ Region.ready md ops listed) :
    ∀ (f : Nat) (listed : Array Bool) (st : St) (d : Nat) (y : AV), Fr st → HeadInv md ops n listed →
      (∀ j oj, ops[j]? = some oj → j ≠ i → listed.getD j true = false → (∀ e ∈ oj.after, Region.binds md e = true → e.on ≠ i) → oi.apart ops oj = true) →
      i ∈ Region.ready md ops listed → DY P ops oi st d y → DAny2 P md ops n L f (listed.setIfInBounds i true) (st.put d y) → DAny2 P md ops n L (f + 1) listed st := by
  intro f
  induction f with
  | zero =>
    intro listed st d y _ inv hfree hr hy H
    exact DAny2_last hi hin hdone htail listed st _ inv hr (.q hy) H
  | succ f ih =>
    intro listed st d y fr inv hfree hr hy H
    refine ⟨fun h0 => (by rw [h0] at hr; cases hr), fun j hj => ?_⟩
    have hjn : j < n := Nat.lt_of_not_le fun hc => htail listed inv i hin (mem_ready.1 hr).1 j hc hj
    by_cases hji : j = i
    · subst hji; exact ⟨hjn, oi, _, hi, .q hy, H⟩
    · obtain ⟨_, oj, sj, h2, h3, h4⟩ := H.2 j (ready_mono hj hji)
      obtain ⟨hjun, oj', hoj, hall⟩ := mem_ready.1 hj
      have hoo : oj' = oj := Option.some.inj (hoj.symm.trans h2)
      subst hoo
      have hnot : ∀ e ∈ oj'.after, Region.binds md e = true → e.on ≠ i := fun e he hb heq => by
        have h1 := hall e he hb
        have h0 := getD_both (mem_ready.1 hr).1
        rw [heq, h0] at h1
        cases h1
      obtain ⟨a1, a2, a3⟩ := Oper.apart_spec (hfree j oj' hoj hji hjun hnot)
      have hdi : oi.dst = some d := hy.1
      have hfree' : ∀ k ok, ops[k]? = some ok → k ≠ i → (listed.setIfInBounds j true).getD k true = false → (∀ e ∈ ok.after, Region.binds md e = true → e.on ≠ i) → oi.apart ops ok = true := fun k ok hk hki hun hno => by
        refine hfree k ok hk hki ?_ hno
        by_cases hjk : j = k
        · subst hjk; exact hjun
        · rw [getD_set_ne true hjk] at hun; exact hun
      cases h3 with
      | @q dj yj h3 =>
        have hdj : oj'.dst = some dj := h3.1
        have hne : d ≠ dj := fun e => a2 d hdi (by rw [hdj, e])
        refine ⟨hjn, oj', _, h2, .q (h3.unput (a1 d hdi)), ?_⟩
        refine ih (listed.setIfInBounds j true) (st.put dj yj) d y (fr.put _ _) (inv.set hj hjn) hfree' (ready_mono hr (Ne.symm hji)) (hy.put yj (a3 dj hdj)) ?_
        rw [Array.setIfInBounds_comm _ _ hji]
        exact DAny2.eq hL f _ _ _ (StEq.comm st hne y yj) h4
      | @a dj x h3 hd3 =>
        have hdj : oj'.dst = some dj := h3.2.1
        have hne : d ≠ dj := fun e => a2 d hdi (by rw [hdj, e])
        refine ⟨hjn, oj', _, h2, .a h3 hd3, ?_⟩
        refine ih (listed.setIfInBounds j true) ((st.new x).put dj (.ptr st.nx 0)) d y ((fr.new x).put _ _) (inv.set hj hjn) hfree' (ready_mono hr (Ne.symm hji)) ((hy.new fr x).put _ (a3 dj hdj)) ?_
        rw [Array.setIfInBounds_comm _ _ hji]
        exact DAny2.eq hL f _ _ _ (StEq.comm (st.new x) hne y _) h4

theorem DAny2_lex {g : Nat} {Lq : St → Prop} {oa : Oper} {da : Nat} {x : AB} (hoa : ops[n]? = some oa) (ha : AOp P oa da x) (hLq : ∀ s t, StEq s t → Lq s → Lq t)
    (htail : ∀ listed, HeadInv md ops (n + 1) listed → ∀ i, i < n + 1 → listed.getD i true = false → ∀ t, n + 1 ≤ t → t ∉ Region.ready md ops listed) :
    ∀ (l : List Oper) (k : Nat) (listed : Array Bool) (st : St), (∀ j, j < l.length → l[j]? = ops[k + j]?) → k + l.length = n → HeadInv md ops (n + 1) listed → Fr st →
    Region.lexHead md ops g (l.length + 1) k listed = true → DSeq P ops (fun s => Nat.blt da s.n = true ∧ Lq ((s.new x).put da (.ptr s.nx 0))) l st → DAny2 P md ops (n + 1) (fun listed' st' => Region.seqB md ops g (n + 1) listed' = true ∧ Lq st') (l.length + 1) listed st
  | [], k, listed, st, _, hk, inv, _, hB, h => by
    have : k = n := by simpa using hk
    subst this
    simp only [List.length_nil, Region.lexHead, Bool.and_eq_true] at hB
    obtain ⟨⟨hr, hf⟩, hB'⟩ := hB
    have hr' : k ∈ Region.ready md ops listed := by simpa using hr
    exact DAny2_last hoa (Nat.lt_succ_self _) (fun listed' st' hL => seqB_ready hL.1) htail listed st _ inv hr' (.a ha h.1) ⟨hB', h.2⟩
  | o :: l, k, listed, st, hl, hk, inv, fr, hB, h => by
    have h0 : ops[k]? = some o := by simpa using (hl 0 (by simp)).symm
    simp only [List.length_cons] at hB
    unfold Region.lexHead at hB
    simp only [Bool.and_eq_true] at hB
    obtain ⟨⟨hr, hf⟩, hB'⟩ := hB
    have hkn : k < n + 1 := by simp only [List.length_cons] at hk; omega
    have hr' : k ∈ Region.ready md ops listed := by simpa using hr
    obtain ⟨d, y, hy, hK⟩ := h
    exact DAny2_first h0 hkn (fun listed s t e hh => ⟨hh.1, hLq s t e hh.2⟩) (fun listed' st' hL => seqB_ready hL.1) htail (l.length + 1) listed st d y fr inv (Region.free_spec h0 hf) hr' hy
      (DAny2_lex hoa ha hLq htail l (k + 1) _ _ (fun j hj => by have := hl (j + 1) (by simp; omega); simpa [Nat.add_assoc, Nat.add_comm 1 j] using this) (by simp only [List.length_cons] at hk; omega) (inv.set hr' hkn) (fr.put _ _) hB' hK)

theorem DG.wp {base : Nat} {w0 : W0} {st st' : St} {M : Wd} {a : Act} {i : Nat} {o : Oper} {K : Act → World → Prop} {Q' : Exit → Act → World → Prop} (hi : ops[i]? = some o) (h : DG P ops o st st') (hs : Sim base w0 st M a)
    (hK : ∀ M' a', Ext M M' → Sim base w0 st' M' a' → K a' M'.w) : wpOp P ops Q' i K a M.w := by
  cases h with
  | q h => exact h.wp hi hs hK
  | @a d x h hd =>
    obtain ⟨g, hdst, hrun⟩ := h
    obtain ⟨u, c, arr, t, e1, e2, e3⟩ := hrun st base w0 M a hs
    unfold wpOp
    simp only [hi]
    rw [if_pos (by simp [Region.wanted, g])]
    refine .inl ?_
    unfold Oper.wp
    rw [e1]
    have := hK (M.new st x c (.cells arr t)) (a.put o.dst u) (hs.extNew x c _) (by rw [hdst]; exact e2.put hd e3)
    exact this
theorem wpAny_of_DAny2 {base : Nat} {w0 : W0} {M0 : Wd} {Q : Exit → St → Prop} {g : Nat} (hL : ∀ listed st M a, L listed st → Sim base w0 st M a → Ext M0 M → wpAny P md ops (Lift base w0 M0 Q) g listed a M.w) :
    ∀ (f : Nat) (listed : Array Bool) (st : St) (M : Wd) (a : Act), Sim base w0 st M a → Ext M0 M → DAny2 P md ops n L f listed st → wpAny P md ops (Lift base w0 M0 Q) (f + g) listed a M.w
  | 0, listed, st, M, a, hs, he, h => by rw [Nat.zero_add]; exact hL _ _ _ _ h hs he
  | f + 1, listed, st, M, a, hs, he, h => by
    rw [show f + 1 + g = (f + g) + 1 by omega]
    refine ⟨fun h0 => absurd h0 h.1, fun i hi => ?_⟩
    obtain ⟨_, o, st', h1, h2, h3⟩ := h.2 i hi
    exact h2.wp h1 hs fun M' a' hext hs' => wpAny_of_DAny2 hL f _ _ M' a' hs' (he.trans hext) h3

/-- A region that draws its order: its first n operations are quiet, the next makes a box, the others follow one after the other. -/
theorem aw_drawA {id : Nat} {l : List Oper} {Q : Exit → St → Prop} {st : St} [m : Mixed P] (n : Nat) {oa : Oper} {da : Nat} {x : AB} (hB : drawB l.toArray (n + 1) = true) (hoa : l[n]? = some oa) (ha : AOp P oa da x) (hf : frB st.heap st.nx = true)
    (h : DSeq P l.toArray (fun s => Nat.blt da s.n = true ∧ AOps P l.toArray Q (l.drop (n + 1)) ((s.new x).put da (.ptr s.nx 0))) (l.take n) st) : Awp P (.region id l.toArray true) Q st := by
  simp only [drawB, Bool.and_eq_true, Bool.or_eq_true] at hB
  obtain ⟨⟨⟨hsel, hle⟩, hcase⟩, hlex⟩ := hB
  have hle := Nat.le_of_ble_eq_true hle
  have hle' : n + 1 ≤ l.length := by simpa using hle
  have htl : (l.take n).length = n := by simp; omega
  have hdl : (l.drop (n + 1)).length = l.toArray.size - (n + 1) := by simp
  have inv0 : HeadInv .any l.toArray (n + 1) (Array.replicate l.toArray.size false) :=
    ⟨by simp, fun j oj _ hl => (by rw [getD_replicate_false] at hl; cases hl), fun t _ ht => getD_in (by simpa using ht) (getD_replicate_false _ _)⟩
  have htail : ∀ listed, HeadInv .any l.toArray (n + 1) listed → ∀ i, i < n + 1 → listed.getD i true = false → ∀ t, n + 1 ≤ t → t ∉ Region.ready .any l.toArray listed := by
    intro listed inv i hi hun t ht
    rcases hcase with he | ⟨hs, hc⟩
    · intro hr
      obtain ⟨_, o, ho, _⟩ := mem_ready.1 hr
      have := (Array.getElem?_eq_some_iff.1 ho).1
      have := beq_true he
      omega
    · rcases Nat.lt_or_ge (n + 1) l.toArray.size with hn | hn
      · exact tail_waits hs hc hn inv _ i rfl hi hun t ht
      · intro hr
        obtain ⟨_, o, ho, _⟩ := mem_ready.1 hr
        have := (Array.getElem?_eq_some_iff.1 ho).1
        omega
  intro base w0 M a hs
  have H := DAny2_lex (P := P) (md := .any) (ops := l.toArray) (n := n) (g := l.toArray.size - (n + 1)) (Lq := AOps P l.toArray Q (l.drop (n + 1))) (by simpa using hoa) ha (fun s t e hh => fun base w0 M a hs' => hh base w0 M a (e.symm.sim hs')) htail (l.take n) 0 _ st (fun j hj => by
    have hj' : j < n := by rw [htl] at hj; exact hj
    simp [hj']) (by simpa using htl) inv0 (fr_of hf) (by rw [htl]; exact hlex) h
  refine wp_region_any m.h ?_
  have := wpAny_of_DAny2 (P := P) (md := .any) (ops := l.toArray) (n := n + 1) (base := base) (w0 := w0) (M0 := M) (Q := Q) (g := l.toArray.size - (n + 1)) (fun listed st' M' a' hL hs' he => by
    have h1 := wpList_monoQ (fun e a w => Lift.ext he) _ _ _ (hL.2 base w0 M' a' hs')
    have h2 := wpAny_of_seq (md := .any) (l.drop (n + 1)) (n + 1) listed a' M'.w (fun j => by simp) (by rw [hdl]; exact hL.1) h1
    rwa [hdl] at h2) ((l.take n).length + 1) (Array.replicate l.toArray.size false) st M.drew a hs.drew (Ext.drew M) H
  rw [htl] at this
  rw [show n + 1 + (l.toArray.size - (n + 1)) = l.toArray.size by omega] at this
  exact this
theorem ds_nilA {da nn nx : Nat} {x : AB} {tl : List Oper} {env : List (Nat × AV)} {heap : List (Nat × Option AB)} {gl : List (Nat × List CV)} {Q : Exit → St → Prop} (h1 : Nat.blt da nn = true) (h2 : AOps P ops Q tl ⟨nn, (da, .ptr nx 0) :: env, (nx, some x) :: heap, nx + 1, gl⟩) : DSeq P ops (fun s => Nat.blt da s.n = true ∧ AOps P ops Q tl ((s.new x).put da (.ptr s.nx 0))) [] ⟨nn, env, heap, nx, gl⟩ := ⟨h1, h2⟩
end
end Go.Proofs.Ytokkpocccgdilaa.Ev
