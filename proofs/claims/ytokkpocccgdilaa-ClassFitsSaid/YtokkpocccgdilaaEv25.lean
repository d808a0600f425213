/- Rules of a walk: regions that draw their order, store into lists while addresses are still computed. Nothing here names a program. -/
import Derived.Test.YtokkpocccgdilaaEv24
namespace Go.Proofs.Ytokkpocccgdilaa.Ev
set_option linter.unusedVariables false
set_option linter.unusedSimpArgs false
open Go.RowKit
section
variable {P : Program} {ops : Array Oper} {n : Nat}

inductive DG4 (P : Program) (ops : Array Oper) (bs : List Nat) (o : Oper) (st : St) : St → Prop
  | q {d : Nat} {y : AV} (h : DY P ops o st d y) : DG4 P ops bs o st (st.put d y)
  | s {b : Nat} {x : AB} (hb : b ∈ bs) (hlt : b < st.nx) (h : SStep P ops o st b x) : DG4 P ops bs o st (st.set b x)
  | a {d : Nat} {x : AB} (h : AOp P o d x) (hd : Nat.blt d st.n = true) : DG4 P ops bs o st ((st.new x).put d (.ptr st.nx 0))
variable {bs : List Nat}
theorem DG4.eq {o : Oper} {s t s' : St} (h : DG4 P ops bs o s s') (e : StEq2 s t) : ∃ t', DG4 P ops bs o t t' ∧ StEq2 s' t' := by
  cases h with
  | q h => exact ⟨_, .q (h.eq2 e), e.put _ _⟩
  | s hb hlt h => exact ⟨_, .s hb (by rw [← e.nx]; exact hlt) (h.of e.n e.gl (e.H _) (fun z _ => e.ev z)), e.set _ _⟩
  | a h hd => exact ⟨_, .a h (by rw [← e.n]; exact hd), by rw [e.nx]; exact (e.new _).put _ _⟩

def DAny4 (P : Program) (ops : Array Oper) (bs : List Nat) (L : Array Bool → St → Prop) : Nat → Array Bool → St → Prop
  | 0, listed, st => L listed st
  | f + 1, listed, st => Region.ready .any ops listed ≠ [] ∧ ∀ i ∈ Region.ready .any ops listed, ∃ o st', ops[i]? = some o ∧ DG4 P ops bs o st st' ∧ DAny4 P ops bs L f (listed.setIfInBounds i true) st'
variable {L : Array Bool → St → Prop}
theorem DAny4.eq (hL : ∀ listed s t, StEq2 s t → L listed s → L listed t) : ∀ (f : Nat) (listed : Array Bool) (s t : St), StEq2 s t → DAny4 P ops bs L f listed s → DAny4 P ops bs L f listed t
  | 0, listed, s, t, e, h => hL listed s t e h
  | f + 1, listed, s, t, e, h => ⟨h.1, fun i hi => by
    obtain ⟨o, s', h2, h3, h4⟩ := h.2 i hi
    obtain ⟨t', h5, h6⟩ := h3.eq e
    exact ⟨o, t', h2, h5, DAny4.eq hL f _ _ _ h6 h4⟩⟩
/-- The operation waits for i. -/
def upB (ops : Array Oper) : Nat → Nat → Oper → Bool
  | 0, _, _ => false
  | f + 1, i, o => o.after.toList.any fun e => Region.binds .any e && (Nat.beq e.on i || match ops[e.on]? with | some o' => upB ops f i o' | none => false)
/-- What is listed has all that it waits for. -/
def Cl (ops : Array Oper) (listed : Array Bool) : Prop := ∀ (j : Nat) (oj : Oper), ops[j]? = some oj → listed.getD j false = true → ∀ e ∈ oj.after, Region.binds .any e = true → listed.getD e.on false = true
theorem up_listed {listed : Array Bool} (cl : Cl ops listed) {i : Nat} : ∀ (f : Nat) (o : Oper), upB ops f i o = true → (∀ e ∈ o.after, Region.binds .any e = true → listed.getD e.on false = true) → listed.getD i false = true
  | 0, o, h, _ => by cases h
  | f + 1, o, h, ha => by
    unfold upB at h
    simp only [List.any_eq_true, Bool.and_eq_true, Bool.or_eq_true] at h
    obtain ⟨e, h1, h2, h3⟩ := h
    have he := ha e (by simpa using h1) h2
    rcases h3 with h3 | h3
    · rw [← beq_true h3]; exact he
    · split at h3
      · rename_i o' ho
        exact up_listed cl f o' h3 (cl _ _ ho he)
      · cases h3
theorem Cl.set {listed : Array Bool} (cl : Cl ops listed) {i : Nat} (hr : i ∈ Region.ready .any ops listed) : Cl ops (listed.setIfInBounds i true) := by
  obtain ⟨h1, o, h2, h3⟩ := mem_ready.1 hr
  have mono : ∀ j, listed.getD j false = true → (listed.setIfInBounds i true).getD j false = true := fun j hj => by
    by_cases he : i = j
    · subst he
      have := getD_both h1
      rw [this] at hj; cases hj
    · rw [getD_set_ne false he]; exact hj
  intro j oj hj hl e he hb
  by_cases hij : i = j
  · subst hij
    have : oj = o := Option.some.inj (hj.symm.trans h2)
    subst this
    exact mono _ (h3 e he hb)
  · rw [getD_set_ne false hij] at hl
    exact mono _ (cl j oj hj hl e he hb)
theorem cl_0 (n : Nat) : Cl ops (Array.replicate n false) := fun j _ _ hl => by rw [getD_replicate_false] at hl; cases hl
/-- What does not look at the boxes bs, or what all stores wait for. -/
def Loose (P : Program) (ops : Array Oper) (bs : List Nat) (i : Nat) (o : Oper) (st : St) (d : Nat) (y : AV) : Prop :=
  DY P ops o (st.hide bs) d y ∨ (DY P ops o st d y ∧ ∀ (k : Nat) (ok : Oper), ops[k]? = some ok → ok.dst = none → upB ops 8 i ok = true)
theorem unhide {o : Oper} {st : St} {d : Nat} {y : AV} (h : DY P ops o (st.hide bs) d y) : DY P ops o st d y :=
  h.of rfl (fun b z hz => by
    rw [H_hide] at hz
    split at hz
    · cases hz
    · exact hz) rfl (fun z _ => by cases z <;> rfl) (fun _ _ _ _ _ => rfl)
theorem Loose.dy {i : Nat} {o : Oper} {st : St} {d : Nat} {y : AV} (h : Loose P ops bs i o st d y) : DY P ops o st d y := by
  rcases h with h | h
  · exact unhide h
  · exact h.1
theorem DAny4_first {i : Nat} {oi : Oper} (hi : ops[i]? = some oi) (hL : ∀ listed s t, StEq2 s t → L listed s → L listed t) (hdone : ∀ listed st, L listed st → Region.ready .any ops listed = []) :
    ∀ (f : Nat) (listed : Array Bool) (st : St) (d : Nat) (y : AV), Cl ops listed → Fr st →
      (∀ j oj, ops[j]? = some oj → j ≠ i → listed.getD j true = false → (∀ e ∈ oj.after, Region.binds .any e = true → e.on ≠ i) → oi.apart ops oj = true) →
      i ∈ Region.ready .any ops listed → Loose P ops bs i oi st d y → DAny4 P ops bs L f (listed.setIfInBounds i true) (st.put d y) → DAny4 P ops bs L (f + 1) listed st := by
  intro f
  induction f with
  | zero =>
    intro listed st d y cl fr hfree hr hy H
    refine ⟨fun h0 => (by rw [h0] at hr; cases hr), fun j hj => ?_⟩
    by_cases hji : j = i
    · subst hji; exact ⟨oi, _, hi, .q hy.dy, H⟩
    · have := ready_mono hj hji
      rw [hdone _ _ H] at this; cases this
  | succ f ih =>
    intro listed st d y cl fr hfree hr hy H
    refine ⟨fun h0 => (by rw [h0] at hr; cases hr), fun j hj => ?_⟩
    by_cases hji : j = i
    · subst hji; exact ⟨oi, _, hi, .q hy.dy, H⟩
    · obtain ⟨oj, sj, h2, h3, h4⟩ := H.2 j (ready_mono hj hji)
      obtain ⟨hjun, oj', hoj, hall⟩ := mem_ready.1 hj
      have hoo : oj' = oj := Option.some.inj (hoj.symm.trans h2)
      subst hoo
      have hnot : ∀ e ∈ oj'.after, Region.binds .any e = true → e.on ≠ i := fun e he hb heq => by
        have h1 := hall e he hb
        have h0 := getD_both (mem_ready.1 hr).1
        rw [heq, h0] at h1
        cases h1
      obtain ⟨a1, a2, a3⟩ := Oper.apart_spec (hfree j oj' hoj hji hjun hnot)
      have hdi : oi.dst = some d := hy.dy.1
      have hfree' : ∀ k ok, ops[k]? = some ok → k ≠ i → (listed.setIfInBounds j true).getD k true = false → (∀ e ∈ ok.after, Region.binds .any e = true → e.on ≠ i) → oi.apart ops ok = true := fun k ok hk hki hun hno => by
        refine hfree k ok hk hki ?_ hno
        by_cases hjk : j = k
        · subst hjk; exact hjun
        · rw [getD_set_ne true hjk] at hun; exact hun
      cases h3 with
      | @q dj yj h3 =>
        have hdj : oj'.dst = some dj := h3.1
        have hne : d ≠ dj := fun e => a2 d hdi (by rw [hdj, e])
        have h3' : DY P ops oj' st dj yj := h3.unput (a1 d hdi)
        have hy' : Loose P ops bs i oi (st.put dj yj) d y := hy.imp (fun h => DY.put (s := st.hide bs) h yj (a3 dj hdj)) (fun ⟨h, b⟩ => ⟨h.put yj (a3 dj hdj), b⟩)
        refine ⟨oj', _, h2, .q h3', ?_⟩
        refine ih (listed.setIfInBounds j true) (st.put dj yj) d y (cl.set hj) (fr.put _ _) hfree' (ready_mono hr (Ne.symm hji)) hy' ?_
        rw [Array.setIfInBounds_comm _ _ hji]
        exact DAny4.eq hL f _ _ _ (StEq2.comm st hne y yj) h4
      | @a dj x h3 hd3 =>
        have hdj : oj'.dst = some dj := h3.2.1
        have hne : d ≠ dj := fun e => a2 d hdi (by rw [hdj, e])
        have hy1 : DY P ops oi (st.hide bs) d y → DY P ops oi ((st.new x).hide bs) d y := fun hy => hy.of rfl (fun b' z hz => by
          rw [H_hide] at hz ⊢
          by_cases hm : b' ∈ bs
          · rw [if_pos hm] at hz; cases hz
          · rw [if_neg hm] at hz ⊢
            rw [H_new, if_neg]
            · exact hz
            · intro e; subst e; rw [fr _ (Nat.le_refl _)] at hz; cases hz) rfl (fun z _ => by cases z <;> rfl) (fun _ _ _ _ _ => rfl)
        have hy' : Loose P ops bs i oi ((st.new x).put dj (.ptr st.nx 0)) d y := hy.imp (fun h => DY.put (s := (st.new x).hide bs) (hy1 h) _ (a3 dj hdj)) (fun ⟨h, b⟩ => ⟨(h.new fr x).put _ (a3 dj hdj), b⟩)
        refine ⟨oj', _, h2, .a h3 hd3, ?_⟩
        refine ih (listed.setIfInBounds j true) ((st.new x).put dj (.ptr st.nx 0)) d y (cl.set hj) ((fr.new x).put _ _) hfree' (ready_mono hr (Ne.symm hji)) hy' ?_
        rw [Array.setIfInBounds_comm _ _ hji]
        exact DAny4.eq hL f _ _ _ (StEq2.comm (st.new x) hne y _) h4
      | @s b x hb hlt h3 =>
        obtain ⟨l1, l2⟩ := looks_ne (a1 d hdi)
        rcases hy with hy | ⟨_, hbar⟩
        rotate_left
        · have := up_listed cl 8 oj' (hbar j oj' hoj h3.2.1) hall
          rw [getD_both (mem_ready.1 hr).1] at this; cases this
        refine ⟨oj', _, h2, .s hb hlt (h3.of rfl rfl rfl (fun z hz => ev_put (l1 z hz))), ?_⟩
        refine ih (listed.setIfInBounds j true) (st.set b x) d y (cl.set hj) (fr.set hlt x) hfree' (ready_mono hr (Ne.symm hji)) (Or.inl (hy.of rfl (fun b' z hz => ?_) rfl (fun z _ => by cases z <;> rfl) (fun _ _ _ _ _ => rfl))) ?_
        · rw [H_hide] at hz ⊢
          by_cases hm : b' ∈ bs
          · rw [if_pos hm] at hz; cases hz
          · rw [if_neg hm] at hz ⊢
            rw [H_set, if_neg (fun e => hm (by rw [← e]; exact hb))]; exact hz
        · rw [Array.setIfInBounds_comm _ _ hji]
          exact h4
theorem DG4.wp {base : Nat} {w0 : W0} {st st' : St} {M : Wd} {a : Act} {i : Nat} {o : Oper} {K : Act → World → Prop} {Q' : Exit → Act → World → Prop} (hi : ops[i]? = some o) (h : DG4 P ops bs o st st') (hs : Sim base w0 st M a)
    (hK : ∀ M' a', Ext M M' → Sim base w0 st' M' a' → K a' M'.w) : wpOp P ops Q' i K a M.w := by
  cases h with
  | q h => exact h.wp hi hs hK
  | @a d x h hd =>
    obtain ⟨g, hdst, hrun⟩ := h
    obtain ⟨u, c, arr, t, e1, e2, e3⟩ := hrun st base w0 M a hs
    unfold wpOp
    simp only [hi]
    rw [if_pos (by simp [Region.wanted, g])]
    refine .inl ?_
    unfold Oper.wp
    rw [e1]
    have := hK (M.new st x c (.cells arr t)) (a.put o.dst u) (hs.extNew x c _) (by rw [hdst]; exact e2.put hd e3)
    exact this
  | @s b x hb hlt h =>
    have hl := h.2.2 st rfl rfl rfl (fun _ _ => rfl) base w0 M a hs
    have hw : Region.wanted o (yielded ops a.tmps) = true := by simp [Region.wanted, h.1]
    unfold wpList at hl
    rw [if_pos hw] at hl
    unfold wpOp
    simp only [hi]
    rw [if_pos hw]
    rcases hl with hl | ⟨_, a', w', M', st', _, _, _, hf⟩
    · refine .inl (upon_mono2 (fun a' w' hk => ?_) (fun e a' w' hne hq => ?_) hl)
      · obtain ⟨M', st', e1, e2, e3, e4⟩ := hk
        subst e1
        have e4 : st' = _ := e4
        subst e4
        exact hK M' a' e3 e2
      · obtain ⟨M', st', e1, e2, e3, e4⟩ := hq
        cases e <;> first | exact absurd rfl hne | exact e4.elim
    · exact hf.elim
theorem wpAny_of_DAny4 {base : Nat} {w0 : W0} {M0 : Wd} {Q : Exit → St → Prop} (hL : ∀ listed st M a, L listed st → Sim base w0 st M a → Ext M0 M → wpAny P .any ops (Lift base w0 M0 Q) 0 listed a M.w) :
    ∀ (f : Nat) (listed : Array Bool) (st : St) (M : Wd) (a : Act), Sim base w0 st M a → Ext M0 M → DAny4 P ops bs L f listed st → wpAny P .any ops (Lift base w0 M0 Q) f listed a M.w
  | 0, listed, st, M, a, hs, he, h => hL _ _ _ _ h hs he
  | f + 1, listed, st, M, a, hs, he, h => by
    refine ⟨fun h0 => absurd h0 h.1, fun i hi => ?_⟩
    obtain ⟨o, st', h1, h2, h3⟩ := h.2 i hi
    exact h2.wp h1 hs fun M' a' hext hs' => wpAny_of_DAny4 hL f _ _ M' a' hs' (he.trans hext) h3

def endsV (P : Program) (ops : Array Oper) (Q : Exit → St → Prop) : Array Bool → St → Prop := fun listed st => Region.ready .any ops listed = [] ∧ AOps P ops Q [] st
def setAllV : List Nat → Array Bool → Array Bool
  | [], listed => listed
  | i :: is, listed => setAllV is (listed.setIfInBounds i true)
theorem endsV_eq {Q : Exit → St → Prop} : ∀ listed s t, StEq2 s t → endsV P ops Q listed s → endsV P ops Q listed t := fun _ _ _ e hh => ⟨hh.1, fun base w0 M a hs' => hh.2 base w0 M a (e.symm.sim hs')⟩
theorem DAny4_ord {k : Nat} {Q : Exit → St → Prop} {hp : List (Nat × Option AB)} : ∀ (is : List Nat) (listed : Array Bool) (st : St), st.heap = hp → Cl ops listed → Fr st → ordB .any ops (fun _ => true) is listed = true →
    DSeq P ops (fun s => DAny4 P ops bs (endsV P ops Q) k (setAllV is listed) { s with heap := hp }) (pk ops.toList is) (st.hide bs) → DAny4 P ops bs (endsV P ops Q) (is.length + k) listed st
  | [], listed, st, hhp, _, _, _, h => by
    rw [List.length_nil, Nat.zero_add]
    have h : DAny4 P ops bs (endsV P ops Q) k listed { st.hide bs with heap := hp } := h
    rw [← hhp] at h
    exact h
  | i :: is, listed, st, hhp, cl, fr, hB, h => by
    unfold ordB at hB
    simp only [Bool.and_eq_true] at hB
    obtain ⟨⟨hr, hf⟩, hB'⟩ := hB
    have hr' : i ∈ Region.ready .any ops listed := by simpa using hr
    obtain ⟨_, o, h0, _⟩ := mem_ready.1 hr'
    rw [pk_cons (by simpa using h0)] at h
    obtain ⟨d, y, hy, hK⟩ := h
    have := DAny4_first h0 endsV_eq (fun listed' st' hL => hL.1) (is.length + k) listed st d y cl fr (Region.free_spec h0 hf) hr' (Or.inl hy)
      (DAny4_ord is _ (st.put d y) hhp (cl.set hr') (fr.put _ _) hB' hK)
    rw [List.length_cons, show is.length + 1 + k = is.length + k + 1 by omega]
    exact this
def barB (ops : Array Oper) (i : Nat) : Bool := ops.toList.all fun o => o.dst.isSome || upB ops 8 i o
theorem bar_of {i : Nat} (h : barB ops i = true) : ∀ (k : Nat) (ok : Oper), ops[k]? = some ok → ok.dst = none → upB ops 8 i ok = true := by
  intro k ok hk hd
  have hm : ok ∈ ops.toList := by
    obtain ⟨hl, he⟩ := Array.getElem?_eq_some_iff.1 hk
    rw [← he]; exact Array.getElem_mem_toList hl
  have := List.all_eq_true.1 h ok hm
  rw [hd] at this
  simpa using this
theorem DAny4_ord1 {k : Nat} {Q : Exit → St → Prop} {E : St → Prop} {rest : Array Bool → Bool} {hp : List (Nat × Option AB)} : ∀ (is : List Nat) (listed : Array Bool) (st : St), (∀ st, Cl ops (setAllV is listed) → Fr st → st.heap = hp → rest (setAllV is listed) = true → E st → DAny4 P ops bs (endsV P ops Q) k (setAllV is listed) st) → Cl ops listed → Fr st → st.heap = hp → is.all (barB ops) = true → ordB .any ops rest is listed = true →
    DSeq P ops E (pk ops.toList is) st → DAny4 P ops bs (endsV P ops Q) (is.length + k) listed st
  | [], listed, st, hE, cl, fr, hhp, _, hB, h => by
    rw [List.length_nil, Nat.zero_add]
    exact hE st cl fr hhp hB h
  | i :: is, listed, st, hE, cl, fr, hhp, hb, hB, h => by
    unfold ordB at hB
    simp only [Bool.and_eq_true] at hB
    obtain ⟨⟨hr, hf⟩, hB'⟩ := hB
    simp only [List.all_cons, Bool.and_eq_true] at hb
    have hr' : i ∈ Region.ready .any ops listed := by simpa using hr
    obtain ⟨_, o, h0, _⟩ := mem_ready.1 hr'
    rw [pk_cons (by simpa using h0)] at h
    obtain ⟨d, y, hy, hK⟩ := h
    have := DAny4_first h0 endsV_eq (fun listed' st' hL => hL.1) (is.length + k) listed st d y cl fr (Region.free_spec h0 hf) hr' (Or.inr ⟨hy, bar_of hb.1⟩)
      (DAny4_ord1 is _ (st.put d y) hE (cl.set hr') (fr.put _ _) hhp hb.2 hB' hK)
    rw [List.length_cons, show is.length + 1 + k = is.length + k + 1 by omega]
    exact this
def drawVB (ops : Array Oper) (is js : List Nat) (k : Nat) : Bool := Region.noSelect ops && Nat.beq (is.length + (js.length + k)) ops.size && is.all (barB ops) && ordB .any ops (fun listed => ordB .any ops (fun _ => true) js listed) is (Array.replicate ops.size false)
/-- A region that draws its order: the operations is are quiet, and all stores wait for them; js are quiet and read nothing of the boxes bs; the others are quiet, make boxes or store into bs, in whatever order. -/
theorem aw_drawV {id : Nat} {l : List Oper} {Q : Exit → St → Prop} {nn nx : Nat} {env : List (Nat × AV)} {heap : List (Nat × Option AB)} {gl : List (Nat × List CV)} [m : Mixed P] (bs is js : List Nat) (k : Nat) (listed0 : Array Bool) (hB : drawVB l.toArray is js k = true) (h0 : listed0 = setAllV js (setAllV is (Array.replicate l.length false))) (hf : frB heap nx = true)
    (h : DSeq P l.toArray (fun s => DSeq P l.toArray (fun s => DAny4 P l.toArray bs (endsV P l.toArray Q) k listed0 { s with heap := heap }) (pk l js) { s with heap := bs.map (fun b => (b, none)) ++ heap }) (pk l is) ⟨nn, env, heap, nx, gl⟩) : Awp P (.region id l.toArray true) Q ⟨nn, env, heap, nx, gl⟩ := by
  simp only [drawVB, Bool.and_eq_true] at hB
  obtain ⟨⟨⟨hsel, hlen⟩, hbar⟩, hord⟩ := hB
  have hlen := beq_true hlen
  intro base w0 M a hs
  subst h0
  have hsz : l.length = l.toArray.size := by simp
  rw [hsz] at h
  have H := DAny4_ord1 (P := P) (ops := l.toArray) (bs := bs) (k := js.length + k) (Q := Q) (hp := heap) (rest := fun listed => ordB .any l.toArray (fun _ => true) js listed) (E := fun s => DSeq P l.toArray (fun s => DAny4 P l.toArray bs (endsV P l.toArray Q) k (setAllV js (setAllV is (Array.replicate l.toArray.size false))) { s with heap := heap }) (pk l js) { s with heap := bs.map (fun b => (b, none)) ++ heap }) is _ ⟨nn, env, heap, nx, gl⟩
    (fun st cl fr hhp hB hE => DAny4_ord (hp := heap) js _ st hhp cl fr hB (by
      have e : st.hide bs = { st with heap := bs.map (fun b => (b, none)) ++ heap } := by unfold St.hide; rw [hhp]
      rw [e]; exact hE)) (cl_0 _) (fr_of hf) rfl hbar hord h
  refine wp_region_any m.h ?_
  have := wpAny_of_DAny4 (P := P) (ops := l.toArray) (bs := bs) (base := base) (w0 := w0) (M0 := M) (Q := Q) (fun listed st' M' a' hL hs' he => by
    have h1 := wpList_monoQ (fun e a w => Lift.ext he) _ _ _ (hL.2 base w0 M' a' hs')
    exact ⟨hL.1, h1⟩) (is.length + (js.length + k)) (Array.replicate l.toArray.size false) _ M.drew a hs.drew (Ext.drew M) H
  rw [hlen] at this
  exact this
theorem ds_nilV1 {nn nx : Nat} {env : List (Nat × AV)} {heap' heap2 : List (Nat × Option AB)} {gl : List (Nat × List CV)} {E : St → Prop} {qs : List Oper} (h : DSeq P ops E qs ⟨nn, env, heap2, nx, gl⟩) : DSeq P ops (fun s => DSeq P ops E qs { s with heap := heap2 }) [] ⟨nn, env, heap', nx, gl⟩ := h
section
variable {i nn nx k : Nat} {env : List (Nat × AV)} {heap : List (Nat × Option AB)} {gl : List (Nat × List CV)} {listed : Array Bool} {ty : TypeId} {pos : String} {af : Array Edge}
/-- What may be drawn next. -/
def D4 (P : Program) (ops : Array Oper) (bs : List Nat) (L : Array Bool → St → Prop) (k i : Nat) (listed : Array Bool) (st : St) : Prop :=
  ∃ o st', ops[i]? = some o ∧ DG4 P ops bs o st st' ∧ DAny4 P ops bs L k (listed.setIfInBounds i true) st'
theorem ds_nilV {heap' : List (Nat × Option AB)} (h : DAny4 P ops bs L k listed ⟨nn, env, heap, nx, gl⟩) : DSeq P ops (fun s => DAny4 P ops bs L k listed { s with heap := heap }) [] ⟨nn, env, heap', nx, gl⟩ := h
theorem d4_step {st : St} (is : List Nat) (hr : Region.ready .any ops listed = is) (hne : is.isEmpty = false) (h : ∀ i ∈ is, D4 P ops bs L k i listed st) : DAny4 P ops bs L (k + 1) listed st :=
  ⟨fun h0 => (by rw [hr] at h0; subst h0; cases hne), fun i hi => h i (by rw [← hr]; exact hi)⟩
theorem d4_none {st : St} : ∀ i ∈ ([] : List Nat), D4 P ops bs L k i listed st := fun _ h => by cases h
theorem d4_nil {Q : Exit → St → Prop} {st : St} (hr : Region.ready .any ops listed = []) (h : AOps P ops Q [] st) : DAny4 P ops bs (endsV P ops Q) 0 listed st := ⟨hr, h⟩
theorem d4_a {d : Nat} {t : TypeId} {zs : List Value} (hi : ops[i]? = some ⟨some d, .alloc t, ty, pos, af, none⟩) (I : ZeroT P t zs) (hd : Nat.blt d nn = true) (h : DAny4 P ops bs L k (listed.setIfInBounds i true) ⟨nn, (d, .ptr nx 0) :: env, (nx, some (.cells t (zs.map fun z => .c (.v z)))) :: heap, nx + 1, gl⟩) : D4 P ops bs L k i listed ⟨nn, env, heap, nx, gl⟩ :=
  ⟨_, _, hi, .a (d := d) (x := .cells t (zs.map fun z => .c (.v z))) (aop_alloc (I := I)) hd, h⟩
theorem d4_pa {x z : Operand} {t n' b off : Nat} {ag : Bool} {t' : TypeId} {l ys : List AV} (hi : ops[i]? = some ⟨none, .store t x z, ty, pos, af, none⟩) (I : TyC P t ag n') (hx : St.ev ⟨nn, env, heap, nx, gl⟩ x = some (.ptr b off)) (hz : St.ev ⟨nn, env, heap, nx, gl⟩ z = some (.agg ys)) (hc : ys.all AV.cellB = true) (h1 : ys.length = n') (hH : St.H ⟨nn, env, heap, nx, gl⟩ b = some (.cells t' l)) (hl : Nat.ble (off + n') l.length = true) (hb : bs.contains b = true) (hlt : Nat.blt b nx = true)
    (h : DAny4 P ops bs L k (listed.setIfInBounds i true) ⟨nn, env, (b, some (.cells t' (splice l ys off))) :: heap, nx, gl⟩) : D4 P ops bs L k i listed ⟨nn, env, heap, nx, gl⟩ :=
  ⟨_, _, hi, .s (b := b) (x := .cells t' (splice l ys off)) (by simpa using hb) (blt_true hlt) ⟨rfl, rfl, fun s e1 e2 e3 e4 => ao_store_pa (l := l) (t' := t') (st := s) ((e4 x (by simp [Op.operands])).trans hx) ((e4 z (by simp [Op.operands])).trans hz) hc h1 (e3.trans hH) hl (ao_nil (only_normal rfl))⟩, h⟩
theorem d4_q {l : List Oper} {st : St} (hlt : Nat.blt i l.length = true) (h : DSeq P l.toArray (fun s => DAny4 P l.toArray bs L k (listed.setIfInBounds i true) s) (pk l [i]) st) : D4 P l.toArray bs L k i listed st := by
  have hlt := blt_true hlt
  rw [pk_cons (List.getElem?_eq_getElem hlt)] at h
  obtain ⟨d, y, hy, hK⟩ := h
  exact ⟨_, _, by simp [hlt], .q hy, hK⟩
theorem ds_nilV2 {st : St} (h : DAny4 P ops bs L k listed st) : DSeq P ops (fun s => DAny4 P ops bs L k listed s) [] st := h
theorem d4_v {α : Type} {enc : α → List CV} {x z : Operand} {t m b n' k' E size : Nat} {ag : Bool} {l : List α} {y : AV} {ys : List CV} (x0 : α) (hi : ops[i]? = some ⟨none, .store t x z, ty, pos, af, none⟩) (I : TyC P t ag m) (hx : St.ev ⟨nn, env, heap, nx, gl⟩ x = some (.vptr b n' (k' * size))) (hH : St.H ⟨nn, env, heap, nx, gl⟩ b = some (.vec E size (l.flatMap enc))) (J : EncL enc size) (hn : l.length = n') (hk : k' < l.length) (hz : St.ev ⟨nn, env, heap, nx, gl⟩ z = some y) (hy : cvL y = some ys) (hm : ys.length = m) (hxe : enc x0 = ys) (hb : bs.contains b = true) (hlt : Nat.blt b nx = true)
    (h : DAny4 P ops bs L k (listed.setIfInBounds i true) ⟨nn, env, (b, some (.vec E size ((l.set k' x0).flatMap enc))) :: heap, nx, gl⟩) : D4 P ops bs L k i listed ⟨nn, env, heap, nx, gl⟩ :=
  ⟨_, _, hi, .s (b := b) (x := .vec E size ((l.set k' x0).flatMap enc)) (by simpa using hb) (blt_true hlt) ⟨rfl, rfl, fun s e1 e2 e3 e4 => ao_store_v (st := s) x0 ((e4 x (by simp [Op.operands])).trans hx) (e3.trans hH) J hn hk ((e4 z (by simp [Op.operands])).trans hz) hy hm hxe (ao_nil (only_normal rfl))⟩, h⟩
theorem d4_p {x z : Operand} {t n' b off : Nat} {ag : Bool} {t' : TypeId} {l : List AV} {y : AV} (hi : ops[i]? = some ⟨none, .store t x z, ty, pos, af, none⟩) (I : TyC P t ag n') (hx : St.ev ⟨nn, env, heap, nx, gl⟩ x = some (.ptr b off)) (hz : St.ev ⟨nn, env, heap, nx, gl⟩ z = some y) (hc : y.cellB = true) (h1 : n' = 1) (hH : St.H ⟨nn, env, heap, nx, gl⟩ b = some (.cells t' l)) (hl : Nat.blt off l.length = true) (hb : bs.contains b = true) (hlt : Nat.blt b nx = true)
    (h : DAny4 P ops bs L k (listed.setIfInBounds i true) ⟨nn, env, (b, some (.cells t' (l.set off y))) :: heap, nx, gl⟩) : D4 P ops bs L k i listed ⟨nn, env, heap, nx, gl⟩ :=
  ⟨_, _, hi, .s (b := b) (x := .cells t' (l.set off y)) (by simpa using hb) (blt_true hlt) ⟨rfl, rfl, fun s e1 e2 e3 e4 => ao_store_p (l := l) (t' := t') (st := s) ((e4 x (by simp [Op.operands])).trans hx) ((e4 z (by simp [Op.operands])).trans hz) hc h1 (e3.trans hH) hl (ao_nil (only_normal rfl))⟩, h⟩
end
end
end Go.Proofs.Ytokkpocccgdilaa.Ev
