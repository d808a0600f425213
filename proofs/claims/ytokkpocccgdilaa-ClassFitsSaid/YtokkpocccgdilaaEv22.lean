/- Rules of a walk: regions that draw their order, walked in an order that is given, with up to two boxes. Nothing here names a program. -/
import Derived.Test.YtokkpocccgdilaaEv19
namespace Go.Proofs.Ytokkpocccgdilaa.Ev
set_option linter.unusedVariables false
set_option linter.unusedSimpArgs false
open Go.RowKit
section
variable {P : Program} {ops : Array Oper} {md : Region.Mode} {n : Nat}

def ordB (md : Region.Mode) (ops : Array Oper) (fin : Array Bool → Bool) : List Nat → Array Bool → Bool
  | [], listed => fin listed
  | i :: is, listed => (Region.ready md ops listed).contains i && Region.free md ops listed i && ordB md ops fin is (listed.setIfInBounds i true)
def finA (md : Region.Mode) (ops : Array Oper) (g n ia : Nat) (listed : Array Bool) : Bool := (Region.ready md ops listed).contains ia && Region.seqB md ops g n (listed.setIfInBounds ia true)
def finAA (md : Region.Mode) (ops : Array Oper) (g n ia ib : Nat) (listed : Array Bool) : Bool :=
  (Region.ready md ops listed).contains ia && (Region.ready md ops (listed.setIfInBounds ia true)).contains ib && (Region.ready md ops listed).all (fun i => Nat.beq i ia || Nat.beq i ib) && Region.seqB md ops g n ((listed.setIfInBounds ia true).setIfInBounds ib true)
def pk : List Oper → List Nat → List Oper
  | _, [] => []
  | l, i :: is => match l.drop i with
    | o :: _ => o :: pk l is
    | [] => pk l is
theorem pk_cons {l : List Oper} {i : Nat} {is : List Nat} {o : Oper} (h : l[i]? = some o) : pk l (i :: is) = o :: pk l is := by
  have hi := (List.getElem?_eq_some_iff.1 h)
  obtain ⟨hi, he⟩ := hi
  show (match l.drop i with | o :: _ => o :: pk l is | [] => pk l is) = _
  rw [List.drop_eq_getElem_cons hi, he]
def drawPB (ops : Array Oper) (n k : Nat) (is : List Nat) (fin : Array Bool → Bool) : Bool :=
  Region.noSelect ops && Nat.ble n ops.size && (Nat.beq n ops.size || (Region.sinkB .any ops n && Region.chainB .any ops n)) && is.all (fun i => Nat.blt i n) && Nat.beq (is.length + k) n && ordB .any ops fin is (Array.replicate ops.size false)

/-- The quiet operations in the order that is given; what is left is known by E. -/
theorem DAny2_ord {g k : Nat} {Lq : St → Prop} {fin : Array Bool → Bool} {E : St → Prop} (hLq : ∀ s t, StEq s t → Lq s → Lq t)
    (htail : ∀ listed, HeadInv md ops n listed → ∀ i, i < n → listed.getD i true = false → ∀ t, n ≤ t → t ∉ Region.ready md ops listed)
    (hfin : ∀ listed st, HeadInv md ops n listed → Fr st → fin listed = true → E st → DAny2 P md ops n (fun listed' st' => Region.seqB md ops g n listed' = true ∧ Lq st') k listed st) :
    ∀ (is : List Nat) (listed : Array Bool) (st : St), (∀ i ∈ is, i < n) → HeadInv md ops n listed → Fr st → ordB md ops fin is listed = true → DSeq P ops E (pk ops.toList is) st →
    DAny2 P md ops n (fun listed' st' => Region.seqB md ops g n listed' = true ∧ Lq st') (is.length + k) listed st
  | [], listed, st, _, inv, fr, hB, h => by rw [List.length_nil, Nat.zero_add]; exact hfin listed st inv fr hB h
  | i :: is, listed, st, hn, inv, fr, hB, h => by
    unfold ordB at hB
    simp only [Bool.and_eq_true] at hB
    obtain ⟨⟨hr, hf⟩, hB'⟩ := hB
    have hr' : i ∈ Region.ready md ops listed := by simpa using hr
    obtain ⟨_, o, h0, _⟩ := mem_ready.1 hr'
    have h0' : ops.toList[i]? = some o := by simpa using h0
    have hin : i < n := hn i (by simp)
    rw [pk_cons h0'] at h
    obtain ⟨d, y, hy, hK⟩ := h
    have := DAny2_first h0 hin (fun listed s t e hh => ⟨hh.1, hLq s t e hh.2⟩) (fun listed' st' hL => seqB_ready hL.1) htail (is.length + k) listed st d y fr inv (Region.free_spec h0 hf) hr' hy
      (DAny2_ord hLq htail hfin is _ _ (fun j hj => hn j (by simp [hj])) (inv.set hr' hin) (fr.put _ _) hB' hK)
    rw [List.length_cons, show is.length + 1 + k = is.length + k + 1 by omega]
    exact this

theorem aw_ord {id : Nat} {l : List Oper} {Q : Exit → St → Prop} {st : St} [m : Mixed P] (n k : Nat) (is : List Nat) {fin : Array Bool → Bool} {E : St → Prop} (hB : drawPB l.toArray n k is fin = true) (hf : frB st.heap st.nx = true)
    (hfin : (∀ listed, HeadInv .any l.toArray n listed → ∀ i, i < n → listed.getD i true = false → ∀ t, n ≤ t → t ∉ Region.ready .any l.toArray listed) →
      ∀ listed st, HeadInv .any l.toArray n listed → Fr st → fin listed = true → E st → DAny2 P .any l.toArray n (fun listed' st' => Region.seqB .any l.toArray (l.length - n) n listed' = true ∧ AOps P l.toArray Q (l.drop n) st') k listed st)
    (h : DSeq P l.toArray E (pk l is) st) : Awp P (.region id l.toArray true) Q st := by
  simp only [drawPB, Bool.and_eq_true, Bool.or_eq_true] at hB
  obtain ⟨⟨⟨⟨⟨hsel, hle⟩, hcase⟩, hall⟩, hlen⟩, hord⟩ := hB
  have hle := Nat.le_of_ble_eq_true hle
  have hle' : n ≤ l.length := by simpa using hle
  have hlen := beq_true hlen
  have hdl : (l.drop n).length = l.length - n := by simp
  have inv0 : HeadInv .any l.toArray n (Array.replicate l.toArray.size false) :=
    ⟨by simp, fun j oj _ hl => (by rw [getD_replicate_false] at hl; cases hl), fun t _ ht => getD_in (by simpa using ht) (getD_replicate_false _ _)⟩
  have htail : ∀ listed, HeadInv .any l.toArray n listed → ∀ i, i < n → listed.getD i true = false → ∀ t, n ≤ t → t ∉ Region.ready .any l.toArray listed := by
    intro listed inv i hi hun t ht
    rcases hcase with he | ⟨hs, hc⟩
    · intro hr
      obtain ⟨_, o, ho, _⟩ := mem_ready.1 hr
      have := (Array.getElem?_eq_some_iff.1 ho).1
      have := beq_true he
      omega
    · rcases Nat.lt_or_ge n l.toArray.size with hn | hn
      · exact tail_waits hs hc hn inv _ i rfl hi hun t ht
      · intro hr
        obtain ⟨_, o, ho, _⟩ := mem_ready.1 hr
        have := (Array.getElem?_eq_some_iff.1 ho).1
        omega
  intro base w0 M a hs
  have H := DAny2_ord (P := P) (md := .any) (ops := l.toArray) (n := n) (g := l.length - n) (k := k) (Lq := AOps P l.toArray Q (l.drop n)) (E := E) (fun s t e hh => fun base w0 M a hs' => hh base w0 M a (e.symm.sim hs')) htail (hfin htail) is _ st
    (fun i hi => blt_true (List.all_eq_true.1 hall i hi)) inv0 (fr_of hf) hord h
  refine wp_region_any m.h ?_
  have := wpAny_of_DAny2 (P := P) (md := .any) (ops := l.toArray) (n := n) (base := base) (w0 := w0) (M0 := M) (Q := Q) (g := l.length - n) (fun listed st' M' a' hL hs' he => by
    have h1 := wpList_monoQ (fun e a w => Lift.ext he) _ _ _ (hL.2 base w0 M' a' hs')
    have h2 := wpAny_of_seq (md := .any) (l.drop n) n listed a' M'.w (fun j => by simp) (by rw [hdl]; exact hL.1) h1
    rwa [hdl] at h2) (is.length + k) (Array.replicate l.toArray.size false) st M.drew a hs.drew (Ext.drew M) H
  rw [hlen, show n + (l.length - n) = l.toArray.size by simp; omega] at this
  exact this
/-- All but the last operations quiet. -/
theorem aw_drawP {id : Nat} {l : List Oper} {Q : Exit → St → Prop} {st : St} [m : Mixed P] (n : Nat) (is : List Nat) (hB : drawPB l.toArray n 0 is (Region.seqB .any l.toArray (l.length - n) n) = true) (hf : frB st.heap st.nx = true)
    (h : DSeq P l.toArray (AOps P l.toArray Q (l.drop n)) (pk l is) st) : Awp P (.region id l.toArray true) Q st :=
  aw_ord n 0 is hB hf (fun _ _ _ _ _ hs hE => ⟨hs, hE⟩) h
def finP (ops : Array Oper) (g n ia : Nat) (js : List Nat) (listed : Array Bool) : Bool := (match Region.ready .any ops listed with | [i] => Nat.beq i ia | _ => false) && js.all (fun i => Nat.blt i n) && ordB .any ops (Region.seqB .any ops g n) js (listed.setIfInBounds ia true)
/-- One of them makes a box; some quiet operations wait for it. -/
theorem aw_drawPA {id : Nat} {l : List Oper} {Q : Exit → St → Prop} {st : St} [m : Mixed P] (n k : Nat) (is : List Nat) (ia : Nat) (js : List Nat) {oa : Oper} {da : Nat} {x : AB} (hB : drawPB l.toArray n k is (finP l.toArray (l.length - n) n ia js) = true) (hk : Nat.beq k (js.length + 1) = true) (hia : Nat.blt ia n = true) (hoa : l[ia]? = some oa) (ha : AOp P oa da x) (hf : frB st.heap st.nx = true)
    (h : DSeq P l.toArray (fun s => Nat.blt da s.n = true ∧ DSeq P l.toArray (AOps P l.toArray Q (l.drop n)) (pk l js) ((s.new x).put da (.ptr s.nx 0))) (pk l is) st) : Awp P (.region id l.toArray true) Q st :=
  aw_ord n k is hB hf (fun htail listed st' inv fr hfi hE => by
    simp only [finP, Bool.and_eq_true] at hfi
    obtain ⟨⟨f1, f2⟩, f3⟩ := hfi
    have hr : Region.ready .any l.toArray listed = [ia] := by
      generalize Region.ready .any l.toArray listed = r at f1
      match r, f1 with
      | [i], f1 => rw [beq_true f1]
    have hr' : ia ∈ Region.ready .any l.toArray listed := by rw [hr]; simp
    have := DAny2_ord (P := P) (md := .any) (ops := l.toArray) (n := n) (g := l.length - n) (k := 0) (Lq := AOps P l.toArray Q (l.drop n)) (E := AOps P l.toArray Q (l.drop n)) (fun s t e hh => fun base w0 M a hs' => hh base w0 M a (e.symm.sim hs')) htail (fun _ _ _ _ hs hE => ⟨hs, hE⟩) js _ _
      (fun i hi => blt_true (List.all_eq_true.1 f2 i hi)) (inv.set hr' (blt_true hia)) ((fr.new x).put da (.ptr st'.nx 0)) f3 hE.2
    rw [beq_true hk]
    refine ⟨fun h0 => (by rw [h0] at hr'; cases hr'), fun i hi => ?_⟩
    rw [hr] at hi
    obtain rfl : i = ia := by simpa using hi
    exact ⟨blt_true hia, oa, _, by simpa using hoa, .a ha hE.1, this⟩) h
theorem ds_nilPA {da nn nx : Nat} {x : AB} {qs : List Oper} {env : List (Nat × AV)} {heap : List (Nat × Option AB)} {gl : List (Nat × List CV)} {L : St → Prop} (h1 : Nat.blt da nn = true) (h2 : DSeq P ops L qs ⟨nn, (da, .ptr nx 0) :: env, (nx, some x) :: heap, nx + 1, gl⟩) : DSeq P ops (fun s => Nat.blt da s.n = true ∧ DSeq P ops L qs ((s.new x).put da (.ptr s.nx 0))) [] ⟨nn, env, heap, nx, gl⟩ := ⟨h1, h2⟩
/-- Two of them make a box each. -/
theorem aw_drawPAA {id : Nat} {l : List Oper} {Q : Exit → St → Prop} {st : St} [m : Mixed P] (n : Nat) (is : List Nat) (ia ib : Nat) {oa ob : Oper} {da db : Nat} {xa xb : AB} (hB : drawPB l.toArray n 2 is (finAA .any l.toArray (l.length - n) n ia ib) = true) (hia : Nat.blt ia n = true) (hib : Nat.blt ib n = true) (hne : Nat.beq ia ib = false) (hoa : l[ia]? = some oa) (ha : AOp P oa da xa) (hob : l[ib]? = some ob) (hb : AOp P ob db xb) (hf : frB st.heap st.nx = true)
    (h : DSeq P l.toArray (fun s => (Nat.blt da s.n = true ∧ Nat.blt db s.n = true) ∧ AOps P l.toArray Q (l.drop n) (two da db xa xb s) ∧ AOps P l.toArray Q (l.drop n) (two db da xb xa s)) (pk l is) st) : Awp P (.region id l.toArray true) Q st :=
  aw_ord n 2 is hB hf (fun htail listed st' inv fr hfi hE => by
    simp only [finAA, Bool.and_eq_true] at hfi
    obtain ⟨⟨⟨f1, f2⟩, f3⟩, hB⟩ := hfi
    obtain ⟨⟨hda, hdb⟩, h1, h2⟩ := hE
    have hr : ia ∈ Region.ready .any l.toArray listed := by simpa using f1
    have hr2 : ib ∈ Region.ready .any l.toArray (listed.setIfInBounds ia true) := by simpa using f2
    have hne := beq_false hne
    have hdone : ∀ (listed : Array Bool) (st : St), (Region.seqB .any l.toArray (l.length - n) n listed = true ∧ AOps P l.toArray Q (l.drop n) st) → ∀ j ∈ Region.ready .any l.toArray listed, n ≤ j := fun listed st hL => seqB_ready hL.1
    refine ⟨fun h0 => (by rw [h0] at hr; cases hr), fun i hi => ?_⟩
    have hi' : i = ia ∨ i = ib := by
      have := List.all_eq_true.1 f3 i hi
      simp only [Bool.or_eq_true] at this
      rcases this with h | h
      · exact .inl (beq_true h)
      · exact .inr (beq_true h)
    rcases hi' with rfl | rfl
    · refine ⟨blt_true hia, oa, _, by simpa using hoa, .a ha hda, ?_⟩
      exact DAny2_last (by simpa using hob) (blt_true hib) hdone htail _ _ _ (inv.set hi (blt_true hia)) hr2 (.a hb hdb) ⟨hB, h1⟩
    · refine ⟨blt_true hib, ob, _, by simpa using hob, .a hb hdb, ?_⟩
      have hkr := ready_mono hr hne
      refine DAny2_last (by simpa using hoa) (blt_true hia) hdone htail _ _ _ (inv.set hi (blt_true hib)) hkr (.a ha hda) ⟨?_, h2⟩
      rw [Array.setIfInBounds_comm _ _ (Ne.symm hne)]; exact hB) h
end
end Go.Proofs.Ytokkpocccgdilaa.Ev
