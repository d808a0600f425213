/- Rules of a walk: regions that draw their order and make two boxes. Nothing here names a program. -/
import Derived.Test.YtokkpocccgdilaaEv15
namespace Go.Proofs.Ytokkpocccgdilaa.Ev
set_option linter.unusedVariables false
set_option linter.unusedSimpArgs false
open Go.RowKit
section
variable {P : Program} {ops : Array Oper} {md : Region.Mode} {n : Nat} {L : Array Bool → St → Prop}

def two (da db : Nat) (xa xb : AB) (s : St) : St := (((s.new xa).put da (.ptr s.nx 0)).new xb).put db (.ptr (s.nx + 1) 0)
theorem DAny2_lex2 {g : Nat} {Lq : St → Prop} {oa ob : Oper} {da db : Nat} {xa xb : AB} (hoa : ops[n]? = some oa) (ha : AOp P oa da xa) (hob : ops[n + 1]? = some ob) (hb : AOp P ob db xb) (hLq : ∀ s t, StEq s t → Lq s → Lq t)
    (htail : ∀ listed, HeadInv md ops (n + 2) listed → ∀ i, i < n + 2 → listed.getD i true = false → ∀ t, n + 2 ≤ t → t ∉ Region.ready md ops listed) :
    ∀ (l : List Oper) (k : Nat) (listed : Array Bool) (st : St), (∀ j, j < l.length → l[j]? = ops[k + j]?) → k + l.length = n → HeadInv md ops (n + 2) listed → (∀ i, i < k → listed.getD i false = true) → Fr st →
    Region.lexHead md ops g (l.length + 2) k listed = true → DSeq P ops (fun s => (Nat.blt da s.n = true ∧ Nat.blt db s.n = true) ∧ Lq (two da db xa xb s) ∧ Lq (two db da xb xa s)) l st → DAny2 P md ops (n + 2) (fun listed' st' => Region.seqB md ops g (n + 2) listed' = true ∧ Lq st') (l.length + 2) listed st
  | [], k, listed, st, _, hk, inv, hall, _, hB, h => by
    have : k = n := by simpa using hk
    subst this
    obtain ⟨⟨hda, hdb⟩, h1, h2⟩ := h
    simp only [List.length_nil, Nat.zero_add] at hB ⊢
    unfold Region.lexHead at hB
    simp only [Bool.and_eq_true] at hB
    obtain ⟨⟨hr, _⟩, hB⟩ := hB
    unfold Region.lexHead at hB
    simp only [Bool.and_eq_true] at hB
    obtain ⟨⟨hr2, _⟩, hB⟩ := hB
    unfold Region.lexHead at hB
    have hr' : k ∈ Region.ready md ops listed := by simpa using hr
    have hr2' : k + 1 ∈ Region.ready md ops (listed.setIfInBounds k true) := by simpa using hr2
    have hdone : ∀ (listed : Array Bool) (st : St), (Region.seqB md ops g (k + 2) listed = true ∧ Lq st) → ∀ j ∈ Region.ready md ops listed, k + 2 ≤ j := fun listed st hL => seqB_ready hL.1
    refine ⟨fun h0 => (by rw [h0] at hr'; cases hr'), fun i hi => ?_⟩
    have hin : i < k + 2 := Nat.lt_of_not_le fun hc => htail listed inv k (by omega) (mem_ready.1 hr').1 i hc hi
    have hki : k ≤ i := Nat.le_of_not_lt fun hc => by
      have e1 := hall i hc
      have e2 := getD_both (mem_ready.1 hi).1
      rw [e1] at e2; cases e2
    rcases Nat.lt_or_ge k i with hlt | hge
    · obtain rfl : i = k + 1 := by omega
      refine ⟨hin, ob, _, hob, .a hb hdb, ?_⟩
      have hkr := ready_mono hr' (show k ≠ k + 1 by omega)
      refine DAny2_last hoa (by omega) hdone htail _ _ _ (inv.set hi hin) hkr (.a ha hda) ⟨?_, h2⟩
      rw [Array.setIfInBounds_comm _ _ (by omega)]; exact hB
    · obtain rfl : i = k := by omega
      refine ⟨hin, oa, _, hoa, .a ha hda, ?_⟩
      exact DAny2_last hob (by omega) hdone htail _ _ _ (inv.set hi hin) hr2' (.a hb hdb) ⟨hB, h1⟩
  | o :: l, k, listed, st, hl, hk, inv, hall, fr, hB, h => by
    have h0 : ops[k]? = some o := by simpa using (hl 0 (by simp)).symm
    simp only [List.length_cons] at hB
    rw [show l.length + 1 + 2 = (l.length + 2) + 1 by omega] at hB
    unfold Region.lexHead at hB
    simp only [Bool.and_eq_true] at hB
    obtain ⟨⟨hr, hf⟩, hB'⟩ := hB
    have hkn : k < n + 2 := by simp only [List.length_cons] at hk; omega
    have hr' : k ∈ Region.ready md ops listed := by simpa using hr
    obtain ⟨d, y, hy, hK⟩ := h
    have hall' : ∀ i, i < k + 1 → (listed.setIfInBounds k true).getD i false = true := fun i hi => by
      by_cases he : i = k
      · subst he
        have hsz : i < listed.size := by
          have := (Array.getElem?_eq_some_iff.1 h0).1
          rw [inv.size]; exact this
        simp [hsz]
      · rw [getD_set_ne false (Ne.symm he)]; exact hall i (by omega)
    have := DAny2_first h0 hkn (fun listed s t e hh => ⟨hh.1, hLq s t e hh.2⟩) (fun listed' st' hL => seqB_ready hL.1) htail (l.length + 2) listed st d y fr inv (Region.free_spec h0 hf) hr' hy
      (DAny2_lex2 hoa ha hob hb hLq htail l (k + 1) _ _ (fun j hj => by have := hl (j + 1) (by simp; omega); simpa [Nat.add_assoc, Nat.add_comm 1 j] using this) (by simp only [List.length_cons] at hk; omega) (inv.set hr' hkn) hall' (fr.put _ _) hB' hK)
    rw [List.length_cons, show l.length + 1 + 2 = l.length + 2 + 1 by omega]
    exact this

/-- A region that draws its order: its first n operations are quiet, the next two make a box each, the others follow one after the other. -/
theorem aw_drawAA {id : Nat} {l : List Oper} {Q : Exit → St → Prop} {st : St} [m : Mixed P] (n : Nat) {oa ob : Oper} {da db : Nat} {xa xb : AB} (hB : drawB l.toArray (n + 2) = true) (hoa : l[n]? = some oa) (ha : AOp P oa da xa) (hob : l[n + 1]? = some ob) (hb : AOp P ob db xb) (hf : frB st.heap st.nx = true)
    (h : DSeq P l.toArray (fun s => (Nat.blt da s.n = true ∧ Nat.blt db s.n = true) ∧ AOps P l.toArray Q (l.drop (n + 2)) (two da db xa xb s) ∧ AOps P l.toArray Q (l.drop (n + 2)) (two db da xb xa s)) (l.take n) st) : Awp P (.region id l.toArray true) Q st := by
  simp only [drawB, Bool.and_eq_true, Bool.or_eq_true] at hB
  obtain ⟨⟨⟨hsel, hle⟩, hcase⟩, hlex⟩ := hB
  have hle := Nat.le_of_ble_eq_true hle
  have hle' : n + 2 ≤ l.length := by simpa using hle
  have htl : (l.take n).length = n := by simp; omega
  have hdl : (l.drop (n + 2)).length = l.toArray.size - (n + 2) := by simp
  have inv0 : HeadInv .any l.toArray (n + 2) (Array.replicate l.toArray.size false) :=
    ⟨by simp, fun j oj _ hl => (by rw [getD_replicate_false] at hl; cases hl), fun t _ ht => getD_in (by simpa using ht) (getD_replicate_false _ _)⟩
  have htail : ∀ listed, HeadInv .any l.toArray (n + 2) listed → ∀ i, i < n + 2 → listed.getD i true = false → ∀ t, n + 2 ≤ t → t ∉ Region.ready .any l.toArray listed := by
    intro listed inv i hi hun t ht
    rcases hcase with he | ⟨hs, hc⟩
    · intro hr
      obtain ⟨_, o, ho, _⟩ := mem_ready.1 hr
      have := (Array.getElem?_eq_some_iff.1 ho).1
      have := beq_true he
      omega
    · rcases Nat.lt_or_ge (n + 2) l.toArray.size with hn | hn
      · exact tail_waits hs hc hn inv _ i rfl hi hun t ht
      · intro hr
        obtain ⟨_, o, ho, _⟩ := mem_ready.1 hr
        have := (Array.getElem?_eq_some_iff.1 ho).1
        omega
  intro base w0 M a hs
  have H := DAny2_lex2 (P := P) (md := .any) (ops := l.toArray) (n := n) (g := l.toArray.size - (n + 2)) (Lq := AOps P l.toArray Q (l.drop (n + 2))) (by simpa using hoa) ha (by simpa using hob) hb (fun s t e hh => fun base w0 M a hs' => hh base w0 M a (e.symm.sim hs')) htail (l.take n) 0 _ st (fun j hj => by
    have hj' : j < n := by rw [htl] at hj; exact hj
    simp [hj']) (by simpa using htl) inv0 (fun i hi => by omega) (fr_of hf) (by rw [htl]; exact hlex) h
  refine wp_region_any m.h ?_
  have := wpAny_of_DAny2 (P := P) (md := .any) (ops := l.toArray) (n := n + 2) (base := base) (w0 := w0) (M0 := M) (Q := Q) (g := l.toArray.size - (n + 2)) (fun listed st' M' a' hL hs' he => by
    have h1 := wpList_monoQ (fun e a w => Lift.ext he) _ _ _ (hL.2 base w0 M' a' hs')
    have h2 := wpAny_of_seq (md := .any) (l.drop (n + 2)) (n + 2) listed a' M'.w (fun j => by simp) (by rw [hdl]; exact hL.1) h1
    rwa [hdl] at h2) ((l.take n).length + 2) (Array.replicate l.toArray.size false) st M.drew a hs.drew (Ext.drew M) H
  rw [htl] at this
  rw [show n + 2 + (l.toArray.size - (n + 2)) = l.toArray.size by omega] at this
  exact this
theorem ds_nilAA {da db nn nx : Nat} {xa xb : AB} {tl : List Oper} {env : List (Nat × AV)} {heap : List (Nat × Option AB)} {gl : List (Nat × List CV)} {Q : Exit → St → Prop} (h1 : Nat.blt da nn = true) (h2 : Nat.blt db nn = true)
    (h3 : AOps P ops Q tl ⟨nn, (db, .ptr (nx + 1) 0) :: (da, .ptr nx 0) :: env, (nx + 1, some xb) :: (nx, some xa) :: heap, nx + 1 + 1, gl⟩)
    (h4 : AOps P ops Q tl ⟨nn, (da, .ptr (nx + 1) 0) :: (db, .ptr nx 0) :: env, (nx + 1, some xa) :: (nx, some xb) :: heap, nx + 1 + 1, gl⟩) :
    DSeq P ops (fun s => (Nat.blt da s.n = true ∧ Nat.blt db s.n = true) ∧ AOps P ops Q tl (two da db xa xb s) ∧ AOps P ops Q tl (two db da xb xa s)) [] ⟨nn, env, heap, nx, gl⟩ := ⟨⟨h1, h2⟩, h3, h4⟩
end
end Go.Proofs.Ytokkpocccgdilaa.Ev
