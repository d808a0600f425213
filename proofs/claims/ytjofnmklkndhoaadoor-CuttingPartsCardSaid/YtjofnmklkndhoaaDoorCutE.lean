/- Walks of cutting: Value in both. -/
import Derived.Test.YtjofnmklkndhoaaDoorCutD
namespace Go.Proofs.YtjofnmklkndhoaaDoor.Cu
set_option linter.unusedVariables false
set_option linter.unusedSimpArgs false
open Go.RowKit Go.Proofs.YtjofnmklkndhoaaDoor.Ev
variable {gl : List (Nat × List CV)}

def AllSp (n : Int) (l : List Span) : Prop := ∀ s ∈ l, 0 ≤ s.1 ∧ s.1 < s.2 ∧ s.2 ≤ n
theorem tot_add (l : List Span) (a b : Int) : tot (addS l a b) = tot l + max 0 (b - a) := by
  unfold addS
  split
  · omega
  · unfold tot; rw [List.map_append, List.sum_append]; simp; omega
theorem allSp_add {n : Int} {l : List Span} (h : AllSp n l) {a b : Int} (h0 : 0 ≤ a) (h1 : b ≤ n) : AllSp n (addS l a b) := by
  unfold addS
  split
  · exact h
  · intro s hs
    rcases List.mem_append.1 hs with hs | hs
    · exact h s hs
    · simp only [List.mem_singleton] at hs; subst hs; exact ⟨h0, by show a < b; omega, h1⟩
/-- What the cuts so far are. -/
structure GoInv (l : Line) (e : Int) (d c : List Span) (n : Int) : Prop where
  hd : AllSp l.len d
  hc : AllSp l.len c
  he : -1 ≤ e ∧ e ≤ l.len
  ht : tot d + tot c + n ≤ if e < 0 then l.len else e
theorem go_inv {l : Line} (v : Valid l) : ∀ (p : List Piece) (e : Int) (d c : List Span) (n : Int) (D C : List Span), GoInv l e d c n → cutsGo l p e d c = (0, D, C) → AllSp l.len D ∧ AllSp l.len C ∧ tot D + tot C + (n + p.length) ≤ l.len ∧ ∀ x ∈ p, ∃ e', perm l e' x = 0
  | [], e, d, c, n, D, C, h, hg => by
    obtain ⟨h1, h2, h3, h4⟩ := h
    unfold cutsGo at hg
    simp only [Prod.mk.injEq, true_and] at hg
    obtain ⟨rfl, rfl⟩ := hg
    have hl := v.len
    refine ⟨h1, ?_, ?_, fun x hx => by simp at hx⟩
    · split
      · exact allSp_add h2 (by omega) (Int.le_refl _)
      · exact h2
    · split
      · rename_i he
        rw [if_neg (by omega)] at h4
        rw [tot_add]; simp; omega
      · rw [if_pos (by omega)] at h4
        simp; omega
  | x :: p, e, d, c, n, D, C, h, hg => by
    obtain ⟨h1, h2, h3, h4⟩ := h
    unfold cutsGo at hg
    by_cases hp : perm l e x = 0
    · rw [if_neg (fun hh => hh hp)] at hg
      obtain ⟨q1, q2, q3, q4, q5, q6, q7⟩ := perm0 (l := l) (e := e) (s := x.1) (p := x.2) hp
      rw [if_neg (by omega)] at h4
      have hl := v.len
      have hk := v.kerf
      have hpi := v.pitch
      obtain ⟨k, hk1, hk2, hk3⟩ := szOf_eq (l := l) (s := x.1) q1 q2
      have hsz := v.size k hk2
      rw [← hk3] at hsz
      generalize szOf l x.1 = sz at *
      have hbe : (x.2 + sz = l.len ∧ behindS l (x.2 + sz) = -1) ∨ (x.2 + sz ≠ l.len ∧ behindS l (x.2 + sz) = min (x.2 + sz + l.kerf) l.len) := by
        unfold behindS
        by_cases hc : x.2 + sz = l.len
        · exact .inl ⟨hc, if_pos hc⟩
        · exact .inr ⟨hc, if_neg hc⟩
      generalize behindS l (x.2 + sz) = be at *
      generalize (x.2 - l.kerf - e).tmod l.pitch = tm at *
      have ih := go_inv v p be (addS (if e < x.2 then addS d (x.2 - l.kerf) x.2 else d) (x.2 + sz) be) (if e < x.2 then addS c e (x.2 - l.kerf) else c) (n + 1) D C ⟨?_, ?_, by omega, ?_⟩ hg
      · obtain ⟨i1, i2, i3, i4⟩ := ih
        refine ⟨i1, i2, by simp only [List.length_cons]; omega, fun y hy => ?_⟩
        rcases List.mem_cons.1 hy with rfl | hy
        · exact ⟨e, hp⟩
        · exact i4 y hy
      · refine allSp_add ?_ (by omega) (by omega)
        split
        · exact allSp_add h1 (by omega) (by omega)
        · exact h1
      · split
        · exact allSp_add h2 (by omega) (by omega)
        · exact h2
      · rw [tot_add]
        split
        · rw [tot_add, tot_add]
          split <;> omega
        · split <;> omega
    · rw [if_pos hp] at hg
      simp only [Prod.mk.injEq] at hg
      exact absurd hg.1 hp
theorem cuts_ok {l : Line} (v : Valid l) {p : List Piece} {D C : List Span} (h : cutsGo l p 0 [] [] = (0, D, C)) : AllSp l.len D ∧ AllSp l.len C ∧ tot D + tot C + p.length ≤ l.len ∧ ∀ x ∈ p, ∃ e', perm l e' x = 0 := by
  have := go_inv v p 0 [] [] 0 D C ⟨fun s hs => by simp at hs, fun s hs => by simp at hs, by have := v.len; omega, by simp [tot]⟩ h
  simpa using this
theorem tot_nn {n : Int} {ss : List Span} (h : AllSp n ss) : (ss.length : Int) ≤ tot ss := by
  induction ss with
  | nil => simp [tot]
  | cons s ss ih =>
    have h1 := h s (by simp)
    have h2 := ih (fun t ht => h t (by simp [ht]))
    unfold tot at h2 ⊢
    simp only [List.map_cons, List.sum_cons, List.length_cons]
    omega
theorem sps_of {n : Nat} {ss : List Span} (h : AllSp n ss) (ht : tot ss ≤ 4000) : SpsOk n ss :=
  ⟨fun i hi => by have := h _ (List.getElem_mem hi); omega, ht⟩
def gsum (l : Line) (p : List Piece) : Int := (p.map fun x => gOf l x.1 x.2).sum
theorem gsum_succ (l : Line) (p : List Piece) (j : Nat) (h : j < p.length) : gsum l (p.take (j + 1)) = gsum l (p.take j) + gOf l p[j].1 p[j].2 := by
  unfold gsum; rw [List.take_succ_eq_append_getElem h, List.map_append, List.sum_append]; simp
/-- Value and error. -/
noncomputable def valS (l : Line) (p : List Piece) : Int × Int :=
  if (cutsS l p).1 ≠ 0 then (0, (cutsS l p).1) else (sumSp l.dust (cutsS l p).2.1 + sumSp l.chip (cutsS l p).2.2 + gsum l p, 0)
def valC (r : Int × Int) : CV := .tup [I r.1, I r.2]
theorem piece_ok {l : Line} (v : Valid l) {e s p : Int} (h : perm l e (s, p) = 0) : 0 ≤ s ∧ 0 ≤ p ∧ ∃ (h1 : s.toNat < l.sizes.length) (h2 : s.toNat < l.gain.length) (h3 : p.toNat < l.gain[s.toNat].length), gOf l s p = l.gain[s.toNat][p.toNat] ∧ -1125899906842624 ≤ l.gain[s.toNat][p.toNat] ∧ l.gain[s.toNat][p.toNat] ≤ 1125899906842624 ∧ szOf l s = l.sizes[s.toNat] ∧ p ≤ l.len - l.sizes[s.toNat] ∧ 0 ≤ l.gain[s.toNat][p.toNat] := by
  obtain ⟨q1, q2, q3, q4, q5, q6, q7⟩ := perm0 h
  have hk2 : s.toNat < l.sizes.length := by omega
  have hsz : szOf l s = l.sizes[s.toNat] := by
    conv => lhs; rw [show s = ((s.toNat : Nat) : Int) by omega]
    exact szOf_nat hk2
  have hgl : s.toNat < l.gain.length := by have := v.gain; omega
  have hrow := v.row _ hgl hk2
  have hgl2 : p.toNat < l.gain[s.toNat].length := by omega
  have hg := v.gains _ hgl _ hgl2
  have hgo : gOf l s p = l.gain[s.toNat][p.toNat] := by
    unfold gOf
    rw [List.getD_eq_getElem?_getD, List.getD_eq_getElem?_getD, List.getElem?_eq_getElem hgl]
    simp only [Option.getD_some]
    rw [List.getElem?_eq_getElem hgl2]; rfl
  exact ⟨q1, q3, hk2, hgl, hgl2, hgo, hg.1, hg.2, hsz, by omega, by rw [← hgo]; exact q7⟩
theorem gsum_bd {l : Line} (v : Valid l) {p : List Piece} (h : ∀ x ∈ p, ∃ e, perm l e x = 0) : ∀ j, j ≤ p.length → 0 ≤ gsum l (p.take j) ∧ gsum l (p.take j) ≤ 1125899906842624 * (j : Int)
  | 0, _ => by simp [gsum]
  | j + 1, hj => by
    have ih := gsum_bd v h j (by omega)
    obtain ⟨e, he⟩ := h p[j] (List.getElem_mem (by omega))
    obtain ⟨_, _, h1, h2, h3, h4, h5, h6, _, _, h7⟩ := piece_ok v (s := p[j].1) (p := p[j].2) he
    rw [gsum_succ l p j (by omega), h4]
    omega
end Go.Proofs.YtjofnmklkndhoaaDoor.Cu
