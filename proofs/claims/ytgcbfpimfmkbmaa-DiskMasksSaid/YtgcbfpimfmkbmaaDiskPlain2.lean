/- The disk in plain Lean: what a flush and a crash leave. -/
import Derived.Test.YtgcbfpimfmkbmaaDiskOps2
namespace Go.Proofs.Ytgcbfpimfmkbmaa.Dk
set_option linter.unusedVariables false
set_option linter.unusedSimpArgs false

theorem recover_up (s : DS) : s.recover.1.down = false ∧ s.recover.1.blocks = s.blocks ∧ s.recover.1.pend = s.pend := by
  unfold DS.recover
  split
  · exact ⟨rfl, rfl, rfl⟩
  · rename_i h; exact ⟨by simpa using h, rfl, rfl⟩
theorem step_cases (s : DS) : (s.step.2 = false ∧ s.step.1 = s.crash s.mask) ∨ (s.step.2 = true ∧ s.step.1.blocks = s.blocks ∧ s.step.1.pend = s.pend ∧ s.step.1.down = s.down) := by
  unfold DS.step
  split
  · split
    · exact Or.inl ⟨rfl, rfl⟩
    · exact Or.inr ⟨rfl, rfl, rfl, rfl⟩
  · exact Or.inr ⟨rfl, rfl, rfl, rfl⟩
/-- settling all: each block has its newest contents -/
theorem settle_all_get : ∀ (p : List (Int × ByteArray)) (k : Nat) (b : List ByteArray) (n : Nat), (∀ x ∈ p, ∃ m : Nat, x.1 = (m : Int) ∧ m < b.length) → n < b.length →
    (settleGo (fun _ => true) k p b).getD n ByteArray.empty = (newest p n).getD (b.getD n ByteArray.empty)
  | [], _, b, n, _, _ => rfl
  | x :: r, k, b, n, hp, hn => by
    simp only [settleGo, newest]
    obtain ⟨m, hm, hml⟩ := hp x List.mem_cons_self
    rw [if_pos trivial, settle_all_get r (k + 1) (b.set x.1.toNat x.2) n (fun y hy => by
      obtain ⟨j, h1, h2⟩ := hp y (List.mem_cons_of_mem _ hy)
      exact ⟨j, h1, by rw [List.length_set]; exact h2⟩) (by rw [List.length_set]; exact hn), hm, Int.toNat_natCast]
    cases hnew : newest r n with
    | some t => rfl
    | none =>
      by_cases e : m = n
      · subst e; simp [hn]
      · rw [if_neg (by omega)]
        simp [List.getD_eq_getElem?_getD, List.getElem?_set, e]
theorem read_up {s : DS} (h : s.down = false) (n : Nat) (hn : n < s.blocks.length) : s.read n = ((newest s.pend n).getD (s.blocks.getD n ByteArray.empty), 0) := by
  have hi : inB s n = true := (inB_iff s n).2 ⟨n, rfl, hn⟩
  unfold DS.read; rw [h, hi]; simp
theorem contents_eq {s s' : DS} (hl : s'.blocks.length = s.blocks.length) (h : ∀ n : Nat, n < s.blocks.length → s'.read n = s.read n) : contentsOf s' = contentsOf s := by
  unfold contentsOf
  rw [hl]
  refine List.map_congr_left fun n hn => ?_
  have : n < s.blocks.length := by have := List.mem_range.1 hn; omega
  rw [h n this]
theorem flush_fail {s : DS} (hd : s.down = false) (h : s.flush.2 ≠ 0) : s.flush.2 = 17 ∧ s.flush.1.down = true := by
  unfold DS.flush at h ⊢
  rw [hd] at h ⊢
  rcases step_cases s with ⟨h1, h2⟩ | ⟨h1, _⟩
  · rw [h1, h2]; exact ⟨rfl, rfl⟩
  · rw [h1] at h; simp at h
theorem flush_ok {s : DS} (hf : Fine s) (hd : s.down = false) (h : s.flush.2 = 0) : s.flush.1.down = false ∧ s.flush.1.pend = [] ∧ s.flush.1.blocks.length = s.blocks.length ∧ contentsOf s.flush.1 = contentsOf s := by
  unfold DS.flush at h ⊢
  rw [hd] at h ⊢
  rcases step_cases s with ⟨h1, h2⟩ | ⟨h1, h2, h3, h4⟩
  · rw [h1] at h; simp at h
  · rw [h1]
    simp only [Bool.false_eq_true, if_false, if_true]
    have hdn : (s.step.1.settle (fun _ => true)).down = false := by show s.step.1.down = false; rw [h4, hd]
    have hln : (s.step.1.settle (fun _ => true)).blocks.length = s.blocks.length := by show (settleGo _ 0 s.step.1.pend s.step.1.blocks).length = _; rw [settleGo_len, h2]
    refine ⟨hdn, rfl, hln, contents_eq hln fun n hn => ?_⟩
    rw [read_up hdn n (by rw [hln]; exact hn), read_up hd n hn]
    show (_, _) = _
    congr 1
    show ((newest [] n).getD ((settleGo (fun _ => true) 0 s.step.1.pend s.step.1.blocks).getD n ByteArray.empty)) = _
    rw [h2, h3, settle_all_get s.pend 0 s.blocks n (fun x hx => (hf.pend x hx).1) hn]
    rfl
theorem crash_none {s : DS} (h : s.pend = []) (m : Int) : (s.crash m).blocks = s.blocks ∧ (s.crash m).pend = [] := by
  unfold DS.crash DS.settle
  rw [h]
  exact ⟨rfl, rfl⟩
/-- behind a flush: a crash and a recovery change nothing that is read -/
theorem flushed {s : DS} (hd : s.down = false) (hp : s.pend = []) (m : Int) : s.hit m = (s.crash m, 0) ∧ (s.crash m).pend = [] ∧ (s.crash m).recover.2 = 0 ∧ contentsOf (s.crash m).recover.1 = contentsOf s := by
  obtain ⟨c1, c2⟩ := crash_none hp m
  have hr : (s.crash m).recover = ({ (s.crash m) with down := false }, 0) := rfl
  refine ⟨by unfold DS.hit; rw [hd]; rfl, c2, by rw [hr], ?_⟩
  rw [hr]
  refine contents_eq (by show (s.crash m).blocks.length = _; rw [c1]) fun n hn => ?_
  rw [read_up rfl n (by show n < (s.crash m).blocks.length; rw [c1]; exact hn), read_up hd n hn]
  show ((newest (s.crash m).pend n).getD ((s.crash m).blocks.getD n ByteArray.empty), _) = _
  rw [c1, c2, hp]
def runOps (s : DS) (l : List OpD) : DS := l.foldl (fun s o => (doOp s o).1) s
theorem runOps_snoc (s : DS) (l : List OpD) (o : OpD) : runOps s (l ++ [o]) = (doOp (runOps s l) o).1 := by simp [runOps]
end Go.Proofs.Ytgcbfpimfmkbmaa.Dk
