/- JN JO JQ JCb JS2 JL1 JOpen: texts laid together. -/
import Derived.Test.YthkjkhffljlidaaMrgX4
import Derived.Test.YthkjkhffljlidaaMrgE4
import Derived.Test.YthkjkhffljlidaaMrgX2
import Derived.Test.YthkjkhffljlidaaMrgF0
import Derived.Test.YthkjkhffljlidaaMrgX0
import Derived.ChangeSame
set_option maxRecDepth 100000
set_option maxHeartbeats 64000000
/- The journal: functions of the laws and of the reference. -/
namespace Go.Proofs.Ythkjkhffljlidaa.Jo
set_option linter.unusedVariables false
set_option linter.unusedSimpArgs false
open Go.RowKit Go.Proofs.Ythkjkhffljlidaa.Ev Go.Proofs.Ythkjkhffljlidaa.Dk
variable {gl : List (Nat × List CV)}
theorem ba_ne {a b : ByteArray} (h : a ≠ b) : (a.toList == b.toList) = false := by
  rw [ByteArray.toList_eq, ByteArray.toList_eq, beq_eq_false_iff_ne]
  exact fun e => h (ba_eq e)
theorem same_con (a b : List ByteArray) (ha : a.length ≤ 1000000000) (hb : b.length ≤ 1000000000) : Con Try.prog gl 14 [LT a, LT b] (BO (decide (a = b))) := by
  refine con_of Try.func14 rfl (by kernel_rfl) rfl ?_
  simp only [Try.ntmps14, Try.results14, argEnv, ofC, of1, List.map]
  by_cases hl : a.length = b.length
  rotate_left
  · rw [decide_eq_false (fun h => hl (by rw [h]))]
    repeat' (first
 | ((with_reducible apply aw_seq))
 | ((with_reducible apply aw_region))
 | ((with_reducible apply thn_normal))
 | ((with_reducible apply thn_ret))
 | ((with_reducible apply aw_ret))
 | ((with_reducible apply ao_nil))
 | ((with_reducible apply r_move); exact rfl; exact rfl)
 | ((with_reducible apply r_assign); exact rfl; exact rfl)
 | ((with_reducible apply r_neq); exact rfl; exact rfl; exact rfl)
 | ((with_reducible apply r_len_f); exact rfl; exact inferInstance; exact rfl)
 | (((with_reducible apply aw_cond); exact rfl) <;> intro hg <;> (first | (exact absurd hg (by decide)) | ((try simp only [decide_eq_true_eq, decide_eq_false_iff_not, Bool.not_eq_true', Bool.not_eq_false', Bool.not_true, Bool.not_false, Bool.not_not, Int.not_lt, Int.not_le, Nat.not_lt, Nat.not_le, gt_iff_lt, ge_iff_le, List.cons.injEq, and_true] at hg); first | (exact absurd trivial hg) | (exfalso; omega) | (have hT : True := hg; clear hT hg) | skip)))
 )
    all_goals exact ret1 (.tmp rfl cl_c)
  repeat' (first
 | ((with_reducible apply aw_seq))
 | ((with_reducible apply aw_region))
 | ((with_reducible apply aw_block))
 | ((with_reducible apply thn_normal))
 | ((with_reducible apply aw_skip))
 | ((with_reducible apply ao_nil))
 | ((with_reducible apply r_move); exact rfl; exact rfl)
 | ((with_reducible apply r_assign); exact rfl; exact rfl)
 | ((with_reducible apply r_neq); exact rfl; exact rfl; exact rfl)
 | ((with_reducible apply r_len_f); exact rfl; exact inferInstance; exact rfl)
 | (((with_reducible apply aw_cond); exact rfl) <;> intro hg <;> (first | (exact absurd hg (by decide)) | ((try simp only [decide_eq_true_eq, decide_eq_false_iff_not, Bool.not_eq_true', Bool.not_eq_false', Bool.not_true, Bool.not_false, Bool.not_not, Int.not_lt, Int.not_le, Nat.not_lt, Nat.not_le, gt_iff_lt, ge_iff_le, List.cons.injEq, and_true] at hg); first | (exact absurd trivial hg) | (exfalso; omega) | (have hT : True := hg; clear hT hg) | skip)))
 )
  refine aw_loopG (G := Nat) (fun (j : Nat) => j ≤ a.length ∧ ∀ i (hi : i < a.length) (hi' : i < b.length), i < j → a[i] = b[i]) (fun (j : Nat) => a.length - j) (fun (j : Nat) => [(0, .c (LT a)), (1, .c (LT b)), (5, A j)]) (fun (j : Nat) => []) 0 0 ?_ (by refine weak_mk rfl ?_ ?_ <;> repeat (first | exact envW_nil | exact heapW_nil | refine envW_cons rfl rfl ?_ | refine heapW_cons rfl rfl rfl ?_)) rfl ?_
  · exact ⟨Nat.zero_le _, fun i _ _ h => absurd h (Nat.not_lt_zero _)⟩
  rintro j hI
  try dsimp only at hI
  try dsimp only
  obtain ⟨h1, h2⟩ := hI
  by_cases hj : j < a.length
  · have hj' : j < b.length := by omega
    by_cases he : a[j] = b[j]
    · have hs : (a[j].toList == b[j].toList) = true := by rw [he]; simp
      repeat' (first
 | (rw [hs])
 | ((with_reducible apply r_neqstr); exact rfl; exact rfl; exact rfl)
 | ((with_reducible apply aw_seq))
 | ((with_reducible apply aw_region))
 | ((with_reducible apply aw_block))
 | ((with_reducible apply thn_normal))
 | ((with_reducible apply inb_normal))
 | ((with_reducible apply aw_skip))
 | ((with_reducible apply ao_nil))
 | ((with_reducible apply r_move); exact rfl; exact rfl)
 | ((with_reducible apply r_assign); exact rfl; exact rfl)
 | ((with_reducible apply r_lss); exact rfl; exact rfl; exact rfl)
 | ((with_reducible apply r_add); exact rfl; exact rfl; exact (by first | assumption | (unfold fits; omega)); exact rfl)
 | ((with_reducible apply r_len_f); exact rfl; exact inferInstance; exact rfl)
 | ((with_reducible apply r_index_f); exact rfl; exact inferInstance; exact rfl; exact rfl; (first | assumption | omega); exact rfl)
 | ((with_reducible apply r_load_f0); exact rfl; exact inferInstance; exact List.getElem?_eq_getElem (by first | assumption | omega); exact rfl; exact rfl)
 | (((with_reducible apply aw_cond); exact rfl) <;> intro hg <;> (first | (exact absurd hg (by decide)) | ((try simp only [decide_eq_true_eq, decide_eq_false_iff_not, Bool.not_eq_true', Bool.not_eq_false', Bool.not_true, Bool.not_false, Bool.not_not, Int.not_lt, Int.not_le, Nat.not_lt, Nat.not_le, gt_iff_lt, ge_iff_le, List.cons.injEq, and_true] at hg); first | (exact absurd trivial hg) | (exfalso; omega) | (have hT : True := hg; clear hT hg) | skip)))
 | (refine aw_drawq ?_ ?_; (kernel_rfl))
 | ((with_reducible apply ds_nil))
 )
      refine ⟨j + 1, ?_, ?_, by refine weak_mk rfl ?_ ?_ <;> repeat (first | exact envW_nil | exact heapW_nil | refine envW_cons rfl rfl ?_ | refine heapW_cons rfl rfl rfl ?_)⟩
      · show _ - (j + 1) < _ - j; omega
      · refine ⟨hj, fun i hi hi' h => ?_⟩
        by_cases e : i = j
        · subst e; exact he
        · exact h2 i hi hi' (by have : i < j + 1 := h; omega)
    · have hs := ba_ne he
      rw [decide_eq_false (fun h => he (by subst h; rfl))]
      repeat' (first
 | (rw [hs])
 | ((with_reducible apply r_neqstr); exact rfl; exact rfl; exact rfl)
 | ((with_reducible apply aw_seq))
 | ((with_reducible apply aw_region))
 | ((with_reducible apply aw_block))
 | ((with_reducible apply thn_normal))
 | ((with_reducible apply thn_ret))
 | ((with_reducible apply inb_ret))
 | ((with_reducible apply aw_skip))
 | ((with_reducible apply aw_ret))
 | ((with_reducible apply ao_nil))
 | ((with_reducible apply r_move); exact rfl; exact rfl)
 | ((with_reducible apply r_assign); exact rfl; exact rfl)
 | ((with_reducible apply r_lss); exact rfl; exact rfl; exact rfl)
 | ((with_reducible apply r_len_f); exact rfl; exact inferInstance; exact rfl)
 | ((with_reducible apply r_index_f); exact rfl; exact inferInstance; exact rfl; exact rfl; (first | assumption | omega); exact rfl)
 | ((with_reducible apply r_load_f0); exact rfl; exact inferInstance; exact List.getElem?_eq_getElem (by first | assumption | omega); exact rfl; exact rfl)
 | (((with_reducible apply aw_cond); exact rfl) <;> intro hg <;> (first | (exact absurd hg (by decide)) | ((try simp only [decide_eq_true_eq, decide_eq_false_iff_not, Bool.not_eq_true', Bool.not_eq_false', Bool.not_true, Bool.not_false, Bool.not_not, Int.not_lt, Int.not_le, Nat.not_lt, Nat.not_le, gt_iff_lt, ge_iff_le, List.cons.injEq, and_true] at hg); first | (exact absurd trivial hg) | (exfalso; omega) | (have hT : True := hg; clear hT hg) | skip)))
 | (refine aw_drawq ?_ ?_; (kernel_rfl))
 | ((with_reducible apply ds_nil))
 )
      all_goals exact ret1 (.tmp rfl cl_c)
  · rw [decide_eq_true (List.ext_getElem hl (fun i hi hi' => h2 i hi hi' (by omega)))]
    repeat' (first
 | ((with_reducible apply aw_seq))
 | ((with_reducible apply aw_region))
 | ((with_reducible apply thn_normal))
 | ((with_reducible apply thn_exit))
 | ((with_reducible apply inb_exit))
 | ((with_reducible apply aw_exit))
 | ((with_reducible apply aw_ret))
 | ((with_reducible apply ao_nil))
 | ((with_reducible apply r_move); exact rfl; exact rfl)
 | ((with_reducible apply r_assign); exact rfl; exact rfl)
 | ((with_reducible apply r_lss); exact rfl; exact rfl; exact rfl)
 | ((with_reducible apply r_len_f); exact rfl; exact inferInstance; exact rfl)
 | (((with_reducible apply aw_cond); exact rfl) <;> intro hg <;> (first | (exact absurd hg (by decide)) | ((try simp only [decide_eq_true_eq, decide_eq_false_iff_not, Bool.not_eq_true', Bool.not_eq_false', Bool.not_true, Bool.not_false, Bool.not_not, Int.not_lt, Int.not_le, Nat.not_lt, Nat.not_le, gt_iff_lt, ge_iff_le, List.cons.injEq, and_true] at hg); first | (exact absurd trivial hg) | (exfalso; omega) | (have hT : True := hg; clear hT hg) | skip)))
 )
    all_goals exact ret1 (.tmp rfl cl_c)
def smG (n : Nat) : List ByteArray → Option Nat
  | [] => some n
  | s :: l => if 16394 < s.size ∨ 2000 < (if s.size ≤ 16384 then n + s.size else n) then none else smG (if s.size ≤ 16384 then n + s.size else n) l
def smL (n : Nat) : List (List ByteArray) → Bool
  | [] => true
  | g :: l => if 40 < g.length then false else (smG n g).elim false (fun n' => smL n' l)
def smallS (gs : List (List ByteArray)) : Bool := if 12 < gs.length then false else smL 0 gs
theorem smG_bd : ∀ (l : List ByteArray) (n m : Nat), n ≤ 2000 → smG n l = some m → m ≤ 2000 ∧ ∀ s ∈ l, s.size ≤ 16394
  | [], n, m, hn, h => by simp only [smG, Option.some.injEq] at h; subst h; exact ⟨hn, fun s hs => by cases hs⟩
  | s :: l, n, m, hn, h => by
    rw [smG] at h
    by_cases hc : 16394 < s.size ∨ 2000 < (if s.size ≤ 16384 then n + s.size else n)
    · rw [if_pos hc] at h; cases h
    · rw [if_neg hc] at h
      have h1 : ¬ 16394 < s.size := fun e => hc (.inl e)
      have h2 : ¬ 2000 < (if s.size ≤ 16384 then n + s.size else n) := fun e => hc (.inr e)
      obtain ⟨a, b⟩ := smG_bd l _ m (by omega) h
      refine ⟨a, fun x hx => ?_⟩
      rcases List.mem_cons.1 hx with rfl | hx
      · omega
      · exact b x hx
theorem smL_bd : ∀ (l : List (List ByteArray)) (n : Nat), n ≤ 2000 → smL n l = true → ∀ g ∈ l, g.length ≤ 40 ∧ ∀ s ∈ g, s.size ≤ 16394
  | [], n, hn, h => fun g hg => by cases hg
  | g :: l, n, hn, h => by
    simp only [smL] at h
    split at h
    · cases h
    rename_i h40
    cases hs : smG n g with
    | none => rw [hs] at h; cases h
    | some m =>
      rw [hs] at h
      obtain ⟨a, b⟩ := smG_bd g n m hn hs
      intro x hx
      rcases List.mem_cons.1 hx with rfl | hx
      · exact ⟨by omega, b⟩
      · exact smL_bd l m a h x hx
theorem small_bd {gs : List (List ByteArray)} (h : smallS gs = true) : gs.length ≤ 12 ∧ ∀ g ∈ gs, g.length ≤ 40 ∧ ∀ s ∈ g, s.size ≤ 16394 := by
  unfold smallS at h
  split at h
  · cases h
  · exact ⟨by omega, smL_bd gs 0 (by omega) h⟩
theorem small_con (gs : List (List ByteArray)) : Con Try.prog gl 10 [LG gs] (BO (smallS gs)) := by
  unfold smallS
  refine con_of Try.func10 rfl (by kernel_rfl) rfl ?_
  simp only [Try.ntmps10, Try.results10, argEnv, ofC, of1, List.map]
  by_cases h12 : 12 < gs.length
  · rw [if_pos h12]
    repeat' (first
 | ((with_reducible apply aw_seq))
 | ((with_reducible apply aw_region))
 | ((with_reducible apply thn_normal))
 | ((with_reducible apply thn_ret))
 | ((with_reducible apply aw_ret))
 | ((with_reducible apply ao_nil))
 | ((with_reducible apply r_move); exact rfl; exact rfl)
 | ((with_reducible apply r_assign); exact rfl; exact rfl)
 | ((with_reducible apply r_gtr); exact rfl; exact rfl; exact rfl)
 | ((with_reducible apply r_len_f); exact rfl; exact inferInstance; exact rfl)
 | (((with_reducible apply aw_cond); exact rfl) <;> intro hg <;> (first | (exact absurd hg (by decide)) | ((try simp only [decide_eq_true_eq, decide_eq_false_iff_not, Bool.not_eq_true', Bool.not_eq_false', Bool.not_true, Bool.not_false, Bool.not_not, Int.not_lt, Int.not_le, Nat.not_lt, Nat.not_le, gt_iff_lt, ge_iff_le, List.cons.injEq, and_true] at hg); first | (exact absurd trivial hg) | (exfalso; omega) | (have hT : True := hg; clear hT hg) | skip)))
 )
    all_goals exact ret1 (.tmp rfl cl_c)
  rw [if_neg h12]
  repeat' (first
 | ((with_reducible apply aw_seq))
 | ((with_reducible apply aw_region))
 | ((with_reducible apply aw_block))
 | ((with_reducible apply thn_normal))
 | ((with_reducible apply aw_skip))
 | ((with_reducible apply ao_nil))
 | ((with_reducible apply r_move); exact rfl; exact rfl)
 | ((with_reducible apply r_assign); exact rfl; exact rfl)
 | ((with_reducible apply r_gtr); exact rfl; exact rfl; exact rfl)
 | ((with_reducible apply r_len_f); exact rfl; exact inferInstance; exact rfl)
 | (((with_reducible apply aw_cond); exact rfl) <;> intro hg <;> (first | (exact absurd hg (by decide)) | ((try simp only [decide_eq_true_eq, decide_eq_false_iff_not, Bool.not_eq_true', Bool.not_eq_false', Bool.not_true, Bool.not_false, Bool.not_not, Int.not_lt, Int.not_le, Nat.not_lt, Nat.not_le, gt_iff_lt, ge_iff_le, List.cons.injEq, and_true] at hg); first | (exact absurd trivial hg) | (exfalso; omega) | (have hT : True := hg; clear hT hg) | skip)))
 )
  refine aw_loopG (G := Nat × Nat) (fun ((i, n) : Nat × Nat) => i ≤ gs.length ∧ n ≤ 2000 ∧ smL 0 gs = smL n (gs.drop i)) (fun ((i, n) : Nat × Nat) => gs.length - i) (fun ((i, n) : Nat × Nat) => [(0, .c (LG gs)), (3, A n), (4, A i)]) (fun ((i, n) : Nat × Nat) => []) 0 (0, 0) ?_ (by refine weak_mk rfl ?_ ?_ <;> repeat (first | exact envW_nil | exact heapW_nil | refine envW_cons rfl rfl ?_ | refine heapW_cons rfl rfl rfl ?_)) rfl ?_
  · exact ⟨Nat.zero_le _, Nat.zero_le _, by rw [List.drop_zero]⟩
  rintro ⟨i, n⟩ hI
  try dsimp only at hI
  try dsimp only
  obtain ⟨h1, h2, h3⟩ := hI
  by_cases hi : i < gs.length
  rotate_left
  · rw [h3, List.drop_eq_nil_of_le (by omega), smL]
    repeat' (first
 | ((with_reducible apply aw_seq))
 | ((with_reducible apply aw_region))
 | ((with_reducible apply thn_normal))
 | ((with_reducible apply thn_exit))
 | ((with_reducible apply inb_exit))
 | ((with_reducible apply aw_exit))
 | ((with_reducible apply aw_ret))
 | ((with_reducible apply ao_nil))
 | ((with_reducible apply r_move); exact rfl; exact rfl)
 | ((with_reducible apply r_assign); exact rfl; exact rfl)
 | ((with_reducible apply r_lss); exact rfl; exact rfl; exact rfl)
 | ((with_reducible apply r_len_f); exact rfl; exact inferInstance; exact rfl)
 | (((with_reducible apply aw_cond); exact rfl) <;> intro hg <;> (first | (exact absurd hg (by decide)) | ((try simp only [decide_eq_true_eq, decide_eq_false_iff_not, Bool.not_eq_true', Bool.not_eq_false', Bool.not_true, Bool.not_false, Bool.not_not, Int.not_lt, Int.not_le, Nat.not_lt, Nat.not_le, gt_iff_lt, ge_iff_le, List.cons.injEq, and_true] at hg); first | (exact absurd trivial hg) | (exfalso; omega) | (have hT : True := hg; clear hT hg) | skip)))
 )
    all_goals exact ret1 (.tmp rfl cl_c)
  rw [List.drop_eq_getElem_cons hi, smL] at h3
  by_cases h40 : 40 < gs[i].length
  · rw [if_pos h40] at h3
    rw [h3]
    repeat' (first
 | ((with_reducible apply aw_seq))
 | ((with_reducible apply aw_region))
 | ((with_reducible apply aw_block))
 | ((with_reducible apply thn_normal))
 | ((with_reducible apply thn_ret))
 | ((with_reducible apply inb_ret))
 | ((with_reducible apply aw_skip))
 | ((with_reducible apply aw_ret))
 | ((with_reducible apply ao_nil))
 | ((with_reducible apply r_move); exact rfl; exact rfl)
 | ((with_reducible apply r_assign); exact rfl; exact rfl)
 | ((with_reducible apply r_lss); exact rfl; exact rfl; exact rfl)
 | ((with_reducible apply r_gtr); exact rfl; exact rfl; exact rfl)
 | ((with_reducible apply r_len_f); exact rfl; exact inferInstance; exact rfl)
 | ((with_reducible apply r_index_f); exact rfl; exact inferInstance; exact rfl; exact rfl; (first | assumption | omega); exact rfl)
 | ((with_reducible apply r_load_f0); exact rfl; exact inferInstance; exact List.getElem?_eq_getElem (by first | assumption | omega); exact rfl; exact rfl)
 | (((with_reducible apply aw_cond); exact rfl) <;> intro hg <;> (first | (exact absurd hg (by decide)) | ((try simp only [decide_eq_true_eq, decide_eq_false_iff_not, Bool.not_eq_true', Bool.not_eq_false', Bool.not_true, Bool.not_false, Bool.not_not, Int.not_lt, Int.not_le, Nat.not_lt, Nat.not_le, gt_iff_lt, ge_iff_le, List.cons.injEq, and_true] at hg); first | (exact absurd trivial hg) | (exfalso; omega) | (have hT : True := hg; clear hT hg) | skip)))
 )
    all_goals exact ret1 (.tmp rfl cl_c)
  rw [if_neg h40] at h3
  repeat' (first
 | ((with_reducible apply aw_seq))
 | ((with_reducible apply aw_region))
 | ((with_reducible apply aw_block))
 | ((with_reducible apply thn_normal))
 | ((with_reducible apply aw_skip))
 | ((with_reducible apply ao_nil))
 | ((with_reducible apply r_move); exact rfl; exact rfl)
 | ((with_reducible apply r_assign); exact rfl; exact rfl)
 | ((with_reducible apply r_lss); exact rfl; exact rfl; exact rfl)
 | ((with_reducible apply r_gtr); exact rfl; exact rfl; exact rfl)
 | ((with_reducible apply r_len_f); exact rfl; exact inferInstance; exact rfl)
 | ((with_reducible apply r_index_f); exact rfl; exact inferInstance; exact rfl; exact rfl; (first | assumption | omega); exact rfl)
 | ((with_reducible apply r_load_f0); exact rfl; exact inferInstance; exact List.getElem?_eq_getElem (by first | assumption | omega); exact rfl; exact rfl)
 | (((with_reducible apply aw_cond); exact rfl) <;> intro hg <;> (first | (exact absurd hg (by decide)) | ((try simp only [decide_eq_true_eq, decide_eq_false_iff_not, Bool.not_eq_true', Bool.not_eq_false', Bool.not_true, Bool.not_false, Bool.not_not, Int.not_lt, Int.not_le, Nat.not_lt, Nat.not_le, gt_iff_lt, ge_iff_le, List.cons.injEq, and_true] at hg); first | (exact absurd trivial hg) | (exfalso; omega) | (have hT : True := hg; clear hT hg) | skip)))
 )
  refine aw_loopG (G := Nat × Nat) (fun ((k, m) : Nat × Nat) => k ≤ gs[i].length ∧ m ≤ 2000 ∧ smL 0 gs = (smG m (gs[i].drop k)).elim false (fun n' => smL n' (gs.drop (i + 1)))) (fun ((k, m) : Nat × Nat) => gs[i].length - k) (fun ((k, m) : Nat × Nat) => [(0, .c (LG gs)), (3, A m), (4, A i), (5, A k)]) (fun ((k, m) : Nat × Nat) => []) 0 (0, n) ?_ (by refine weak_mk rfl ?_ ?_ <;> repeat (first | exact envW_nil | exact heapW_nil | refine envW_cons rfl rfl ?_ | refine heapW_cons rfl rfl rfl ?_)) rfl ?_
  · exact ⟨Nat.zero_le _, h2, by rw [List.drop_zero]; exact h3⟩
  rintro ⟨k, m⟩ hI
  try dsimp only at hI
  try dsimp only
  obtain ⟨g1, g2, g3⟩ := hI
  by_cases hk : k < gs[i].length
  rotate_left
  · rw [List.drop_eq_nil_of_le (by omega), smG] at g3
    repeat' (first
 | ((with_reducible apply aw_seq))
 | ((with_reducible apply aw_region))
 | ((with_reducible apply thn_normal))
 | ((with_reducible apply thn_exit))
 | ((with_reducible apply inb_normal))
 | ((with_reducible apply inb_exit))
 | ((with_reducible apply aw_exit))
 | ((with_reducible apply ao_nil))
 | ((with_reducible apply r_move); exact rfl; exact rfl)
 | ((with_reducible apply r_assign); exact rfl; exact rfl)
 | ((with_reducible apply r_lss); exact rfl; exact rfl; exact rfl)
 | ((with_reducible apply r_add); exact rfl; exact rfl; exact (by first | assumption | (unfold fits; omega)); exact rfl)
 | ((with_reducible apply r_len_f); exact rfl; exact inferInstance; exact rfl)
 | ((with_reducible apply r_index_f); exact rfl; exact inferInstance; exact rfl; exact rfl; (first | assumption | omega); exact rfl)
 | ((with_reducible apply r_load_f0); exact rfl; exact inferInstance; exact List.getElem?_eq_getElem (by first | assumption | omega); exact rfl; exact rfl)
 | (((with_reducible apply aw_cond); exact rfl) <;> intro hg <;> (first | (exact absurd hg (by decide)) | ((try simp only [decide_eq_true_eq, decide_eq_false_iff_not, Bool.not_eq_true', Bool.not_eq_false', Bool.not_true, Bool.not_false, Bool.not_not, Int.not_lt, Int.not_le, Nat.not_lt, Nat.not_le, gt_iff_lt, ge_iff_le, List.cons.injEq, and_true] at hg); first | (exact absurd trivial hg) | (exfalso; omega) | (have hT : True := hg; clear hT hg) | skip)))
 )
    refine ⟨(i + 1, m), ?_, ?_, by refine weak_mk rfl ?_ ?_ <;> repeat (first | exact envW_nil | exact heapW_nil | refine envW_cons rfl rfl ?_ | refine heapW_cons rfl rfl rfl ?_)⟩
    · show _ - (i + 1) < _ - i; omega
    · exact ⟨hi, g2, g3⟩
  rw [List.drop_eq_getElem_cons hk, smG] at g3
  by_cases h16 : gs[i][k].size ≤ 16384
  · rw [if_pos h16] at g3
    by_cases hb : 2000 < m + gs[i][k].size
    · rw [if_pos (.inr hb)] at g3
      rw [g3]
      repeat' (first
 | ((with_reducible apply r_len_s); exact rfl; exact rfl)
 | ((with_reducible apply aw_seq))
 | ((with_reducible apply aw_region))
 | ((with_reducible apply aw_block))
 | ((with_reducible apply thn_normal))
 | ((with_reducible apply thn_ret))
 | ((with_reducible apply inb_ret))
 | ((with_reducible apply aw_skip))
 | ((with_reducible apply aw_ret))
 | ((with_reducible apply ao_nil))
 | ((with_reducible apply r_move); exact rfl; exact rfl)
 | ((with_reducible apply r_assign); exact rfl; exact rfl)
 | ((with_reducible apply r_lss); exact rfl; exact rfl; exact rfl)
 | ((with_reducible apply r_leq); exact rfl; exact rfl; exact rfl)
 | ((with_reducible apply r_gtr); exact rfl; exact rfl; exact rfl)
 | ((with_reducible apply r_add); exact rfl; exact rfl; exact (by first | assumption | (unfold fits; omega)); exact rfl)
 | ((with_reducible apply r_pick_f); exact rfl; exact rfl; exact rfl)
 | ((with_reducible apply r_len_f); exact rfl; exact inferInstance; exact rfl)
 | ((with_reducible apply r_index_f); exact rfl; exact inferInstance; exact rfl; exact rfl; (first | assumption | omega); exact rfl)
 | ((with_reducible apply r_load_f0); exact rfl; exact inferInstance; exact List.getElem?_eq_getElem (by first | assumption | omega); exact rfl; exact rfl)
 | (((with_reducible apply r_guard); exact rfl; exact rfl; exact rfl; exact rfl) <;> intro hg <;> (first | (exact absurd hg (by decide)) | ((try simp only [decide_eq_true_eq, decide_eq_false_iff_not, Bool.not_eq_true', Bool.not_eq_false', Bool.not_true, Bool.not_false, Bool.not_not, Int.not_lt, Int.not_le, Nat.not_lt, Nat.not_le, gt_iff_lt, ge_iff_le, List.cons.injEq, and_true] at hg); first | (exact absurd trivial hg) | (exfalso; omega) | (have hT : True := hg; clear hT hg) | skip)))
 | (((with_reducible apply aw_cond); exact rfl) <;> intro hg <;> (first | (exact absurd hg (by decide)) | ((try simp only [decide_eq_true_eq, decide_eq_false_iff_not, Bool.not_eq_true', Bool.not_eq_false', Bool.not_true, Bool.not_false, Bool.not_not, Int.not_lt, Int.not_le, Nat.not_lt, Nat.not_le, gt_iff_lt, ge_iff_le, List.cons.injEq, and_true] at hg); first | (exact absurd trivial hg) | (exfalso; omega) | (have hT : True := hg; clear hT hg) | skip)))
 )
      all_goals exact ret1 (.tmp rfl cl_c)
    · rw [if_neg (by omega)] at g3
      repeat' (first
 | ((with_reducible apply r_len_s); exact rfl; exact rfl)
 | ((with_reducible apply aw_seq))
 | ((with_reducible apply aw_region))
 | ((with_reducible apply aw_block))
 | ((with_reducible apply thn_normal))
 | ((with_reducible apply inb_normal))
 | ((with_reducible apply aw_skip))
 | ((with_reducible apply ao_nil))
 | ((with_reducible apply r_move); exact rfl; exact rfl)
 | ((with_reducible apply r_assign); exact rfl; exact rfl)
 | ((with_reducible apply r_lss); exact rfl; exact rfl; exact rfl)
 | ((with_reducible apply r_leq); exact rfl; exact rfl; exact rfl)
 | ((with_reducible apply r_gtr); exact rfl; exact rfl; exact rfl)
 | ((with_reducible apply r_add); exact rfl; exact rfl; exact (by first | assumption | (unfold fits; omega)); exact rfl)
 | ((with_reducible apply r_pick_f); exact rfl; exact rfl; exact rfl)
 | ((with_reducible apply r_len_f); exact rfl; exact inferInstance; exact rfl)
 | ((with_reducible apply r_index_f); exact rfl; exact inferInstance; exact rfl; exact rfl; (first | assumption | omega); exact rfl)
 | ((with_reducible apply r_load_f0); exact rfl; exact inferInstance; exact List.getElem?_eq_getElem (by first | assumption | omega); exact rfl; exact rfl)
 | (((with_reducible apply r_guard); exact rfl; exact rfl; exact rfl; exact rfl) <;> intro hg <;> (first | (exact absurd hg (by decide)) | ((try simp only [decide_eq_true_eq, decide_eq_false_iff_not, Bool.not_eq_true', Bool.not_eq_false', Bool.not_true, Bool.not_false, Bool.not_not, Int.not_lt, Int.not_le, Nat.not_lt, Nat.not_le, gt_iff_lt, ge_iff_le, List.cons.injEq, and_true] at hg); first | (exact absurd trivial hg) | (exfalso; omega) | (have hT : True := hg; clear hT hg) | skip)))
 | (((with_reducible apply aw_cond); exact rfl) <;> intro hg <;> (first | (exact absurd hg (by decide)) | ((try simp only [decide_eq_true_eq, decide_eq_false_iff_not, Bool.not_eq_true', Bool.not_eq_false', Bool.not_true, Bool.not_false, Bool.not_not, Int.not_lt, Int.not_le, Nat.not_lt, Nat.not_le, gt_iff_lt, ge_iff_le, List.cons.injEq, and_true] at hg); first | (exact absurd trivial hg) | (exfalso; omega) | (have hT : True := hg; clear hT hg) | skip)))
 )
      refine ⟨(k + 1, m + gs[i][k].size), ?_, ?_, by refine weak_mk rfl ?_ ?_ <;> repeat (first | exact envW_nil | exact heapW_nil | refine envW_cons rfl rfl ?_ | refine heapW_cons rfl rfl rfl ?_)⟩
      · show _ - (k + 1) < _ - k; omega
      · exact ⟨hk, by show m + gs[i][k].size ≤ 2000; omega, g3⟩
  · rw [if_neg h16] at g3
    by_cases hb : 16394 < gs[i][k].size
    · rw [if_pos (.inl hb)] at g3
      rw [g3]
      repeat' (first
 | ((with_reducible apply r_len_s); exact rfl; exact rfl)
 | ((with_reducible apply aw_seq))
 | ((with_reducible apply aw_region))
 | ((with_reducible apply aw_block))
 | ((with_reducible apply thn_normal))
 | ((with_reducible apply thn_ret))
 | ((with_reducible apply inb_ret))
 | ((with_reducible apply aw_skip))
 | ((with_reducible apply aw_ret))
 | ((with_reducible apply ao_nil))
 | ((with_reducible apply r_move); exact rfl; exact rfl)
 | ((with_reducible apply r_assign); exact rfl; exact rfl)
 | ((with_reducible apply r_lss); exact rfl; exact rfl; exact rfl)
 | ((with_reducible apply r_leq); exact rfl; exact rfl; exact rfl)
 | ((with_reducible apply r_gtr); exact rfl; exact rfl; exact rfl)
 | ((with_reducible apply r_pick_t); exact rfl; exact rfl; exact rfl)
 | ((with_reducible apply r_len_f); exact rfl; exact inferInstance; exact rfl)
 | ((with_reducible apply r_index_f); exact rfl; exact inferInstance; exact rfl; exact rfl; (first | assumption | omega); exact rfl)
 | ((with_reducible apply r_load_f0); exact rfl; exact inferInstance; exact List.getElem?_eq_getElem (by first | assumption | omega); exact rfl; exact rfl)
 | (((with_reducible apply r_guard); exact rfl; exact rfl; exact rfl; exact rfl) <;> intro hg <;> (first | (exact absurd hg (by decide)) | ((try simp only [decide_eq_true_eq, decide_eq_false_iff_not, Bool.not_eq_true', Bool.not_eq_false', Bool.not_true, Bool.not_false, Bool.not_not, Int.not_lt, Int.not_le, Nat.not_lt, Nat.not_le, gt_iff_lt, ge_iff_le, List.cons.injEq, and_true] at hg); first | (exact absurd trivial hg) | (exfalso; omega) | (have hT : True := hg; clear hT hg) | skip)))
 | (((with_reducible apply aw_cond); exact rfl) <;> intro hg <;> (first | (exact absurd hg (by decide)) | ((try simp only [decide_eq_true_eq, decide_eq_false_iff_not, Bool.not_eq_true', Bool.not_eq_false', Bool.not_true, Bool.not_false, Bool.not_not, Int.not_lt, Int.not_le, Nat.not_lt, Nat.not_le, gt_iff_lt, ge_iff_le, List.cons.injEq, and_true] at hg); first | (exact absurd trivial hg) | (exfalso; omega) | (have hT : True := hg; clear hT hg) | skip)))
 )
      all_goals exact ret1 (.tmp rfl cl_c)
    · rw [if_neg (by omega)] at g3
      repeat' (first
 | ((with_reducible apply r_len_s); exact rfl; exact rfl)
 | ((with_reducible apply aw_seq))
 | ((with_reducible apply aw_region))
 | ((with_reducible apply aw_block))
 | ((with_reducible apply thn_normal))
 | ((with_reducible apply inb_normal))
 | ((with_reducible apply aw_skip))
 | ((with_reducible apply ao_nil))
 | ((with_reducible apply r_move); exact rfl; exact rfl)
 | ((with_reducible apply r_assign); exact rfl; exact rfl)
 | ((with_reducible apply r_lss); exact rfl; exact rfl; exact rfl)
 | ((with_reducible apply r_leq); exact rfl; exact rfl; exact rfl)
 | ((with_reducible apply r_gtr); exact rfl; exact rfl; exact rfl)
 | ((with_reducible apply r_add); exact rfl; exact rfl; exact (by first | assumption | (unfold fits; omega)); exact rfl)
 | ((with_reducible apply r_pick_f); exact rfl; exact rfl; exact rfl)
 | ((with_reducible apply r_len_f); exact rfl; exact inferInstance; exact rfl)
 | ((with_reducible apply r_index_f); exact rfl; exact inferInstance; exact rfl; exact rfl; (first | assumption | omega); exact rfl)
 | ((with_reducible apply r_load_f0); exact rfl; exact inferInstance; exact List.getElem?_eq_getElem (by first | assumption | omega); exact rfl; exact rfl)
 | (((with_reducible apply r_guard); exact rfl; exact rfl; exact rfl; exact rfl) <;> intro hg <;> (first | (exact absurd hg (by decide)) | ((try simp only [decide_eq_true_eq, decide_eq_false_iff_not, Bool.not_eq_true', Bool.not_eq_false', Bool.not_true, Bool.not_false, Bool.not_not, Int.not_lt, Int.not_le, Nat.not_lt, Nat.not_le, gt_iff_lt, ge_iff_le, List.cons.injEq, and_true] at hg); first | (exact absurd trivial hg) | (exfalso; omega) | (have hT : True := hg; clear hT hg) | skip)))
 | (((with_reducible apply aw_cond); exact rfl) <;> intro hg <;> (first | (exact absurd hg (by decide)) | ((try simp only [decide_eq_true_eq, decide_eq_false_iff_not, Bool.not_eq_true', Bool.not_eq_false', Bool.not_true, Bool.not_false, Bool.not_not, Int.not_lt, Int.not_le, Nat.not_lt, Nat.not_le, gt_iff_lt, ge_iff_le, List.cons.injEq, and_true] at hg); first | (exact absurd trivial hg) | (exfalso; omega) | (have hT : True := hg; clear hT hg) | skip)))
 )
      all_goals
        refine ⟨(k + 1, m), ?_, ?_, by refine weak_mk rfl ?_ ?_ <;> repeat (first | exact envW_nil | exact heapW_nil | refine envW_cons rfl rfl ?_ | refine heapW_cons rfl rfl rfl ?_)⟩
        · show _ - (k + 1) < _ - k; omega
        · exact ⟨hk, g2, g3⟩
end Go.Proofs.Ythkjkhffljlidaa.Jo
/- The journal: is, again, open. -/
namespace Go.Proofs.Ythkjkhffljlidaa.Jo
set_option linter.unusedVariables false
set_option linter.unusedSimpArgs false
open Go.RowKit Go.Proofs.Ythkjkhffljlidaa.Ev Go.Proofs.Ythkjkhffljlidaa.Dk
variable {gl : List (Nat × List CV)}
theorem cont_short {prev : Nat} {b : ByteArray} (h : b.size ≤ 19) : contS prev b = none := by
  unfold contS
  rw [if_neg (fun hc : Cont prev b => by have := hc.1; omega)]
theorem openD_new (n : Nat) : openD (DS.new n) = J0 := by
  unfold openD
  cases hc : contents (DS.new n) with
  | nil => rfl
  | cons b l =>
    have hb : b ∈ contents (DS.new n) := by rw [hc]; exact List.mem_cons_self ..
    unfold contents at hb
    obtain ⟨k, hk, rfl⟩ := List.mem_map.1 hb
    refine findG_none (cont_short ?_)
    unfold DS.read DS.new
    dsimp only
    split
    · exact Nat.zero_le _
    split
    · simp only [newest, Option.getD_none]
      rw [List.getD_eq_getElem?_getD]
      cases hg : (List.replicate n ByteArray.empty)[(k : Int).toNat]? with
      | none => exact Nat.zero_le _
      | some x =>
        have := List.mem_of_getElem? hg
        rw [List.mem_replicate] at this
        rw [this.2]; exact Nat.zero_le _
    · exact Nat.zero_le _
theorem open_law (n : Nat) (hn : 1 ≤ n ∧ n ≤ 4096) : NConE Try.prog gl 16 [I n] (fun γ : Nat × Nat => [.p, .c (ptrV γ.2 0)]) (fun γ => DJ (DS.new n) 0 γ.1 γ.2 J0) := by
  refine nconE_of (Γ := Nat × Nat) (t1 := 2) (t2 := 3) (r1 := fun _ => .p) (r2 := fun γ => .c (ptrV γ.2 0)) (p := fun γ => DJ (DS.new n) 0 γ.1 γ.2 J0) Try.func16 rfl Try.results16 (by kernel_rfl) rfl ?_
  simp only [Try.ntmps16, Try.results16, argEnv, ofC, of1, List.map]
  repeat' (first
 | ((with_reducible apply (r_callN (f := 27))); exact dsk_new n hn; exact rfl; exact ⟨.inl rfl, trivial⟩; exact rfl)
 | ((with_reducible apply r_eqnilp); exact rfl; exact rfl; exact rfl)
 | ((with_reducible apply aw_seq))
 | ((with_reducible apply aw_region))
 | ((with_reducible apply thn_normal))
 | ((with_reducible apply aw_skip))
 | ((with_reducible apply ao_nil))
 | ((with_reducible apply r_move); exact rfl; exact rfl)
 | ((with_reducible apply r_assign); exact rfl; exact rfl)
 | ((with_reducible apply r_neq); exact rfl; exact rfl; exact rfl)
 | ((with_reducible apply r_pick_f); exact rfl; exact rfl; exact rfl)
 | ((with_reducible apply r_extract); exact rfl; exact rfl; exact rfl)
 | (((with_reducible apply r_guard); exact rfl; exact rfl; exact rfl; exact rfl) <;> intro hg <;> (first | (exact absurd hg (by decide)) | ((try simp only [decide_eq_true_eq, decide_eq_false_iff_not, Bool.not_eq_true', Bool.not_eq_false', Bool.not_true, Bool.not_false, Bool.not_not, Int.not_lt, Int.not_le, Nat.not_lt, Nat.not_le, gt_iff_lt, ge_iff_le, List.cons.injEq, and_true] at hg); first | (exact absurd trivial hg) | (exfalso; omega) | (have hT : True := hg; clear hT hg) | skip)))
 | (((with_reducible apply aw_cond); exact rfl) <;> intro hg <;> (first | (exact absurd hg (by decide)) | ((try simp only [decide_eq_true_eq, decide_eq_false_iff_not, Bool.not_eq_true', Bool.not_eq_false', Bool.not_true, Bool.not_false, Bool.not_not, Int.not_lt, Int.not_le, Nat.not_lt, Nat.not_le, gt_iff_lt, ge_iff_le, List.cons.injEq, and_true] at hg); first | (exact absurd trivial hg) | (exfalso; omega) | (have hT : True := hg; clear hT hg) | skip)))
 )
  refine ao_root 0 rfl (fun kd => ?_)
  have c1 := open_up (gl := gl) (DS.new n) 0 kd rfl (Fine.new n hn.1 hn.2)
  rw [openD_new] at c1
  refine r_callOE 0 c1 rfl rfl rfl rfl (fun kj => ?_)
  repeat' (first
 | ((with_reducible apply r_eqnil1); exact rfl; exact rfl; exact rfl)
 | ((with_reducible apply aw_seq))
 | ((with_reducible apply aw_region))
 | ((with_reducible apply thn_normal))
 | ((with_reducible apply aw_skip))
 | ((with_reducible apply aw_ret))
 | ((with_reducible apply ao_nil))
 | ((with_reducible apply r_move); exact rfl; exact rfl)
 | ((with_reducible apply r_assign); exact rfl; exact rfl)
 | ((with_reducible apply r_neq); exact rfl; exact rfl; exact rfl)
 | ((with_reducible apply r_pick_f); exact rfl; exact rfl; exact rfl)
 | ((with_reducible apply r_extract); exact rfl; exact rfl; exact rfl)
 | (((with_reducible apply r_guard); exact rfl; exact rfl; exact rfl; exact rfl) <;> intro hg <;> (first | (exact absurd hg (by decide)) | ((try simp only [decide_eq_true_eq, decide_eq_false_iff_not, Bool.not_eq_true', Bool.not_eq_false', Bool.not_true, Bool.not_false, Bool.not_not, Int.not_lt, Int.not_le, Nat.not_lt, Nat.not_le, gt_iff_lt, ge_iff_le, List.cons.injEq, and_true] at hg); first | (exact absurd trivial hg) | (exfalso; omega) | (have hT : True := hg; clear hT hg) | skip)))
 | (((with_reducible apply aw_cond); exact rfl) <;> intro hg <;> (first | (exact absurd hg (by decide)) | ((try simp only [decide_eq_true_eq, decide_eq_false_iff_not, Bool.not_eq_true', Bool.not_eq_false', Bool.not_true, Bool.not_false, Bool.not_not, Int.not_lt, Int.not_le, Nat.not_lt, Nat.not_le, gt_iff_lt, ge_iff_le, List.cons.injEq, and_true] at hg); first | (exact absurd trivial hg) | (exfalso; omega) | (have hT : True := hg; clear hT hg) | skip)))
 )
  all_goals exact ⟨.inr rfl, (kd, kj), 0, _, _, rfl, rfl, rfl, rfl, Or.inl rfl⟩
end Go.Proofs.Ythkjkhffljlidaa.Jo
/- The journal, plain: what is written on a disk that does not crash. -/
namespace Go.Proofs.Ythkjkhffljlidaa.Jo
set_option linter.unusedVariables false
set_option linter.unusedSimpArgs false
open Go.RowKit Go.Proofs.Ythkjkhffljlidaa.Ev Go.Proofs.Ythkjkhffljlidaa.Dk
variable {gl : List (Nat × List CV)}
def putAt (l : List ByteArray) (n : Nat) : List ByteArray → List ByteArray
  | [] => l
  | b :: bl => putAt (l.set n b) (n + 1) bl
theorem putAt_len : ∀ (bl : List ByteArray) (l : List ByteArray) (n : Nat), (putAt l n bl).length = l.length
  | [], l, n => rfl
  | b :: bl, l, n => by rw [putAt, putAt_len bl]; simp
def pairs (n : Nat) : List ByteArray → List (Int × ByteArray)
  | [] => []
  | b :: bl => ((n : Int), b) :: pairs (n + 1) bl
theorem settle_pairs : ∀ (bl : List ByteArray) (n k : Nat) (b : List ByteArray), settleGo (fun _ => true) k (pairs n bl) b = putAt b n bl
  | [], n, k, b => rfl
  | x :: bl, n, k, b => by
    simp only [pairs, settleGo, if_true, putAt]
    exact settle_pairs bl (n + 1) (k + 1) _
theorem write_free {d : DS} (hd : d.down = false) (ha : d.armed = false) {n : Nat} (hn : n < d.blocks.length) {b : ByteArray} (hs : b.size ≤ 64) : d.write (n : Int) b = ({ d with pend := d.pend ++ [((n : Int), b)] }, 0) := by
  have hst : d.step = (d, true) := by unfold DS.step; rw [ha, if_neg (by decide)]
  unfold DS.write inB
  rw [if_neg (by rw [hd]; decide), if_pos (by simp [hn]), if_neg (by omega), hst, if_pos rfl]
theorem flush_free {d : DS} (hd : d.down = false) (ha : d.armed = false) : d.flush = ({ d with blocks := settleGo (fun _ => true) 0 d.pend d.blocks, pend := [] }, 0) := by
  have hst : d.step = (d, true) := by unfold DS.step; rw [ha, if_neg (by decide)]
  unfold DS.flush
  rw [if_neg (by rw [hd]; decide), hst, if_pos rfl]
  rfl
theorem writeS_free : ∀ (bl : List ByteArray) (d : DS) (n : Nat), d.down = false → d.armed = false → n + bl.length ≤ d.blocks.length → (∀ x ∈ bl, x.size ≤ 64) → writeS d n bl = ({ d with blocks := settleGo (fun _ => true) 0 (d.pend ++ pairs n bl) d.blocks, pend := [] }, 0)
  | [], d, n, hd, ha, hn, hs => by rw [writeS, flush_free hd ha]; simp [pairs]
  | b :: bl, d, n, hd, ha, hn, hs => by
    rw [List.length_cons] at hn
    rw [writeS, write_free hd ha (by omega) (hs b (List.mem_cons_self ..)), if_neg (by simp)]
    rw [writeS_free bl { d with pend := d.pend ++ [((n : Int), b)] } (n + 1) hd ha (by show n + 1 + bl.length ≤ d.blocks.length; omega) (fun x hx => hs x (List.mem_cons_of_mem _ hx))]
    simp [pairs]
structure Quiet (d : DS) : Prop where
  up : d.down = false
  free : d.armed = false
  none : d.pend = []
theorem writeS_quiet {d : DS} (h : Quiet d) {n : Nat} {bl : List ByteArray} (hn : n + bl.length ≤ d.blocks.length) (hs : ∀ x ∈ bl, x.size ≤ 64) : writeS d n bl = ({ d with blocks := putAt d.blocks n bl }, 0) := by
  rw [writeS_free bl d n h.up h.free hn hs, h.none, List.nil_append, settle_pairs]
theorem new_quiet (n : Nat) : Quiet (DS.new n) := ⟨rfl, rfl, rfl⟩
theorem divB_length : ∀ (k prev : Nat) (s : ByteArray), s.size ≤ k → (divB prev s).1.length = (s.size + 44) / 45
  | 0, prev, s, h => by rw [divB_nil (by omega), show s.size = 0 by omega]; rfl
  | k + 1, prev, s, h => by
    by_cases h0 : s.size = 0
    · rw [divB_nil h0, h0]; rfl
    · rw [divB_cons h0 rfl rfl rfl, List.length_cons, divB_length k _ _ (by rw [ByteArray.size_extract]; omega), ByteArray.size_extract]
      omega
theorem divB_one {prev : Nat} {s : ByteArray} (h0 : s.size ≠ 0) (h : s.size ≤ 45) : divB prev s = ([hexS (chainS prev (restN 46 s.size s)) ++ restN 46 s.size s], chainS prev (restN 46 s.size s)) := by
  have e : s.extract 0 s.size = s := ba_eq (by rw [ba_ext, List.drop_zero, List.take_of_length_le (by rw [ba_size]; omega)])
  have hr : restN 46 s.size s = restN (markB (decide (s.size ≤ 45))) s.size (s.extract 0 s.size) := by rw [e, decide_eq_true h]; rfl
  rw [divB_cons h0 (n := s.size) (by omega) hr rfl, divB_nil (by rw [ByteArray.size_extract]; omega)]
end Go.Proofs.Ythkjkhffljlidaa.Jo
/- The journal: whether a block continues it, in the reference. -/
namespace Go.Proofs.Ythkjkhffljlidaa.Jo
set_option linter.unusedVariables false
set_option linter.unusedSimpArgs false
open Go.RowKit Go.Proofs.Ythkjkhffljlidaa.Ev
variable {gl : List (Nat × List CV)}
section
variable {P : Program} {X : List Oper → St → Prop} {rest : List Oper} {d : Nat} {ty : TypeId} {pos : String} {af : Array Edge} {n : Nat} {env : List (Nat × AV)} {heap : List (Nat × Option AB)} {nx : Nat} {gl : List (Nat × List CV)}
theorem r_neqstr_v [W : Walk P X] {x y : Operand} {t t2 : TypeId} {a b : ByteArray} (v : Bool) (hx : St.ev ⟨n, env, heap, nx, gl⟩ x = some (.c (.v (.string a)))) (hy : St.ev ⟨n, env, heap, nx, gl⟩ y = some (.c (.v (.string b)))) (hv : (a.toList == b.toList) = v) (hd : Nat.blt d n = true) (h : X rest ⟨n, (d, .c (.v (.bool (!v)))) :: env, heap, nx, gl⟩) : X (⟨some d, .binOp .neq t x y t2, ty, pos, af, none⟩ :: rest) ⟨n, env, heap, nx, gl⟩ := by
  subst hv; exact r_neqstr hx hy hd h
end
end Go.Proofs.Ythkjkhffljlidaa.Jo
/- The journal: the examples of the chapter. -/
namespace Go.Proofs.Ythkjkhffljlidaa.Jo
set_option linter.unusedVariables false
set_option linter.unusedSimpArgs false
open Go.RowKit Go.Proofs.Ythkjkhffljlidaa.Ev Go.Proofs.Ythkjkhffljlidaa.Dk
variable {gl : List (Nat × List CV)}
abbrev sAB : ByteArray := ⟨#[97, 98]⟩
abbrev sA : ByteArray := ⟨#[97]⟩
abbrev sB : ByteArray := ⟨#[98]⟩
abbrev sR : ByteArray := ⟨#[46, 48, 51, 2, 97, 98]⟩
def sZ : ByteArray := ⟨(List.replicate 45 (0 : UInt8)).toArray⟩
theorem sZ_size : sZ.size = 45 := by show (List.replicate 45 (0 : UInt8)).toArray.size = 45; simp
theorem stream_one (s : ByteArray) (h : s.size < 128) : streamB [s] = ⟨(UInt8.ofNat s.size :: s.data.toList).toArray⟩ := by
  apply ba_eq
  show streamL [s] = _
  unfold streamL textS uvarS
  simp only [List.flatMap_cons, List.flatMap_nil]
  rw [uvar_lo h, ba_app, List.append_nil]
  rfl
theorem div_ab : (divS 0 [sAB]).1 = [hexS (chainS 0 sR) ++ sR] ∧ (divS 0 [sAB]).2.2 = 0 := by
  have hc : chkS [sAB] = 0 := by decide +kernel
  have hs : streamB [sAB] = ⟨#[2, 97, 98]⟩ := stream_one sAB (by decide)
  have hr : restN 46 3 ⟨#[2, 97, 98]⟩ = sR := by decide +kernel
  unfold divS
  rw [hc, if_neg (by decide), hs, divB_one (by decide) (by decide)]
  show [hexS (chainS 0 (restN 46 3 ⟨#[2, 97, 98]⟩)) ++ restN 46 3 ⟨#[2, 97, 98]⟩] = _ ∧ (0 : Int) = 0
  rw [hr]
  exact ⟨rfl, rfl⟩
theorem div_two : (divS 0 [sA, sB]).1.length = 1 ∧ (divS 0 [sA, sB]).2.2 = 0 := by
  have hc : chkS [sA, sB] = 0 := by decide +kernel
  have hs : streamB [sA, sB] = ⟨#[1, 97, 1, 98]⟩ := by
    apply ba_eq
    show streamL [sA, sB] = _
    unfold streamL textS uvarS
    simp only [List.flatMap_cons, List.flatMap_nil]
    rw [uvar_lo (by decide), uvar_lo (by decide)]
    rfl
  unfold divS
  rw [hc, if_neg (by decide), hs]
  refine ⟨?_, rfl⟩
  show (divB 0 ⟨#[1, 97, 1, 98]⟩).1.length = 1
  rw [divB_length 4 0 _ (by decide)]
  rfl
theorem div_long (prev : Nat) : (divS prev [sZ]).1.length = 2 ∧ (divS prev [sZ]).2.2 = 0 := by
  have hc : chkS [sZ] = 0 := by
    unfold chkS
    rw [if_neg (by simp), if_neg (by simp), any_not (fun i hi => by
      have : i = 0 := by simpa using hi
      subst this
      show sZ.size ≤ _
      rw [sZ_size]; omega)]
    rfl
  have hsz : (streamB [sZ]).size = 46 := by
    rw [stream_one sZ (by rw [sZ_size]; omega)]
    show (UInt8.ofNat sZ.size :: sZ.data.toList).toArray.size = 46
    rw [List.size_toArray, List.length_cons, ba_size, sZ_size]
  unfold divS
  rw [hc, if_neg (by decide)]
  refine ⟨?_, rfl⟩
  show (divB prev (streamB [sZ])).1.length = 2
  rw [divB_length 46 _ _ (by omega), hsz]
theorem app_quiet {t : JS} {d : DS} {g : List ByteArray} (ht : t.stop = false) (hq : Quiet d) (he : (divS t.head g).2.2 = 0) (hl : t.used + (divS t.head g).1.length ≤ d.blocks.length) :
    appS t d g = (t.add g (t.used + (divS t.head g).1.length) (divS t.head g).2.1, { d with blocks := putAt d.blocks t.used (divS t.head g).1 }, 0) := by
  unfold appS
  rw [ht, if_neg (by decide), if_neg (by rw [he]; decide), if_neg (by omega), writeS_quiet hq hl (divS_size _ _)]
  rfl
theorem app_full {t : JS} {d : DS} {g : List ByteArray} (ht : t.stop = false) (he : (divS t.head g).2.2 = 0) (hl : d.blocks.length < t.used + (divS t.head g).1.length) : appS t d g = (t, d, 12) := by
  unfold appS
  rw [ht, if_neg (by decide), if_neg (by rw [he]; decide), if_pos hl]
theorem awake_con : Con Try.prog gl 11 [] T := by
  have b0 := blocks_con (gl := gl) 0 (by decide) [sAB] (by decide)
  obtain ⟨a1, a2⟩ := div_ab
  rw [a1, a2] at b0
  have b1 := blocks_con (gl := gl) 0 (by decide) [sZ] (by decide)
  obtain ⟨a3, a4⟩ := div_long 0
  rw [a4] at b1
  generalize (divS 0 [sZ]).1 = m at b1 a3
  have k0 := chain_con (gl := gl) 0 (by decide) sR (by decide)
  have hcl := chainS_lt 0 sR
  have k1 := hex_con (gl := gl) (chainS 0 sR) hcl
  have hhs := hexS_size (chainS 0 sR)
  have hxx : ((hexS (chainS 0 sR) ++ sR).toList == (hexS (chainS 0 sR) ++ sR).toList) = true := by simp
  generalize chainS 0 sR = q at b0 k0 k1 hcl hhs hxx
  generalize hexS q = x at b0 k1 hhs hxx
  generalize hL : [x ++ sR] = l at b0
  have hl : l.length = 1 := by rw [← hL]; rfl
  have hl0 : ((l[Int.toNat 0]'(by rw [hl]; decide)).toList == (x ++ sR).toList) = true := by subst hL; exact hxx
  clear hL hxx
  obtain ⟨a5, a6⟩ := div_two
  have hap := app_quiet (t := J0) (d := DS.new 2) (g := [sA, sB]) rfl (new_quiet 2) a6 (by rw [a5]; decide)
  rw [a5] at hap
  have hlt := divS_lt 0 [sA, sB] (by decide)
  refine con_of Try.func11 rfl (by kernel_rfl) rfl ?_
  simp only [Try.ntmps11, Try.results11, argEnv, ofC, of1, List.map]
  repeat' (first
 | ((with_reducible apply r_litq); exact rfl; exact rfl; exact rfl; exact rfl; exact rfl; exact rfl; exact rfl)
 | ((with_reducible apply (r_call (f := 12))); exact rfl; exact rfl; exact b0; exact rfl; exact rfl)
 | ((with_reducible apply aw_seq))
 | ((with_reducible apply aw_region))
 | ((with_reducible apply thn_normal))
 | ((with_reducible apply ao_nil))
 | ((with_reducible apply r_move); exact rfl; exact rfl)
 | ((with_reducible apply r_assign); exact rfl; exact rfl)
 | ((with_reducible apply r_extract); exact rfl; exact rfl; exact rfl)
 )
  refine r_callNE (open_law 2 (by decide)) rfl ⟨.inl rfl, trivial⟩ rfl ?_
  rintro ⟨kd, kj⟩
  have r0 : OCon Try.prog gl 18 [.c (ptrV kj 0)] (DJ (DS.new 2) 0 kd kj J0) (I 2) (DJ (DS.new 2) 0 kd kj J0) := room_dj (gl := gl) (DS.new 2) 0 kd kj J0 (by decide) (by decide)
  have ap := append_dj (gl := gl) (DS.new 2) 0 kd kj J0 [sA, sB] (by decide) (by decide) (by decide) (by decide) (by decide) (by decide) (by decide)
  rw [hap] at ap
  generalize (divS 0 [sA, sB]).2.1 = h1 at ap hlt
  obtain ⟨d1, hd1⟩ : ∃ d1 : DS, d1 = { DS.new 2 with blocks := putAt (DS.new 2).blocks 0 (divS 0 [sA, sB]).1 } := ⟨_, rfl⟩
  have hl1 : d1.blocks.length = 2 := by rw [hd1]; show (putAt _ _ _).length = 2; rw [putAt_len]; rfl
  change OCon _ _ _ _ _ (I 0) (DJ { DS.new 2 with blocks := putAt (DS.new 2).blocks 0 (divS 0 [sA, sB]).1 } 5000 kd kj ⟨[[sA, sB]], 1, h1, false⟩) at ap
  rw [← hd1] at ap
  clear hd1 hap
  have r1 := room_dj (gl := gl) d1 5000 kd kj ⟨[[sA, sB]], 1, h1, false⟩ (by omega) (show 1 ≤ 1000000 by decide)
  rw [hl1] at r1
  have r1 : OCon Try.prog gl 18 [.c (ptrV kj 0)] (DJ d1 5000 kd kj ⟨[[sA, sB]], 1, h1, false⟩) (I 1) (DJ d1 5000 kd kj ⟨[[sA, sB]], 1, h1, false⟩) := r1
  have g1 : OCon Try.prog gl 32 [.c (ptrV kj 0)] (DJ d1 5000 kd kj ⟨[[sA, sB]], 1, h1, false⟩) (I 1) (DJ d1 5000 kd kj ⟨[[sA, sB]], 1, h1, false⟩) := (groups_j (gl := gl) kd ⟨[[sA, sB]], 1, h1, false⟩).right ((dskP d1 5000).at kd) kj
  have e1 := (records_j (gl := gl) kd ⟨[[sA, sB]], 1, h1, false⟩ (show [[sA, sB]].flatten.length ≤ 1000000000 by decide)).right ((dskP d1 5000).at kd) kj
  have s1 := same_con (gl := gl) [sA, sB] [sA, sB] (by decide) (by decide)
  rw [decide_eq_true rfl] at s1
  obtain ⟨a7, a8⟩ := div_long h1
  have af := append_dj (gl := gl) d1 5000 kd kj ⟨[[sA, sB]], 1, h1, false⟩ [sZ] (by decide) (by omega) (show 1 ≤ 4096 by decide) hlt (by decide) (show [[sA, sB]].flatten.length ≤ 100000000 by decide) (show 1 ≤ 100000000 by decide)
  rw [app_full (t := ⟨[[sA, sB]], 1, h1, false⟩) rfl a8 (by rw [a7, hl1]; show 2 < 1 + 2; decide)] at af
  repeat' (first
 | ((with_reducible apply (r_call (f := 41))); exact rfl; exact rfl; exact k0; exact rfl; exact rfl)
 | ((with_reducible apply (r_call (f := 40))); exact rfl; exact rfl; exact k1; exact rfl; exact rfl)
 | ((with_reducible apply r_adds); exact rfl; exact rfl; exact (by rw [hhs]; decide); exact rfl)
 | ((with_reducible apply r_neqstr_v); exact rfl; exact rfl; exact hl0; exact rfl)
 | ((with_reducible apply r_eqnilp); exact rfl; exact rfl; exact rfl)
 | ((with_reducible apply r_litq); exact rfl; exact rfl; exact rfl; exact rfl; exact rfl; exact rfl; exact rfl)
 | ((with_reducible apply (r_call (f := 12))); exact rfl; exact rfl; exact b1; exact rfl; exact rfl)
 | ((with_reducible apply (r_callqO (f := 18) 0)); exact r0; exact rfl; exact rfl; exact rfl; exact rfl; exact rfl)
 | ((with_reducible apply (r_callqO (f := 18) 0)); exact r1; exact rfl; exact rfl; exact rfl; exact rfl; exact rfl)
 | ((with_reducible apply (r_callO (f := 17) 0)); exact ap; exact rfl; exact rfl; exact rfl; exact rfl)
 | ((with_reducible apply (r_callO (f := 17) 0)); exact af; exact rfl; exact rfl; exact rfl; exact rfl)
 | ((with_reducible apply (r_callqO (f := 32) 0)); exact g1; exact rfl; exact rfl; exact rfl; exact rfl; exact rfl)
 | ((with_reducible apply (r_callqO (f := 30) 0)); exact e1; exact rfl; exact rfl; exact rfl; exact rfl; exact rfl)
 | ((with_reducible apply (r_call (f := 14))); exact rfl; exact rfl; exact s1; exact rfl; exact rfl)
 | ((with_reducible apply (r_make (enc := u8C) (0 : UInt8) 45)); exact inferInstance; exact rfl; exact rfl; exact rfl; exact rfl; exact rfl; exact (by decide); exact (by decide); exact rfl)
 | ((with_reducible apply (r_strOfV (List.replicate 45 (0 : UInt8)))); exact rfl; exact rfl; exact rfl; exact (by decide); exact rfl)
 | ((with_reducible apply aw_seq))
 | ((with_reducible apply aw_region))
 | ((with_reducible apply thn_normal))
 | ((with_reducible apply aw_skip))
 | ((with_reducible apply aw_ret))
 | ((with_reducible apply ao_nil))
 | ((with_reducible apply r_move); exact rfl; exact rfl)
 | ((with_reducible apply r_assign); exact rfl; exact rfl)
 | ((with_reducible apply r_eql); exact rfl; exact rfl; exact rfl)
 | ((with_reducible apply r_neq); exact rfl; exact rfl; exact rfl)
 | ((with_reducible apply r_pick_t); exact rfl; exact rfl; exact rfl)
 | ((with_reducible apply r_pick_f); exact rfl; exact rfl; exact rfl)
 | ((with_reducible apply r_len_f); exact rfl; exact inferInstance; exact rfl)
 | ((with_reducible apply r_index_f); exact rfl; exact inferInstance; exact rfl; exact (Int.toNat_of_nonneg (by omega)).symm; (first | assumption | omega); exact rfl)
 | ((with_reducible apply r_load_f0); exact rfl; exact inferInstance; exact List.getElem?_eq_getElem (by first | assumption | omega); exact rfl; exact rfl)
 | ((with_reducible apply r_extract); exact rfl; exact rfl; exact rfl)
 | (((with_reducible apply r_guard); exact rfl; exact rfl; exact rfl; exact rfl) <;> intro hg <;> (first | (exact absurd hg (by decide)) | ((try simp only [decide_eq_true_eq, decide_eq_false_iff_not, Bool.not_eq_true', Bool.not_eq_false', Bool.not_true, Bool.not_false, Bool.not_not, Int.not_lt, Int.not_le, Nat.not_lt, Nat.not_le, gt_iff_lt, ge_iff_le, List.cons.injEq, and_true] at hg); first | (exact absurd trivial hg) | (exfalso; omega) | (have hT : True := hg; clear hT hg) | skip)))
 | (((with_reducible apply aw_cond); exact rfl) <;> intro hg <;> (first | (exact absurd hg (by decide)) | ((try simp only [decide_eq_true_eq, decide_eq_false_iff_not, Bool.not_eq_true', Bool.not_eq_false', Bool.not_true, Bool.not_false, Bool.not_not, Int.not_lt, Int.not_le, Nat.not_lt, Nat.not_le, gt_iff_lt, ge_iff_le, List.cons.injEq, and_true] at hg); first | (exact absurd trivial hg) | (exfalso; omega) | (have hT : True := hg; clear hT hg) | skip)))
 | (refine aw_drawq ?_ ?_; (kernel_rfl))
 | ((with_reducible apply ds_nil))
 | (((with_reducible apply rd_guard); exact rfl; exact rfl; exact rfl) <;> intro hg <;> (first | (exact absurd hg (by decide)) | ((try rw [hg]); (try simp only [decide_eq_true_eq, decide_eq_false_iff_not, Bool.not_eq_true', Bool.not_eq_false', Bool.not_true, Bool.not_false, Bool.not_not, Int.not_lt, Int.not_le, Nat.not_lt, Nat.not_le, gt_iff_lt, ge_iff_le, List.cons.injEq, and_true] at hg); first | (exact absurd trivial hg) | (exfalso; omega) | (have hT : True := hg; clear hT hg) | skip)))
 )
  all_goals exact ret_b rfl (by simp [a3])
end Go.Proofs.Ythkjkhffljlidaa.Jo
/- The law JournalBlocks. -/
namespace Go.Proofs.Ythkjkhffljlidaa.Jo
set_option linter.unusedVariables false
set_option linter.unusedSimpArgs false
open Go.RowKit Go.Proofs.Ythkjkhffljlidaa.Ev Go.Proofs.Ythkjkhffljlidaa.Dk
variable {gl : List (Nat × List CV)}
theorem u64_nat {n : Int} (h : 0 ≤ n ∧ n < 18446744073709551616) : ∃ m : Nat, n = (m : Int) ∧ m < 2 ^ 64 := ⟨n.toNat, by omega, by omega⟩
theorem divS_len (prev : Nat) (g : List ByteArray) : (divS prev g).1.length ≤ 600000 := by
  unfold divS
  split
  · exact Nat.zero_le _
  · rename_i h
    have h : chkS g = 0 := Decidable.not_not.1 h
    obtain ⟨_, h1, h2⟩ := chk_z h
    have h3 := streamL_len h2 g.length (Nat.le_refl _)
    rw [List.take_length] at h3
    have h4 : (streamB g).size = (streamL g).length := by show (streamL g).toArray.size = _; simp
    have := (divB_len (streamB g).size prev (streamB g) (Nat.le_refl _)).1
    show (divB prev (streamB g)).1.length ≤ _
    omega
theorem jblocks_law (n : Int) (hn : 0 ≤ n ∧ n < 18446744073709551616) (g : List ByteArray) (_ : (∀ x ∈ g, x.size ≤ maxLen) ∧ g.length ≤ maxLen) : Con Try.prog gl 3 [U n, LT g] T := by
  obtain ⟨prev, rfl, hp⟩ := u64_nat hn
  have c0 := small_con (gl := gl) [g]
  have ca := awake_con (gl := gl)
  cases hs : smallS [g] with
  | false =>
    rw [hs] at c0
    refine con_of Try.func3 rfl (by kernel_rfl) rfl ?_
    simp only [Try.ntmps3, Try.results3, argEnv, ofC, of1, List.map]
    repeat' (first
 | ((with_reducible apply r_litq); exact rfl; exact rfl; exact rfl; exact rfl; exact rfl; exact rfl; exact rfl)
 | ((with_reducible apply (r_call (f := 10))); exact rfl; exact rfl; exact c0; exact rfl; exact rfl)
 | ((with_reducible apply (r_call (args := []) (f := 11))); exact rfl; exact rfl; exact ca; exact rfl; exact rfl)
 | ((with_reducible apply aw_seq))
 | ((with_reducible apply aw_region))
 | ((with_reducible apply thn_normal))
 | ((with_reducible apply thn_ret))
 | ((with_reducible apply aw_ret))
 | ((with_reducible apply ao_nil))
 | ((with_reducible apply r_move); exact rfl; exact rfl)
 | ((with_reducible apply r_assign); exact rfl; exact rfl)
 | ((with_reducible apply r_not); exact rfl; exact rfl)
 | (((with_reducible apply aw_cond); exact rfl) <;> intro hg <;> (first | (exact absurd hg (by decide)) | ((try simp only [decide_eq_true_eq, decide_eq_false_iff_not, Bool.not_eq_true', Bool.not_eq_false', Bool.not_true, Bool.not_false, Bool.not_not, Int.not_lt, Int.not_le, Nat.not_lt, Nat.not_le, gt_iff_lt, ge_iff_le, List.cons.injEq, and_true] at hg); first | (exact absurd trivial hg) | (exfalso; omega) | (have hT : True := hg; clear hT hg) | skip)))
 )
    all_goals exact ret_b rfl rfl
  | true =>
    rw [hs] at c0
    obtain ⟨_, hb⟩ := small_bd hs
    have hg := (hb g (List.mem_singleton.2 rfl)).1
    have c1 := blocks_con (gl := gl) prev hp g (by omega)
    have c2 := rblocks_con (gl := gl) prev hp g (by omega)
    have c3 := same_con (gl := gl) (divS prev g).1 (divS prev g).1 (by have := divS_len prev g; omega) (by have := divS_len prev g; omega)
    rw [decide_eq_true rfl] at c3
    generalize divS prev g = v at c1 c2 c3
    obtain ⟨l, h, e⟩ := v
    dsimp only at c1 c2 c3
    refine con_of Try.func3 rfl (by kernel_rfl) rfl ?_
    simp only [Try.ntmps3, Try.results3, argEnv, ofC, of1, List.map]
    repeat' (first
 | ((with_reducible apply r_litq); exact rfl; exact rfl; exact rfl; exact rfl; exact rfl; exact rfl; exact rfl)
 | ((with_reducible apply (r_call (f := 10))); exact rfl; exact rfl; exact c0; exact rfl; exact rfl)
 | ((with_reducible apply (r_call (f := 12))); exact rfl; exact rfl; exact c1; exact rfl; exact rfl)
 | ((with_reducible apply (r_call (f := 13))); exact rfl; exact rfl; exact c2; exact rfl; exact rfl)
 | ((with_reducible apply (r_call (f := 14))); exact rfl; exact rfl; exact c3; exact rfl; exact rfl)
 | ((with_reducible apply (r_call (args := []) (f := 11))); exact rfl; exact rfl; exact ca; exact rfl; exact rfl)
 | ((with_reducible apply aw_seq))
 | ((with_reducible apply aw_region))
 | ((with_reducible apply thn_normal))
 | ((with_reducible apply aw_skip))
 | ((with_reducible apply aw_ret))
 | ((with_reducible apply ao_nil))
 | ((with_reducible apply r_move); exact rfl; exact rfl)
 | ((with_reducible apply r_assign); exact rfl; exact rfl)
 | ((with_reducible apply r_eql); exact rfl; exact rfl; exact rfl)
 | ((with_reducible apply r_pick_t); exact rfl; exact rfl; exact rfl)
 | ((with_reducible apply r_not); exact rfl; exact rfl)
 | ((with_reducible apply r_extract); exact rfl; exact rfl; exact rfl)
 | (((with_reducible apply r_guard); exact rfl; exact rfl; exact rfl; exact rfl) <;> intro hg <;> (first | (exact absurd hg (by decide)) | ((try simp only [decide_eq_true_eq, decide_eq_false_iff_not, Bool.not_eq_true', Bool.not_eq_false', Bool.not_true, Bool.not_false, Bool.not_not, Int.not_lt, Int.not_le, Nat.not_lt, Nat.not_le, gt_iff_lt, ge_iff_le, List.cons.injEq, and_true] at hg); first | (exact absurd trivial hg) | (exfalso; omega) | (have hT : True := hg; clear hT hg) | skip)))
 | (((with_reducible apply aw_cond); exact rfl) <;> intro hg <;> (first | (exact absurd hg (by decide)) | ((try simp only [decide_eq_true_eq, decide_eq_false_iff_not, Bool.not_eq_true', Bool.not_eq_false', Bool.not_true, Bool.not_false, Bool.not_not, Int.not_lt, Int.not_le, Nat.not_lt, Nat.not_le, gt_iff_lt, ge_iff_le, List.cons.injEq, and_true] at hg); first | (exact absurd trivial hg) | (exfalso; omega) | (have hT : True := hg; clear hT hg) | skip)))
 )
    all_goals exact ret_b rfl (by simp)
end Go.Proofs.Ythkjkhffljlidaa.Jo
/- What comes into the laws on the journal, read as closed values. -/
namespace Go.Proofs.Ythkjkhffljlidaa.Jo
set_option linter.unusedVariables false
set_option linter.unusedSimpArgs false
open Go.RowKit Go.ChangeShapes Go.Proofs.Ythkjkhffljlidaa.Ev
section
variable {H : Type} {de : TypeId × Value → H} {w : World}
theorem u64_of {n : Int} (h : (Lit.int .u64 n).wf = true) : 0 ≤ n ∧ n < 18446744073709551616 := by
  simp [Lit.wf, IntKind.min, IntKind.max, IntKind.bits, IntKind.signed] at h
  omega
theorem o_u64 : Opn de Try.prog w 22 (fun n : Int => [U n]) (fun n => 0 ≤ n ∧ n < 18446744073709551616) := (opn_int Try.underlying22).imp id (fun _ => rfl) (fun _ h => u64_of h)
theorem o_str : Opn de Try.prog w 9 stC (fun b => b.size ≤ maxLen) := opn_string Try.underlying9
abbrev StrsQ (l : List ByteArray) : Prop := (∀ x ∈ l, x.size ≤ maxLen) ∧ l.length ≤ maxLen
theorem o_strs : Opn de Try.prog w 23 (fun l : List ByteArray => [LT l]) StrsQ :=
  opn_slice (size := 1) (enc := stC) Try.underlying23 (by kernel_rfl) (by decide) (fun _ => rfl) o_str
end
end Go.Proofs.Ythkjkhffljlidaa.Jo
