/- JN JO JQ SumsMath: texts laid together. -/
import Derived.Test.YthkjkhffljlidaaMrgX4
import Derived.Test.YthkjkhffljlidaaMrgE4
import Derived.Test.YthkjkhffljlidaaMrgX0
set_option maxRecDepth 100000
set_option maxHeartbeats 64000000
/- The journal: functions of the laws and of the reference. -/
namespace Go.Proofs.Ythkjkhffljlidaa.Jo
set_option linter.unusedVariables false
set_option linter.unusedSimpArgs false
open Go.RowKit Go.Proofs.Ythkjkhffljlidaa.Ev Go.Proofs.Ythkjkhffljlidaa.Dk
variable {gl : List (Nat × List CV)}
theorem ba_ne {a b : ByteArray} (h : a ≠ b) : (a.toList == b.toList) = false := by
  rw [ByteArray.toList_eq, ByteArray.toList_eq, beq_eq_false_iff_ne]
  exact fun e => h (ba_eq e)
theorem same_con (a b : List ByteArray) (ha : a.length ≤ 1000000000) (hb : b.length ≤ 1000000000) : Con Try.prog gl 14 [LT a, LT b] (BO (decide (a = b))) := by
  refine con_of Try.func14 rfl (by kernel_rfl) rfl ?_
  simp only [Try.ntmps14, Try.results14, argEnv, ofC, of1, List.map]
  by_cases hl : a.length = b.length
  rotate_left
  · rw [decide_eq_false (fun h => hl (by rw [h]))]
    repeat' (first
 | ((with_reducible apply aw_seq))
 | ((with_reducible apply aw_region))
 | ((with_reducible apply thn_normal))
 | ((with_reducible apply thn_ret))
 | ((with_reducible apply aw_ret))
 | ((with_reducible apply ao_nil))
 | ((with_reducible apply r_move); exact rfl; exact rfl)
 | ((with_reducible apply r_assign); exact rfl; exact rfl)
 | ((with_reducible apply r_neq); exact rfl; exact rfl; exact rfl)
 | ((with_reducible apply r_len_f); exact rfl; exact inferInstance; exact rfl)
 | (((with_reducible apply aw_cond); exact rfl) <;> intro hg <;> (first | (exact absurd hg (by decide)) | ((try simp only [decide_eq_true_eq, decide_eq_false_iff_not, Bool.not_eq_true', Bool.not_eq_false', Bool.not_true, Bool.not_false, Bool.not_not, Int.not_lt, Int.not_le, Nat.not_lt, Nat.not_le, gt_iff_lt, ge_iff_le, List.cons.injEq, and_true] at hg); first | (exact absurd trivial hg) | (exfalso; omega) | (have hT : True := hg; clear hT hg) | skip)))
 )
    all_goals exact ret1 (.tmp rfl cl_c)
  repeat' (first
 | ((with_reducible apply aw_seq))
 | ((with_reducible apply aw_region))
 | ((with_reducible apply aw_block))
 | ((with_reducible apply thn_normal))
 | ((with_reducible apply aw_skip))
 | ((with_reducible apply ao_nil))
 | ((with_reducible apply r_move); exact rfl; exact rfl)
 | ((with_reducible apply r_assign); exact rfl; exact rfl)
 | ((with_reducible apply r_neq); exact rfl; exact rfl; exact rfl)
 | ((with_reducible apply r_len_f); exact rfl; exact inferInstance; exact rfl)
 | (((with_reducible apply aw_cond); exact rfl) <;> intro hg <;> (first | (exact absurd hg (by decide)) | ((try simp only [decide_eq_true_eq, decide_eq_false_iff_not, Bool.not_eq_true', Bool.not_eq_false', Bool.not_true, Bool.not_false, Bool.not_not, Int.not_lt, Int.not_le, Nat.not_lt, Nat.not_le, gt_iff_lt, ge_iff_le, List.cons.injEq, and_true] at hg); first | (exact absurd trivial hg) | (exfalso; omega) | (have hT : True := hg; clear hT hg) | skip)))
 )
  refine aw_loopG (G := Nat) (fun (j : Nat) => j ≤ a.length ∧ ∀ i (hi : i < a.length) (hi' : i < b.length), i < j → a[i] = b[i]) (fun (j : Nat) => a.length - j) (fun (j : Nat) => [(0, .c (LT a)), (1, .c (LT b)), (5, A j)]) (fun (j : Nat) => []) 0 0 ?_ (by refine weak_mk rfl ?_ ?_ <;> repeat (first | exact envW_nil | exact heapW_nil | refine envW_cons rfl rfl ?_ | refine heapW_cons rfl rfl rfl ?_)) rfl ?_
  · exact ⟨Nat.zero_le _, fun i _ _ h => absurd h (Nat.not_lt_zero _)⟩
  rintro j hI
  try dsimp only at hI
  try dsimp only
  obtain ⟨h1, h2⟩ := hI
  by_cases hj : j < a.length
  · have hj' : j < b.length := by omega
    by_cases he : a[j] = b[j]
    · have hs : (a[j].toList == b[j].toList) = true := by rw [he]; simp
      repeat' (first
 | (rw [hs])
 | ((with_reducible apply r_neqstr); exact rfl; exact rfl; exact rfl)
 | ((with_reducible apply aw_seq))
 | ((with_reducible apply aw_region))
 | ((with_reducible apply aw_block))
 | ((with_reducible apply thn_normal))
 | ((with_reducible apply inb_normal))
 | ((with_reducible apply aw_skip))
 | ((with_reducible apply ao_nil))
 | ((with_reducible apply r_move); exact rfl; exact rfl)
 | ((with_reducible apply r_assign); exact rfl; exact rfl)
 | ((with_reducible apply r_lss); exact rfl; exact rfl; exact rfl)
 | ((with_reducible apply r_add); exact rfl; exact rfl; exact (by first | assumption | (unfold fits; omega)); exact rfl)
 | ((with_reducible apply r_len_f); exact rfl; exact inferInstance; exact rfl)
 | ((with_reducible apply r_index_f); exact rfl; exact inferInstance; exact rfl; exact rfl; (first | assumption | omega); exact rfl)
 | ((with_reducible apply r_load_f0); exact rfl; exact inferInstance; exact List.getElem?_eq_getElem (by first | assumption | omega); exact rfl; exact rfl)
 | (((with_reducible apply aw_cond); exact rfl) <;> intro hg <;> (first | (exact absurd hg (by decide)) | ((try simp only [decide_eq_true_eq, decide_eq_false_iff_not, Bool.not_eq_true', Bool.not_eq_false', Bool.not_true, Bool.not_false, Bool.not_not, Int.not_lt, Int.not_le, Nat.not_lt, Nat.not_le, gt_iff_lt, ge_iff_le, List.cons.injEq, and_true] at hg); first | (exact absurd trivial hg) | (exfalso; omega) | (have hT : True := hg; clear hT hg) | skip)))
 | (refine aw_drawq ?_ ?_; (kernel_rfl))
 | ((with_reducible apply ds_nil))
 )
      refine ⟨j + 1, ?_, ?_, by refine weak_mk rfl ?_ ?_ <;> repeat (first | exact envW_nil | exact heapW_nil | refine envW_cons rfl rfl ?_ | refine heapW_cons rfl rfl rfl ?_)⟩
      · show _ - (j + 1) < _ - j; omega
      · refine ⟨hj, fun i hi hi' h => ?_⟩
        by_cases e : i = j
        · subst e; exact he
        · exact h2 i hi hi' (by have : i < j + 1 := h; omega)
    · have hs := ba_ne he
      rw [decide_eq_false (fun h => he (by subst h; rfl))]
      repeat' (first
 | (rw [hs])
 | ((with_reducible apply r_neqstr); exact rfl; exact rfl; exact rfl)
 | ((with_reducible apply aw_seq))
 | ((with_reducible apply aw_region))
 | ((with_reducible apply aw_block))
 | ((with_reducible apply thn_normal))
 | ((with_reducible apply thn_ret))
 | ((with_reducible apply inb_ret))
 | ((with_reducible apply aw_skip))
 | ((with_reducible apply aw_ret))
 | ((with_reducible apply ao_nil))
 | ((with_reducible apply r_move); exact rfl; exact rfl)
 | ((with_reducible apply r_assign); exact rfl; exact rfl)
 | ((with_reducible apply r_lss); exact rfl; exact rfl; exact rfl)
 | ((with_reducible apply r_len_f); exact rfl; exact inferInstance; exact rfl)
 | ((with_reducible apply r_index_f); exact rfl; exact inferInstance; exact rfl; exact rfl; (first | assumption | omega); exact rfl)
 | ((with_reducible apply r_load_f0); exact rfl; exact inferInstance; exact List.getElem?_eq_getElem (by first | assumption | omega); exact rfl; exact rfl)
 | (((with_reducible apply aw_cond); exact rfl) <;> intro hg <;> (first | (exact absurd hg (by decide)) | ((try simp only [decide_eq_true_eq, decide_eq_false_iff_not, Bool.not_eq_true', Bool.not_eq_false', Bool.not_true, Bool.not_false, Bool.not_not, Int.not_lt, Int.not_le, Nat.not_lt, Nat.not_le, gt_iff_lt, ge_iff_le, List.cons.injEq, and_true] at hg); first | (exact absurd trivial hg) | (exfalso; omega) | (have hT : True := hg; clear hT hg) | skip)))
 | (refine aw_drawq ?_ ?_; (kernel_rfl))
 | ((with_reducible apply ds_nil))
 )
      all_goals exact ret1 (.tmp rfl cl_c)
  · rw [decide_eq_true (List.ext_getElem hl (fun i hi hi' => h2 i hi hi' (by omega)))]
    repeat' (first
 | ((with_reducible apply aw_seq))
 | ((with_reducible apply aw_region))
 | ((with_reducible apply thn_normal))
 | ((with_reducible apply thn_exit))
 | ((with_reducible apply inb_exit))
 | ((with_reducible apply aw_exit))
 | ((with_reducible apply aw_ret))
 | ((with_reducible apply ao_nil))
 | ((with_reducible apply r_move); exact rfl; exact rfl)
 | ((with_reducible apply r_assign); exact rfl; exact rfl)
 | ((with_reducible apply r_lss); exact rfl; exact rfl; exact rfl)
 | ((with_reducible apply r_len_f); exact rfl; exact inferInstance; exact rfl)
 | (((with_reducible apply aw_cond); exact rfl) <;> intro hg <;> (first | (exact absurd hg (by decide)) | ((try simp only [decide_eq_true_eq, decide_eq_false_iff_not, Bool.not_eq_true', Bool.not_eq_false', Bool.not_true, Bool.not_false, Bool.not_not, Int.not_lt, Int.not_le, Nat.not_lt, Nat.not_le, gt_iff_lt, ge_iff_le, List.cons.injEq, and_true] at hg); first | (exact absurd trivial hg) | (exfalso; omega) | (have hT : True := hg; clear hT hg) | skip)))
 )
    all_goals exact ret1 (.tmp rfl cl_c)
theorem rrecords_con (gs : List (List ByteArray)) (h1 : gs.length ≤ 1000000) (h2 : ∀ i (hi : i < gs.length), gs[i].length ≤ 1000) : Con Try.prog gl 31 [LG gs] (LT gs.flatten) := by
  refine con_of Try.func31 rfl (by kernel_rfl) rfl ?_
  simp only [Try.ntmps31, Try.results31, argEnv, ofC, of1, List.map]
  repeat' (first
 | ((with_reducible apply aw_seq))
 | ((with_reducible apply aw_region))
 | ((with_reducible apply aw_block))
 | ((with_reducible apply thn_normal))
 | ((with_reducible apply ao_nil))
 | ((with_reducible apply r_assign); exact rfl; exact rfl)
 )
  refine aw_nilvec 3 9 1 rfl rfl ?_
  refine aw_loopG (G := Nat) (fun (j : Nat) => j ≤ gs.length ∧ (gs.take j).flatten.length ≤ 1000 * j) (fun (j : Nat) => gs.length - j) (fun (j : Nat) => [(0, .c (LG gs)), (3, .vec 0 (gs.take j).flatten.length), (4, A j)]) (fun (j : Nat) => [(0, some (.vec 9 1 ((gs.take j).flatten.flatMap stC)))]) 1 0 ?_ (by refine weak_mk rfl ?_ ?_ <;> repeat (first | exact envW_nil | exact heapW_nil | refine envW_cons rfl rfl ?_ | refine heapW_cons rfl rfl rfl ?_)) rfl ?_
  · exact ⟨Nat.zero_le _, Nat.zero_le _⟩
  rintro j hI
  try dsimp only at hI
  try dsimp only
  obtain ⟨h3, h4⟩ := hI
  by_cases hj : j < gs.length
  · have hst : (gs.take (j + 1)).flatten = (gs.take j).flatten ++ gs[j] := by
      rw [List.take_succ_eq_append_getElem hj, List.flatten_append]
      show _ ++ (gs[j] ++ []) = _
      rw [List.append_nil]
    have := h2 j hj
    repeat' (first
 | ((with_reducible apply (r_appendl (enc := stC) (l2 := gs[j]))); exact rfl; exact rfl; exact inferInstance; exact rfl; exact rfl; exact (by omega); exact (by omega); exact rfl)
 | ((with_reducible apply aw_seq))
 | ((with_reducible apply aw_region))
 | ((with_reducible apply aw_block))
 | ((with_reducible apply thn_normal))
 | ((with_reducible apply inb_normal))
 | ((with_reducible apply aw_skip))
 | ((with_reducible apply ao_nil))
 | ((with_reducible apply r_move); exact rfl; exact rfl)
 | ((with_reducible apply r_assign); exact rfl; exact rfl)
 | ((with_reducible apply r_lss); exact rfl; exact rfl; exact rfl)
 | ((with_reducible apply r_add); exact rfl; exact rfl; exact (by first | assumption | (unfold fits; omega)); exact rfl)
 | ((with_reducible apply r_len_f); exact rfl; exact inferInstance; exact rfl)
 | ((with_reducible apply r_index_f); exact rfl; exact inferInstance; exact rfl; exact rfl; (first | assumption | omega); exact rfl)
 | ((with_reducible apply r_load_f0); exact rfl; exact inferInstance; exact List.getElem?_eq_getElem (by first | assumption | omega); exact rfl; exact rfl)
 | (((with_reducible apply aw_cond); exact rfl) <;> intro hg <;> (first | (exact absurd hg (by decide)) | ((try simp only [decide_eq_true_eq, decide_eq_false_iff_not, Bool.not_eq_true', Bool.not_eq_false', Bool.not_true, Bool.not_false, Bool.not_not, Int.not_lt, Int.not_le, Nat.not_lt, Nat.not_le, gt_iff_lt, ge_iff_le, List.cons.injEq, and_true] at hg); first | (exact absurd trivial hg) | (exfalso; omega) | (have hT : True := hg; clear hT hg) | skip)))
 )
    rw [← hst, show (gs.take j).flatten.length + gs[j].length = (gs.take (j + 1)).flatten.length by rw [hst]; simp]
    refine ⟨j + 1, ?_, ?_, by refine weak_mk rfl ?_ ?_ <;> repeat (first | exact envW_nil | exact heapW_nil | refine envW_cons rfl rfl ?_ | refine heapW_cons rfl rfl rfl ?_)⟩
    · show _ - (j + 1) < _ - j; omega
    · exact ⟨hj, by show (gs.take (j + 1)).flatten.length ≤ 1000 * (j + 1); rw [hst, List.length_append]; omega⟩
  · obtain rfl : j = gs.length := by omega
    rw [List.take_length]
    repeat' (first
 | ((with_reducible apply aw_seq))
 | ((with_reducible apply aw_region))
 | ((with_reducible apply thn_normal))
 | ((with_reducible apply thn_exit))
 | ((with_reducible apply inb_exit))
 | ((with_reducible apply aw_exit))
 | ((with_reducible apply aw_ret))
 | ((with_reducible apply ao_nil))
 | ((with_reducible apply r_move); exact rfl; exact rfl)
 | ((with_reducible apply r_assign); exact rfl; exact rfl)
 | ((with_reducible apply r_lss); exact rfl; exact rfl; exact rfl)
 | ((with_reducible apply r_len_f); exact rfl; exact inferInstance; exact rfl)
 | (((with_reducible apply aw_cond); exact rfl) <;> intro hg <;> (first | (exact absurd hg (by decide)) | ((try simp only [decide_eq_true_eq, decide_eq_false_iff_not, Bool.not_eq_true', Bool.not_eq_false', Bool.not_true, Bool.not_false, Bool.not_not, Int.not_lt, Int.not_le, Nat.not_lt, Nat.not_le, gt_iff_lt, ge_iff_le, List.cons.injEq, and_true] at hg); first | (exact absurd trivial hg) | (exfalso; omega) | (have hT : True := hg; clear hT hg) | skip)))
 )
    all_goals exact ret1 (.tmp rfl (cl_vec rfl (by rw [flat_len EncL.len])))
theorem with_con (gs : List (List ByteArray)) (g : List ByteArray) (h1 : gs.length ≤ 1000000) : Con Try.prog gl 19 [LG gs, LT g] (LG (gs ++ [g])) := by
  refine con_of Try.func19 rfl (by kernel_rfl) rfl ?_
  simp only [Try.ntmps19, Try.results19, argEnv, ofC, of1, List.map]
  repeat' (first
 | ((with_reducible apply r_litq); exact rfl; exact rfl; exact rfl; exact rfl; exact rfl; exact rfl; exact rfl)
 | ((with_reducible apply (r_appendl (enc := grC) (l := []) (l2 := gs))); exact rfl; exact rfl; exact inferInstance; exact rfl; exact rfl; exact (by omega); exact (by omega); exact rfl)
 | ((with_reducible apply (r_appendl (enc := grC) (l := [] ++ gs) (l2 := [g]))); exact rfl; exact rfl; exact inferInstance; exact (by simp); exact rfl; exact (by show 0 + gs.length + 1 < _; omega); exact (by show (0 + gs.length + 1) * _ ≤ _; omega); exact rfl)
 | ((with_reducible apply aw_seq))
 | ((with_reducible apply aw_region))
 | ((with_reducible apply thn_normal))
 | ((with_reducible apply aw_ret))
 | ((with_reducible apply ao_nil))
 | ((with_reducible apply r_move); exact rfl; exact rfl)
 | ((with_reducible apply r_assign); exact rfl; exact rfl)
 | ((with_reducible apply r_lit0); exact rfl)
 )
  all_goals exact ret1 (.tmp rfl (cl_vec rfl (by rw [flat_len EncL.len]; simp)))
def smG (n : Nat) : List ByteArray → Option Nat
  | [] => some n
  | s :: l => if 16394 < s.size ∨ 2000 < (if s.size ≤ 16384 then n + s.size else n) then none else smG (if s.size ≤ 16384 then n + s.size else n) l
def smL (n : Nat) : List (List ByteArray) → Bool
  | [] => true
  | g :: l => if 40 < g.length then false else (smG n g).elim false (fun n' => smL n' l)
def smallS (gs : List (List ByteArray)) : Bool := if 12 < gs.length then false else smL 0 gs
theorem smG_bd : ∀ (l : List ByteArray) (n m : Nat), n ≤ 2000 → smG n l = some m → m ≤ 2000 ∧ ∀ s ∈ l, s.size ≤ 16394
  | [], n, m, hn, h => by simp only [smG, Option.some.injEq] at h; subst h; exact ⟨hn, fun s hs => by cases hs⟩
  | s :: l, n, m, hn, h => by
    rw [smG] at h
    by_cases hc : 16394 < s.size ∨ 2000 < (if s.size ≤ 16384 then n + s.size else n)
    · rw [if_pos hc] at h; cases h
    · rw [if_neg hc] at h
      have h1 : ¬ 16394 < s.size := fun e => hc (.inl e)
      have h2 : ¬ 2000 < (if s.size ≤ 16384 then n + s.size else n) := fun e => hc (.inr e)
      obtain ⟨a, b⟩ := smG_bd l _ m (by omega) h
      refine ⟨a, fun x hx => ?_⟩
      rcases List.mem_cons.1 hx with rfl | hx
      · omega
      · exact b x hx
theorem smL_bd : ∀ (l : List (List ByteArray)) (n : Nat), n ≤ 2000 → smL n l = true → ∀ g ∈ l, g.length ≤ 40 ∧ ∀ s ∈ g, s.size ≤ 16394
  | [], n, hn, h => fun g hg => by cases hg
  | g :: l, n, hn, h => by
    simp only [smL] at h
    split at h
    · cases h
    rename_i h40
    cases hs : smG n g with
    | none => rw [hs] at h; cases h
    | some m =>
      rw [hs] at h
      obtain ⟨a, b⟩ := smG_bd g n m hn hs
      intro x hx
      rcases List.mem_cons.1 hx with rfl | hx
      · exact ⟨by omega, b⟩
      · exact smL_bd l m a h x hx
theorem small_bd {gs : List (List ByteArray)} (h : smallS gs = true) : gs.length ≤ 12 ∧ ∀ g ∈ gs, g.length ≤ 40 ∧ ∀ s ∈ g, s.size ≤ 16394 := by
  unfold smallS at h
  split at h
  · cases h
  · exact ⟨by omega, smL_bd gs 0 (by omega) h⟩
theorem small_con (gs : List (List ByteArray)) : Con Try.prog gl 10 [LG gs] (BO (smallS gs)) := by
  unfold smallS
  refine con_of Try.func10 rfl (by kernel_rfl) rfl ?_
  simp only [Try.ntmps10, Try.results10, argEnv, ofC, of1, List.map]
  by_cases h12 : 12 < gs.length
  · rw [if_pos h12]
    repeat' (first
 | ((with_reducible apply aw_seq))
 | ((with_reducible apply aw_region))
 | ((with_reducible apply thn_normal))
 | ((with_reducible apply thn_ret))
 | ((with_reducible apply aw_ret))
 | ((with_reducible apply ao_nil))
 | ((with_reducible apply r_move); exact rfl; exact rfl)
 | ((with_reducible apply r_assign); exact rfl; exact rfl)
 | ((with_reducible apply r_gtr); exact rfl; exact rfl; exact rfl)
 | ((with_reducible apply r_len_f); exact rfl; exact inferInstance; exact rfl)
 | (((with_reducible apply aw_cond); exact rfl) <;> intro hg <;> (first | (exact absurd hg (by decide)) | ((try simp only [decide_eq_true_eq, decide_eq_false_iff_not, Bool.not_eq_true', Bool.not_eq_false', Bool.not_true, Bool.not_false, Bool.not_not, Int.not_lt, Int.not_le, Nat.not_lt, Nat.not_le, gt_iff_lt, ge_iff_le, List.cons.injEq, and_true] at hg); first | (exact absurd trivial hg) | (exfalso; omega) | (have hT : True := hg; clear hT hg) | skip)))
 )
    all_goals exact ret1 (.tmp rfl cl_c)
  rw [if_neg h12]
  repeat' (first
 | ((with_reducible apply aw_seq))
 | ((with_reducible apply aw_region))
 | ((with_reducible apply aw_block))
 | ((with_reducible apply thn_normal))
 | ((with_reducible apply aw_skip))
 | ((with_reducible apply ao_nil))
 | ((with_reducible apply r_move); exact rfl; exact rfl)
 | ((with_reducible apply r_assign); exact rfl; exact rfl)
 | ((with_reducible apply r_gtr); exact rfl; exact rfl; exact rfl)
 | ((with_reducible apply r_len_f); exact rfl; exact inferInstance; exact rfl)
 | (((with_reducible apply aw_cond); exact rfl) <;> intro hg <;> (first | (exact absurd hg (by decide)) | ((try simp only [decide_eq_true_eq, decide_eq_false_iff_not, Bool.not_eq_true', Bool.not_eq_false', Bool.not_true, Bool.not_false, Bool.not_not, Int.not_lt, Int.not_le, Nat.not_lt, Nat.not_le, gt_iff_lt, ge_iff_le, List.cons.injEq, and_true] at hg); first | (exact absurd trivial hg) | (exfalso; omega) | (have hT : True := hg; clear hT hg) | skip)))
 )
  refine aw_loopG (G := Nat × Nat) (fun ((i, n) : Nat × Nat) => i ≤ gs.length ∧ n ≤ 2000 ∧ smL 0 gs = smL n (gs.drop i)) (fun ((i, n) : Nat × Nat) => gs.length - i) (fun ((i, n) : Nat × Nat) => [(0, .c (LG gs)), (3, A n), (4, A i)]) (fun ((i, n) : Nat × Nat) => []) 0 (0, 0) ?_ (by refine weak_mk rfl ?_ ?_ <;> repeat (first | exact envW_nil | exact heapW_nil | refine envW_cons rfl rfl ?_ | refine heapW_cons rfl rfl rfl ?_)) rfl ?_
  · exact ⟨Nat.zero_le _, Nat.zero_le _, by rw [List.drop_zero]⟩
  rintro ⟨i, n⟩ hI
  try dsimp only at hI
  try dsimp only
  obtain ⟨h1, h2, h3⟩ := hI
  by_cases hi : i < gs.length
  rotate_left
  · rw [h3, List.drop_eq_nil_of_le (by omega), smL]
    repeat' (first
 | ((with_reducible apply aw_seq))
 | ((with_reducible apply aw_region))
 | ((with_reducible apply thn_normal))
 | ((with_reducible apply thn_exit))
 | ((with_reducible apply inb_exit))
 | ((with_reducible apply aw_exit))
 | ((with_reducible apply aw_ret))
 | ((with_reducible apply ao_nil))
 | ((with_reducible apply r_move); exact rfl; exact rfl)
 | ((with_reducible apply r_assign); exact rfl; exact rfl)
 | ((with_reducible apply r_lss); exact rfl; exact rfl; exact rfl)
 | ((with_reducible apply r_len_f); exact rfl; exact inferInstance; exact rfl)
 | (((with_reducible apply aw_cond); exact rfl) <;> intro hg <;> (first | (exact absurd hg (by decide)) | ((try simp only [decide_eq_true_eq, decide_eq_false_iff_not, Bool.not_eq_true', Bool.not_eq_false', Bool.not_true, Bool.not_false, Bool.not_not, Int.not_lt, Int.not_le, Nat.not_lt, Nat.not_le, gt_iff_lt, ge_iff_le, List.cons.injEq, and_true] at hg); first | (exact absurd trivial hg) | (exfalso; omega) | (have hT : True := hg; clear hT hg) | skip)))
 )
    all_goals exact ret1 (.tmp rfl cl_c)
  rw [List.drop_eq_getElem_cons hi, smL] at h3
  by_cases h40 : 40 < gs[i].length
  · rw [if_pos h40] at h3
    rw [h3]
    repeat' (first
 | ((with_reducible apply aw_seq))
 | ((with_reducible apply aw_region))
 | ((with_reducible apply aw_block))
 | ((with_reducible apply thn_normal))
 | ((with_reducible apply thn_ret))
 | ((with_reducible apply inb_ret))
 | ((with_reducible apply aw_skip))
 | ((with_reducible apply aw_ret))
 | ((with_reducible apply ao_nil))
 | ((with_reducible apply r_move); exact rfl; exact rfl)
 | ((with_reducible apply r_assign); exact rfl; exact rfl)
 | ((with_reducible apply r_lss); exact rfl; exact rfl; exact rfl)
 | ((with_reducible apply r_gtr); exact rfl; exact rfl; exact rfl)
 | ((with_reducible apply r_len_f); exact rfl; exact inferInstance; exact rfl)
 | ((with_reducible apply r_index_f); exact rfl; exact inferInstance; exact rfl; exact rfl; (first | assumption | omega); exact rfl)
 | ((with_reducible apply r_load_f0); exact rfl; exact inferInstance; exact List.getElem?_eq_getElem (by first | assumption | omega); exact rfl; exact rfl)
 | (((with_reducible apply aw_cond); exact rfl) <;> intro hg <;> (first | (exact absurd hg (by decide)) | ((try simp only [decide_eq_true_eq, decide_eq_false_iff_not, Bool.not_eq_true', Bool.not_eq_false', Bool.not_true, Bool.not_false, Bool.not_not, Int.not_lt, Int.not_le, Nat.not_lt, Nat.not_le, gt_iff_lt, ge_iff_le, List.cons.injEq, and_true] at hg); first | (exact absurd trivial hg) | (exfalso; omega) | (have hT : True := hg; clear hT hg) | skip)))
 )
    all_goals exact ret1 (.tmp rfl cl_c)
  rw [if_neg h40] at h3
  repeat' (first
 | ((with_reducible apply aw_seq))
 | ((with_reducible apply aw_region))
 | ((with_reducible apply aw_block))
 | ((with_reducible apply thn_normal))
 | ((with_reducible apply aw_skip))
 | ((with_reducible apply ao_nil))
 | ((with_reducible apply r_move); exact rfl; exact rfl)
 | ((with_reducible apply r_assign); exact rfl; exact rfl)
 | ((with_reducible apply r_lss); exact rfl; exact rfl; exact rfl)
 | ((with_reducible apply r_gtr); exact rfl; exact rfl; exact rfl)
 | ((with_reducible apply r_len_f); exact rfl; exact inferInstance; exact rfl)
 | ((with_reducible apply r_index_f); exact rfl; exact inferInstance; exact rfl; exact rfl; (first | assumption | omega); exact rfl)
 | ((with_reducible apply r_load_f0); exact rfl; exact inferInstance; exact List.getElem?_eq_getElem (by first | assumption | omega); exact rfl; exact rfl)
 | (((with_reducible apply aw_cond); exact rfl) <;> intro hg <;> (first | (exact absurd hg (by decide)) | ((try simp only [decide_eq_true_eq, decide_eq_false_iff_not, Bool.not_eq_true', Bool.not_eq_false', Bool.not_true, Bool.not_false, Bool.not_not, Int.not_lt, Int.not_le, Nat.not_lt, Nat.not_le, gt_iff_lt, ge_iff_le, List.cons.injEq, and_true] at hg); first | (exact absurd trivial hg) | (exfalso; omega) | (have hT : True := hg; clear hT hg) | skip)))
 )
  refine aw_loopG (G := Nat × Nat) (fun ((k, m) : Nat × Nat) => k ≤ gs[i].length ∧ m ≤ 2000 ∧ smL 0 gs = (smG m (gs[i].drop k)).elim false (fun n' => smL n' (gs.drop (i + 1)))) (fun ((k, m) : Nat × Nat) => gs[i].length - k) (fun ((k, m) : Nat × Nat) => [(0, .c (LG gs)), (3, A m), (4, A i), (5, A k)]) (fun ((k, m) : Nat × Nat) => []) 0 (0, n) ?_ (by refine weak_mk rfl ?_ ?_ <;> repeat (first | exact envW_nil | exact heapW_nil | refine envW_cons rfl rfl ?_ | refine heapW_cons rfl rfl rfl ?_)) rfl ?_
  · exact ⟨Nat.zero_le _, h2, by rw [List.drop_zero]; exact h3⟩
  rintro ⟨k, m⟩ hI
  try dsimp only at hI
  try dsimp only
  obtain ⟨g1, g2, g3⟩ := hI
  by_cases hk : k < gs[i].length
  rotate_left
  · rw [List.drop_eq_nil_of_le (by omega), smG] at g3
    repeat' (first
 | ((with_reducible apply aw_seq))
 | ((with_reducible apply aw_region))
 | ((with_reducible apply thn_normal))
 | ((with_reducible apply thn_exit))
 | ((with_reducible apply inb_normal))
 | ((with_reducible apply inb_exit))
 | ((with_reducible apply aw_exit))
 | ((with_reducible apply ao_nil))
 | ((with_reducible apply r_move); exact rfl; exact rfl)
 | ((with_reducible apply r_assign); exact rfl; exact rfl)
 | ((with_reducible apply r_lss); exact rfl; exact rfl; exact rfl)
 | ((with_reducible apply r_add); exact rfl; exact rfl; exact (by first | assumption | (unfold fits; omega)); exact rfl)
 | ((with_reducible apply r_len_f); exact rfl; exact inferInstance; exact rfl)
 | ((with_reducible apply r_index_f); exact rfl; exact inferInstance; exact rfl; exact rfl; (first | assumption | omega); exact rfl)
 | ((with_reducible apply r_load_f0); exact rfl; exact inferInstance; exact List.getElem?_eq_getElem (by first | assumption | omega); exact rfl; exact rfl)
 | (((with_reducible apply aw_cond); exact rfl) <;> intro hg <;> (first | (exact absurd hg (by decide)) | ((try simp only [decide_eq_true_eq, decide_eq_false_iff_not, Bool.not_eq_true', Bool.not_eq_false', Bool.not_true, Bool.not_false, Bool.not_not, Int.not_lt, Int.not_le, Nat.not_lt, Nat.not_le, gt_iff_lt, ge_iff_le, List.cons.injEq, and_true] at hg); first | (exact absurd trivial hg) | (exfalso; omega) | (have hT : True := hg; clear hT hg) | skip)))
 )
    refine ⟨(i + 1, m), ?_, ?_, by refine weak_mk rfl ?_ ?_ <;> repeat (first | exact envW_nil | exact heapW_nil | refine envW_cons rfl rfl ?_ | refine heapW_cons rfl rfl rfl ?_)⟩
    · show _ - (i + 1) < _ - i; omega
    · exact ⟨hi, g2, g3⟩
  rw [List.drop_eq_getElem_cons hk, smG] at g3
  by_cases h16 : gs[i][k].size ≤ 16384
  · rw [if_pos h16] at g3
    by_cases hb : 2000 < m + gs[i][k].size
    · rw [if_pos (.inr hb)] at g3
      rw [g3]
      repeat' (first
 | ((with_reducible apply r_len_s); exact rfl; exact rfl)
 | ((with_reducible apply aw_seq))
 | ((with_reducible apply aw_region))
 | ((with_reducible apply aw_block))
 | ((with_reducible apply thn_normal))
 | ((with_reducible apply thn_ret))
 | ((with_reducible apply inb_ret))
 | ((with_reducible apply aw_skip))
 | ((with_reducible apply aw_ret))
 | ((with_reducible apply ao_nil))
 | ((with_reducible apply r_move); exact rfl; exact rfl)
 | ((with_reducible apply r_assign); exact rfl; exact rfl)
 | ((with_reducible apply r_lss); exact rfl; exact rfl; exact rfl)
 | ((with_reducible apply r_leq); exact rfl; exact rfl; exact rfl)
 | ((with_reducible apply r_gtr); exact rfl; exact rfl; exact rfl)
 | ((with_reducible apply r_add); exact rfl; exact rfl; exact (by first | assumption | (unfold fits; omega)); exact rfl)
 | ((with_reducible apply r_pick_f); exact rfl; exact rfl; exact rfl)
 | ((with_reducible apply r_len_f); exact rfl; exact inferInstance; exact rfl)
 | ((with_reducible apply r_index_f); exact rfl; exact inferInstance; exact rfl; exact rfl; (first | assumption | omega); exact rfl)
 | ((with_reducible apply r_load_f0); exact rfl; exact inferInstance; exact List.getElem?_eq_getElem (by first | assumption | omega); exact rfl; exact rfl)
 | (((with_reducible apply r_guard); exact rfl; exact rfl; exact rfl; exact rfl) <;> intro hg <;> (first | (exact absurd hg (by decide)) | ((try simp only [decide_eq_true_eq, decide_eq_false_iff_not, Bool.not_eq_true', Bool.not_eq_false', Bool.not_true, Bool.not_false, Bool.not_not, Int.not_lt, Int.not_le, Nat.not_lt, Nat.not_le, gt_iff_lt, ge_iff_le, List.cons.injEq, and_true] at hg); first | (exact absurd trivial hg) | (exfalso; omega) | (have hT : True := hg; clear hT hg) | skip)))
 | (((with_reducible apply aw_cond); exact rfl) <;> intro hg <;> (first | (exact absurd hg (by decide)) | ((try simp only [decide_eq_true_eq, decide_eq_false_iff_not, Bool.not_eq_true', Bool.not_eq_false', Bool.not_true, Bool.not_false, Bool.not_not, Int.not_lt, Int.not_le, Nat.not_lt, Nat.not_le, gt_iff_lt, ge_iff_le, List.cons.injEq, and_true] at hg); first | (exact absurd trivial hg) | (exfalso; omega) | (have hT : True := hg; clear hT hg) | skip)))
 )
      all_goals exact ret1 (.tmp rfl cl_c)
    · rw [if_neg (by omega)] at g3
      repeat' (first
 | ((with_reducible apply r_len_s); exact rfl; exact rfl)
 | ((with_reducible apply aw_seq))
 | ((with_reducible apply aw_region))
 | ((with_reducible apply aw_block))
 | ((with_reducible apply thn_normal))
 | ((with_reducible apply inb_normal))
 | ((with_reducible apply aw_skip))
 | ((with_reducible apply ao_nil))
 | ((with_reducible apply r_move); exact rfl; exact rfl)
 | ((with_reducible apply r_assign); exact rfl; exact rfl)
 | ((with_reducible apply r_lss); exact rfl; exact rfl; exact rfl)
 | ((with_reducible apply r_leq); exact rfl; exact rfl; exact rfl)
 | ((with_reducible apply r_gtr); exact rfl; exact rfl; exact rfl)
 | ((with_reducible apply r_add); exact rfl; exact rfl; exact (by first | assumption | (unfold fits; omega)); exact rfl)
 | ((with_reducible apply r_pick_f); exact rfl; exact rfl; exact rfl)
 | ((with_reducible apply r_len_f); exact rfl; exact inferInstance; exact rfl)
 | ((with_reducible apply r_index_f); exact rfl; exact inferInstance; exact rfl; exact rfl; (first | assumption | omega); exact rfl)
 | ((with_reducible apply r_load_f0); exact rfl; exact inferInstance; exact List.getElem?_eq_getElem (by first | assumption | omega); exact rfl; exact rfl)
 | (((with_reducible apply r_guard); exact rfl; exact rfl; exact rfl; exact rfl) <;> intro hg <;> (first | (exact absurd hg (by decide)) | ((try simp only [decide_eq_true_eq, decide_eq_false_iff_not, Bool.not_eq_true', Bool.not_eq_false', Bool.not_true, Bool.not_false, Bool.not_not, Int.not_lt, Int.not_le, Nat.not_lt, Nat.not_le, gt_iff_lt, ge_iff_le, List.cons.injEq, and_true] at hg); first | (exact absurd trivial hg) | (exfalso; omega) | (have hT : True := hg; clear hT hg) | skip)))
 | (((with_reducible apply aw_cond); exact rfl) <;> intro hg <;> (first | (exact absurd hg (by decide)) | ((try simp only [decide_eq_true_eq, decide_eq_false_iff_not, Bool.not_eq_true', Bool.not_eq_false', Bool.not_true, Bool.not_false, Bool.not_not, Int.not_lt, Int.not_le, Nat.not_lt, Nat.not_le, gt_iff_lt, ge_iff_le, List.cons.injEq, and_true] at hg); first | (exact absurd trivial hg) | (exfalso; omega) | (have hT : True := hg; clear hT hg) | skip)))
 )
      refine ⟨(k + 1, m + gs[i][k].size), ?_, ?_, by refine weak_mk rfl ?_ ?_ <;> repeat (first | exact envW_nil | exact heapW_nil | refine envW_cons rfl rfl ?_ | refine heapW_cons rfl rfl rfl ?_)⟩
      · show _ - (k + 1) < _ - k; omega
      · exact ⟨hk, by show m + gs[i][k].size ≤ 2000; omega, g3⟩
  · rw [if_neg h16] at g3
    by_cases hb : 16394 < gs[i][k].size
    · rw [if_pos (.inl hb)] at g3
      rw [g3]
      repeat' (first
 | ((with_reducible apply r_len_s); exact rfl; exact rfl)
 | ((with_reducible apply aw_seq))
 | ((with_reducible apply aw_region))
 | ((with_reducible apply aw_block))
 | ((with_reducible apply thn_normal))
 | ((with_reducible apply thn_ret))
 | ((with_reducible apply inb_ret))
 | ((with_reducible apply aw_skip))
 | ((with_reducible apply aw_ret))
 | ((with_reducible apply ao_nil))
 | ((with_reducible apply r_move); exact rfl; exact rfl)
 | ((with_reducible apply r_assign); exact rfl; exact rfl)
 | ((with_reducible apply r_lss); exact rfl; exact rfl; exact rfl)
 | ((with_reducible apply r_leq); exact rfl; exact rfl; exact rfl)
 | ((with_reducible apply r_gtr); exact rfl; exact rfl; exact rfl)
 | ((with_reducible apply r_pick_t); exact rfl; exact rfl; exact rfl)
 | ((with_reducible apply r_len_f); exact rfl; exact inferInstance; exact rfl)
 | ((with_reducible apply r_index_f); exact rfl; exact inferInstance; exact rfl; exact rfl; (first | assumption | omega); exact rfl)
 | ((with_reducible apply r_load_f0); exact rfl; exact inferInstance; exact List.getElem?_eq_getElem (by first | assumption | omega); exact rfl; exact rfl)
 | (((with_reducible apply r_guard); exact rfl; exact rfl; exact rfl; exact rfl) <;> intro hg <;> (first | (exact absurd hg (by decide)) | ((try simp only [decide_eq_true_eq, decide_eq_false_iff_not, Bool.not_eq_true', Bool.not_eq_false', Bool.not_true, Bool.not_false, Bool.not_not, Int.not_lt, Int.not_le, Nat.not_lt, Nat.not_le, gt_iff_lt, ge_iff_le, List.cons.injEq, and_true] at hg); first | (exact absurd trivial hg) | (exfalso; omega) | (have hT : True := hg; clear hT hg) | skip)))
 | (((with_reducible apply aw_cond); exact rfl) <;> intro hg <;> (first | (exact absurd hg (by decide)) | ((try simp only [decide_eq_true_eq, decide_eq_false_iff_not, Bool.not_eq_true', Bool.not_eq_false', Bool.not_true, Bool.not_false, Bool.not_not, Int.not_lt, Int.not_le, Nat.not_lt, Nat.not_le, gt_iff_lt, ge_iff_le, List.cons.injEq, and_true] at hg); first | (exact absurd trivial hg) | (exfalso; omega) | (have hT : True := hg; clear hT hg) | skip)))
 )
      all_goals exact ret1 (.tmp rfl cl_c)
    · rw [if_neg (by omega)] at g3
      repeat' (first
 | ((with_reducible apply r_len_s); exact rfl; exact rfl)
 | ((with_reducible apply aw_seq))
 | ((with_reducible apply aw_region))
 | ((with_reducible apply aw_block))
 | ((with_reducible apply thn_normal))
 | ((with_reducible apply inb_normal))
 | ((with_reducible apply aw_skip))
 | ((with_reducible apply ao_nil))
 | ((with_reducible apply r_move); exact rfl; exact rfl)
 | ((with_reducible apply r_assign); exact rfl; exact rfl)
 | ((with_reducible apply r_lss); exact rfl; exact rfl; exact rfl)
 | ((with_reducible apply r_leq); exact rfl; exact rfl; exact rfl)
 | ((with_reducible apply r_gtr); exact rfl; exact rfl; exact rfl)
 | ((with_reducible apply r_add); exact rfl; exact rfl; exact (by first | assumption | (unfold fits; omega)); exact rfl)
 | ((with_reducible apply r_pick_f); exact rfl; exact rfl; exact rfl)
 | ((with_reducible apply r_len_f); exact rfl; exact inferInstance; exact rfl)
 | ((with_reducible apply r_index_f); exact rfl; exact inferInstance; exact rfl; exact rfl; (first | assumption | omega); exact rfl)
 | ((with_reducible apply r_load_f0); exact rfl; exact inferInstance; exact List.getElem?_eq_getElem (by first | assumption | omega); exact rfl; exact rfl)
 | (((with_reducible apply r_guard); exact rfl; exact rfl; exact rfl; exact rfl) <;> intro hg <;> (first | (exact absurd hg (by decide)) | ((try simp only [decide_eq_true_eq, decide_eq_false_iff_not, Bool.not_eq_true', Bool.not_eq_false', Bool.not_true, Bool.not_false, Bool.not_not, Int.not_lt, Int.not_le, Nat.not_lt, Nat.not_le, gt_iff_lt, ge_iff_le, List.cons.injEq, and_true] at hg); first | (exact absurd trivial hg) | (exfalso; omega) | (have hT : True := hg; clear hT hg) | skip)))
 | (((with_reducible apply aw_cond); exact rfl) <;> intro hg <;> (first | (exact absurd hg (by decide)) | ((try simp only [decide_eq_true_eq, decide_eq_false_iff_not, Bool.not_eq_true', Bool.not_eq_false', Bool.not_true, Bool.not_false, Bool.not_not, Int.not_lt, Int.not_le, Nat.not_lt, Nat.not_le, gt_iff_lt, ge_iff_le, List.cons.injEq, and_true] at hg); first | (exact absurd trivial hg) | (exfalso; omega) | (have hT : True := hg; clear hT hg) | skip)))
 )
      all_goals
        refine ⟨(k + 1, m), ?_, ?_, by refine weak_mk rfl ?_ ?_ <;> repeat (first | exact envW_nil | exact heapW_nil | refine envW_cons rfl rfl ?_ | refine heapW_cons rfl rfl rfl ?_)⟩
        · show _ - (k + 1) < _ - k; omega
        · exact ⟨hk, g2, g3⟩
def sizedS (n : Int) : Bool := decide (1 ≤ n ∧ n ≤ 100)
theorem sized_con (n : Int) : Con Try.prog gl 15 [I n] (BO (sizedS n)) := by
  unfold sizedS
  refine con_of Try.func15 rfl (by kernel_rfl) rfl ?_
  simp only [Try.ntmps15, Try.results15, argEnv, ofC, of1, List.map]
  by_cases h1 : 1 ≤ n
  · by_cases h2 : n ≤ 100
    · rw [decide_eq_true ⟨h1, h2⟩]
      repeat' (first
 | ((with_reducible apply aw_seq))
 | ((with_reducible apply aw_region))
 | ((with_reducible apply thn_normal))
 | ((with_reducible apply aw_ret))
 | ((with_reducible apply ao_nil))
 | ((with_reducible apply r_move); exact rfl; exact rfl)
 | ((with_reducible apply r_assign); exact rfl; exact rfl)
 | ((with_reducible apply r_leq); exact rfl; exact rfl; exact rfl)
 | ((with_reducible apply r_geq); exact rfl; exact rfl; exact rfl)
 | ((with_reducible apply r_pick_t); exact rfl; exact rfl; exact rfl)
 | (((with_reducible apply r_guard); exact rfl; exact rfl; exact rfl; exact rfl) <;> intro hg <;> (first | (exact absurd hg (by decide)) | ((try simp only [decide_eq_true_eq, decide_eq_false_iff_not, Bool.not_eq_true', Bool.not_eq_false', Bool.not_true, Bool.not_false, Bool.not_not, Int.not_lt, Int.not_le, Nat.not_lt, Nat.not_le, gt_iff_lt, ge_iff_le, List.cons.injEq, and_true] at hg); first | (exact absurd trivial hg) | (exfalso; omega) | (have hT : True := hg; clear hT hg) | skip)))
 )
      all_goals exact ret_b rfl (by simp; omega)
    · rw [decide_eq_false (fun h => h2 h.2)]
      repeat' (first
 | ((with_reducible apply aw_seq))
 | ((with_reducible apply aw_region))
 | ((with_reducible apply thn_normal))
 | ((with_reducible apply aw_ret))
 | ((with_reducible apply ao_nil))
 | ((with_reducible apply r_move); exact rfl; exact rfl)
 | ((with_reducible apply r_assign); exact rfl; exact rfl)
 | ((with_reducible apply r_leq); exact rfl; exact rfl; exact rfl)
 | ((with_reducible apply r_geq); exact rfl; exact rfl; exact rfl)
 | ((with_reducible apply r_pick_t); exact rfl; exact rfl; exact rfl)
 | (((with_reducible apply r_guard); exact rfl; exact rfl; exact rfl; exact rfl) <;> intro hg <;> (first | (exact absurd hg (by decide)) | ((try simp only [decide_eq_true_eq, decide_eq_false_iff_not, Bool.not_eq_true', Bool.not_eq_false', Bool.not_true, Bool.not_false, Bool.not_not, Int.not_lt, Int.not_le, Nat.not_lt, Nat.not_le, gt_iff_lt, ge_iff_le, List.cons.injEq, and_true] at hg); first | (exact absurd trivial hg) | (exfalso; omega) | (have hT : True := hg; clear hT hg) | skip)))
 )
      all_goals exact ret_b rfl (by simp; omega)
  · rw [decide_eq_false (fun h => h1 h.1)]
    repeat' (first
 | ((with_reducible apply aw_seq))
 | ((with_reducible apply aw_region))
 | ((with_reducible apply thn_normal))
 | ((with_reducible apply aw_ret))
 | ((with_reducible apply ao_nil))
 | ((with_reducible apply r_move); exact rfl; exact rfl)
 | ((with_reducible apply r_assign); exact rfl; exact rfl)
 | ((with_reducible apply r_geq); exact rfl; exact rfl; exact rfl)
 | ((with_reducible apply r_pick_f); exact rfl; exact rfl; exact rfl)
 | (((with_reducible apply r_guard); exact rfl; exact rfl; exact rfl; exact rfl) <;> intro hg <;> (first | (exact absurd hg (by decide)) | ((try simp only [decide_eq_true_eq, decide_eq_false_iff_not, Bool.not_eq_true', Bool.not_eq_false', Bool.not_true, Bool.not_false, Bool.not_not, Int.not_lt, Int.not_le, Nat.not_lt, Nat.not_le, gt_iff_lt, ge_iff_le, List.cons.injEq, and_true] at hg); first | (exact absurd trivial hg) | (exfalso; omega) | (have hT : True := hg; clear hT hg) | skip)))
 )
    all_goals exact ret_b rfl (by simp)
end Go.Proofs.Ythkjkhffljlidaa.Jo
/- The journal: is, again, open. -/
namespace Go.Proofs.Ythkjkhffljlidaa.Jo
set_option linter.unusedVariables false
set_option linter.unusedSimpArgs false
open Go.RowKit Go.Proofs.Ythkjkhffljlidaa.Ev Go.Proofs.Ythkjkhffljlidaa.Dk
variable {gl : List (Nat × List CV)}
def isS (t : JS) (gs : List (List ByteArray)) : Bool := decide (t.gr.length = gs.length) && decide (t.recs = gs.flatten)
theorem is_dj (d : DS) (c kd kj : Nat) (t : JS) (gs : List (List ByteArray)) (h1 : gs.length ≤ 1000000) (h2 : ∀ i (hi : i < gs.length), gs[i].length ≤ 1000) (hr : t.recs.length ≤ 1000000000) (hgr : t.gr.length ≤ 100000000) : OCon Try.prog gl 26 [.c (ptrV kj 0), .c (LG gs)] (DJ d c kd kj t) (BO (isS t gs)) (DJ d c kd kj t) := by
  have c0 := (groups_j (gl := gl) kd t).right ((dskP d c).at kd) kj
  have c1 := (records_j (gl := gl) kd t hr).right ((dskP d c).at kd) kj
  have c2 := rrecords_con (gl := gl) gs h1 h2
  have hfl : gs.flatten.length ≤ 1000000000 := by
    have : ∀ (l : List (List ByteArray)), (∀ i (hi : i < l.length), l[i].length ≤ 1000) → l.flatten.length ≤ 1000 * l.length := by
      intro l
      induction l with
      | nil => intro _; simp
      | cons g l ih =>
        intro h
        have a := h 0 (by simp)
        have b := ih (fun i hi => by have := h (i + 1) (by simp; omega); simpa using this)
        rw [List.flatten_cons, List.length_append, List.length_cons]
        have : g.length ≤ 1000 := a
        omega
    have := this gs h2
    omega
  have c3 := same_con (gl := gl) t.recs gs.flatten hr hfl
  unfold isS
  refine ocon_of Try.func26 rfl (by kernel_rfl) rfl (by intro x hx h e; subst e; first | (simp at hx; done) | (intro g; simp at hx; subst hx; rfl)) ?_
  intro fr hfr
  simp only [Try.ntmps26, Try.results26, argEnvO, avOf, of1, List.map]
  by_cases he : t.gr.length = gs.length
  · rw [decide_eq_true he, Bool.true_and]
    repeat' (first
 | ((with_reducible apply (r_callqO (f := 32) 0)); exact c0; exact rfl; exact rfl; exact rfl; exact rfl; exact rfl)
 | ((with_reducible apply (r_callqO (f := 30) 0)); exact c1; exact rfl; exact rfl; exact rfl; exact rfl; exact rfl)
 | ((with_reducible apply (r_call (f := 31))); exact rfl; exact rfl; exact c2; exact rfl; exact rfl)
 | ((with_reducible apply (r_call (f := 14))); exact rfl; exact rfl; exact c3; exact rfl; exact rfl)
 | ((with_reducible apply aw_seq))
 | ((with_reducible apply aw_region))
 | ((with_reducible apply thn_normal))
 | ((with_reducible apply aw_ret))
 | ((with_reducible apply ao_nil))
 | ((with_reducible apply r_move); exact rfl; exact rfl)
 | ((with_reducible apply r_assign); exact rfl; exact rfl)
 | ((with_reducible apply r_eql); exact rfl; exact rfl; exact rfl)
 | ((with_reducible apply r_pick_t); exact rfl; exact rfl; exact rfl)
 | ((with_reducible apply r_len_f); exact rfl; exact inferInstance; exact rfl)
 | (((with_reducible apply r_guard); exact rfl; exact rfl; exact rfl; exact rfl) <;> intro hg <;> (first | (exact absurd hg (by decide)) | ((try simp only [decide_eq_true_eq, decide_eq_false_iff_not, Bool.not_eq_true', Bool.not_eq_false', Bool.not_true, Bool.not_false, Bool.not_not, Int.not_lt, Int.not_le, Nat.not_lt, Nat.not_le, gt_iff_lt, ge_iff_le, List.cons.injEq, and_true] at hg); first | (exact absurd trivial hg) | (exfalso; omega) | (have hT : True := hg; clear hT hg) | skip)))
 )
    all_goals exact ⟨ret1 (.tmp rfl cl_c), rfl, rfl⟩
  · rw [decide_eq_false he, Bool.false_and]
    repeat' (first
 | ((with_reducible apply (r_callqO (f := 32) 0)); exact c0; exact rfl; exact rfl; exact rfl; exact rfl; exact rfl)
 | ((with_reducible apply aw_seq))
 | ((with_reducible apply aw_region))
 | ((with_reducible apply thn_normal))
 | ((with_reducible apply aw_ret))
 | ((with_reducible apply ao_nil))
 | ((with_reducible apply r_move); exact rfl; exact rfl)
 | ((with_reducible apply r_assign); exact rfl; exact rfl)
 | ((with_reducible apply r_eql); exact rfl; exact rfl; exact rfl)
 | ((with_reducible apply r_pick_f); exact rfl; exact rfl; exact rfl)
 | ((with_reducible apply r_len_f); exact rfl; exact inferInstance; exact rfl)
 | (((with_reducible apply r_guard); exact rfl; exact rfl; exact rfl; exact rfl) <;> intro hg <;> (first | (exact absurd hg (by decide)) | ((try simp only [decide_eq_true_eq, decide_eq_false_iff_not, Bool.not_eq_true', Bool.not_eq_false', Bool.not_true, Bool.not_false, Bool.not_not, Int.not_lt, Int.not_le, Nat.not_lt, Nat.not_le, gt_iff_lt, ge_iff_le, List.cons.injEq, and_true] at hg); first | (exact absurd trivial hg) | (exfalso; omega) | (have hT : True := hg; clear hT hg) | skip)))
 )
    all_goals exact ⟨ret1 (.tmp rfl cl_c), rfl, rfl⟩
theorem again_up (d : DS) (c kd : Nat) (hd : d.down = false) (hf : Fine d) : OConE Try.prog gl 25 [.p] ((dskP d c).at kd) (fun kj : Nat => ptrV kj 0) (fun kj => DJ d c kd kj (openD d)) := by
  have c0 := open_up (gl := gl) d c kd hd hf
  refine oconE_of Try.func25 rfl (by kernel_rfl) rfl (by intro x hx h e; subst e; first | (simp at hx; done) | (intro g; simp at hx; subst hx; rfl)) ?_
  intro fr hfr
  simp only [Try.ntmps25, Try.results25, argEnvO, avOf, of1, List.map]
  repeat' (first
 | ((with_reducible apply (r_callOE (f := 28) 0)); exact c0; exact rfl; exact rfl; exact rfl; exact rfl; intro kj)
 | ((with_reducible apply aw_seq))
 | ((with_reducible apply aw_region))
 | ((with_reducible apply thn_normal))
 | ((with_reducible apply aw_skip))
 | ((with_reducible apply aw_ret))
 | ((with_reducible apply ao_nil))
 | ((with_reducible apply r_move); exact rfl; exact rfl)
 | ((with_reducible apply r_assign); exact rfl; exact rfl)
 | ((with_reducible apply r_neq); exact rfl; exact rfl; exact rfl)
 | ((with_reducible apply r_extract); exact rfl; exact rfl; exact rfl)
 | (((with_reducible apply aw_cond); exact rfl) <;> intro hg <;> (first | (exact absurd hg (by decide)) | ((try simp only [decide_eq_true_eq, decide_eq_false_iff_not, Bool.not_eq_true', Bool.not_eq_false', Bool.not_true, Bool.not_false, Bool.not_not, Int.not_lt, Int.not_le, Nat.not_lt, Nat.not_le, gt_iff_lt, ge_iff_le, List.cons.injEq, and_true] at hg); first | (exact absurd trivial hg) | (exfalso; omega) | (have hT : True := hg; clear hT hg) | skip)))
 )
  all_goals exact ret_o kj (ret1 (.tmp rfl cl_c)) rfl rfl
theorem cont_short {prev : Nat} {b : ByteArray} (h : b.size ≤ 19) : contS prev b = none := by
  unfold contS
  rw [if_neg (fun hc : Cont prev b => by have := hc.1; omega)]
theorem openD_new (n : Nat) : openD (DS.new n) = J0 := by
  unfold openD
  cases hc : contents (DS.new n) with
  | nil => rfl
  | cons b l =>
    have hb : b ∈ contents (DS.new n) := by rw [hc]; exact List.mem_cons_self ..
    unfold contents at hb
    obtain ⟨k, hk, rfl⟩ := List.mem_map.1 hb
    refine findG_none (cont_short ?_)
    unfold DS.read DS.new
    dsimp only
    split
    · exact Nat.zero_le _
    split
    · simp only [newest, Option.getD_none]
      rw [List.getD_eq_getElem?_getD]
      cases hg : (List.replicate n ByteArray.empty)[(k : Int).toNat]? with
      | none => exact Nat.zero_le _
      | some x =>
        have := List.mem_of_getElem? hg
        rw [List.mem_replicate] at this
        rw [this.2]; exact Nat.zero_le _
    · exact Nat.zero_le _
theorem open_law (n : Nat) (hn : 1 ≤ n ∧ n ≤ 4096) : NConE Try.prog gl 16 [I n] (fun γ : Nat × Nat => [.p, .c (ptrV γ.2 0)]) (fun γ => DJ (DS.new n) 0 γ.1 γ.2 J0) := by
  refine nconE_of (Γ := Nat × Nat) (t1 := 2) (t2 := 3) (r1 := fun _ => .p) (r2 := fun γ => .c (ptrV γ.2 0)) (p := fun γ => DJ (DS.new n) 0 γ.1 γ.2 J0) Try.func16 rfl Try.results16 (by kernel_rfl) rfl ?_
  simp only [Try.ntmps16, Try.results16, argEnv, ofC, of1, List.map]
  repeat' (first
 | ((with_reducible apply (r_callN (f := 27))); exact dsk_new n hn; exact rfl; exact ⟨.inl rfl, trivial⟩; exact rfl)
 | ((with_reducible apply r_eqnilp); exact rfl; exact rfl; exact rfl)
 | ((with_reducible apply aw_seq))
 | ((with_reducible apply aw_region))
 | ((with_reducible apply thn_normal))
 | ((with_reducible apply aw_skip))
 | ((with_reducible apply ao_nil))
 | ((with_reducible apply r_move); exact rfl; exact rfl)
 | ((with_reducible apply r_assign); exact rfl; exact rfl)
 | ((with_reducible apply r_neq); exact rfl; exact rfl; exact rfl)
 | ((with_reducible apply r_pick_f); exact rfl; exact rfl; exact rfl)
 | ((with_reducible apply r_extract); exact rfl; exact rfl; exact rfl)
 | (((with_reducible apply r_guard); exact rfl; exact rfl; exact rfl; exact rfl) <;> intro hg <;> (first | (exact absurd hg (by decide)) | ((try simp only [decide_eq_true_eq, decide_eq_false_iff_not, Bool.not_eq_true', Bool.not_eq_false', Bool.not_true, Bool.not_false, Bool.not_not, Int.not_lt, Int.not_le, Nat.not_lt, Nat.not_le, gt_iff_lt, ge_iff_le, List.cons.injEq, and_true] at hg); first | (exact absurd trivial hg) | (exfalso; omega) | (have hT : True := hg; clear hT hg) | skip)))
 | (((with_reducible apply aw_cond); exact rfl) <;> intro hg <;> (first | (exact absurd hg (by decide)) | ((try simp only [decide_eq_true_eq, decide_eq_false_iff_not, Bool.not_eq_true', Bool.not_eq_false', Bool.not_true, Bool.not_false, Bool.not_not, Int.not_lt, Int.not_le, Nat.not_lt, Nat.not_le, gt_iff_lt, ge_iff_le, List.cons.injEq, and_true] at hg); first | (exact absurd trivial hg) | (exfalso; omega) | (have hT : True := hg; clear hT hg) | skip)))
 )
  refine ao_root 0 rfl (fun kd => ?_)
  have c1 := open_up (gl := gl) (DS.new n) 0 kd rfl (Fine.new n hn.1 hn.2)
  rw [openD_new] at c1
  refine r_callOE 0 c1 rfl rfl rfl rfl (fun kj => ?_)
  repeat' (first
 | ((with_reducible apply r_eqnil1); exact rfl; exact rfl; exact rfl)
 | ((with_reducible apply aw_seq))
 | ((with_reducible apply aw_region))
 | ((with_reducible apply thn_normal))
 | ((with_reducible apply aw_skip))
 | ((with_reducible apply aw_ret))
 | ((with_reducible apply ao_nil))
 | ((with_reducible apply r_move); exact rfl; exact rfl)
 | ((with_reducible apply r_assign); exact rfl; exact rfl)
 | ((with_reducible apply r_neq); exact rfl; exact rfl; exact rfl)
 | ((with_reducible apply r_pick_f); exact rfl; exact rfl; exact rfl)
 | ((with_reducible apply r_extract); exact rfl; exact rfl; exact rfl)
 | (((with_reducible apply r_guard); exact rfl; exact rfl; exact rfl; exact rfl) <;> intro hg <;> (first | (exact absurd hg (by decide)) | ((try simp only [decide_eq_true_eq, decide_eq_false_iff_not, Bool.not_eq_true', Bool.not_eq_false', Bool.not_true, Bool.not_false, Bool.not_not, Int.not_lt, Int.not_le, Nat.not_lt, Nat.not_le, gt_iff_lt, ge_iff_le, List.cons.injEq, and_true] at hg); first | (exact absurd trivial hg) | (exfalso; omega) | (have hT : True := hg; clear hT hg) | skip)))
 | (((with_reducible apply aw_cond); exact rfl) <;> intro hg <;> (first | (exact absurd hg (by decide)) | ((try simp only [decide_eq_true_eq, decide_eq_false_iff_not, Bool.not_eq_true', Bool.not_eq_false', Bool.not_true, Bool.not_false, Bool.not_not, Int.not_lt, Int.not_le, Nat.not_lt, Nat.not_le, gt_iff_lt, ge_iff_le, List.cons.injEq, and_true] at hg); first | (exact absurd trivial hg) | (exfalso; omega) | (have hT : True := hg; clear hT hg) | skip)))
 )
  all_goals exact ⟨.inr rfl, (kd, kj), 0, _, _, rfl, rfl, rfl, rfl, Or.inl rfl⟩
end Go.Proofs.Ythkjkhffljlidaa.Jo
/- The journal, plain: what is written on a disk that does not crash. -/
namespace Go.Proofs.Ythkjkhffljlidaa.Jo
set_option linter.unusedVariables false
set_option linter.unusedSimpArgs false
open Go.RowKit Go.Proofs.Ythkjkhffljlidaa.Ev Go.Proofs.Ythkjkhffljlidaa.Dk
variable {gl : List (Nat × List CV)}
def putAt (l : List ByteArray) (n : Nat) : List ByteArray → List ByteArray
  | [] => l
  | b :: bl => putAt (l.set n b) (n + 1) bl
theorem putAt_len : ∀ (bl : List ByteArray) (l : List ByteArray) (n : Nat), (putAt l n bl).length = l.length
  | [], l, n => rfl
  | b :: bl, l, n => by rw [putAt, putAt_len bl]; simp
def pairs (n : Nat) : List ByteArray → List (Int × ByteArray)
  | [] => []
  | b :: bl => ((n : Int), b) :: pairs (n + 1) bl
theorem settle_pairs : ∀ (bl : List ByteArray) (n k : Nat) (b : List ByteArray), settleGo (fun _ => true) k (pairs n bl) b = putAt b n bl
  | [], n, k, b => rfl
  | x :: bl, n, k, b => by
    simp only [pairs, settleGo, if_true, putAt]
    exact settle_pairs bl (n + 1) (k + 1) _
theorem write_free {d : DS} (hd : d.down = false) (ha : d.armed = false) {n : Nat} (hn : n < d.blocks.length) {b : ByteArray} (hs : b.size ≤ 64) : d.write (n : Int) b = ({ d with pend := d.pend ++ [((n : Int), b)] }, 0) := by
  have hst : d.step = (d, true) := by unfold DS.step; rw [ha, if_neg (by decide)]
  unfold DS.write inB
  rw [if_neg (by rw [hd]; decide), if_pos (by simp [hn]), if_neg (by omega), hst, if_pos rfl]
theorem flush_free {d : DS} (hd : d.down = false) (ha : d.armed = false) : d.flush = ({ d with blocks := settleGo (fun _ => true) 0 d.pend d.blocks, pend := [] }, 0) := by
  have hst : d.step = (d, true) := by unfold DS.step; rw [ha, if_neg (by decide)]
  unfold DS.flush
  rw [if_neg (by rw [hd]; decide), hst, if_pos rfl]
  rfl
theorem writeS_free : ∀ (bl : List ByteArray) (d : DS) (n : Nat), d.down = false → d.armed = false → n + bl.length ≤ d.blocks.length → (∀ x ∈ bl, x.size ≤ 64) → writeS d n bl = ({ d with blocks := settleGo (fun _ => true) 0 (d.pend ++ pairs n bl) d.blocks, pend := [] }, 0)
  | [], d, n, hd, ha, hn, hs => by rw [writeS, flush_free hd ha]; simp [pairs]
  | b :: bl, d, n, hd, ha, hn, hs => by
    rw [List.length_cons] at hn
    rw [writeS, write_free hd ha (by omega) (hs b (List.mem_cons_self ..)), if_neg (by simp)]
    rw [writeS_free bl { d with pend := d.pend ++ [((n : Int), b)] } (n + 1) hd ha (by show n + 1 + bl.length ≤ d.blocks.length; omega) (fun x hx => hs x (List.mem_cons_of_mem _ hx))]
    simp [pairs]
structure Quiet (d : DS) : Prop where
  up : d.down = false
  free : d.armed = false
  none : d.pend = []
theorem writeS_quiet {d : DS} (h : Quiet d) {n : Nat} {bl : List ByteArray} (hn : n + bl.length ≤ d.blocks.length) (hs : ∀ x ∈ bl, x.size ≤ 64) : writeS d n bl = ({ d with blocks := putAt d.blocks n bl }, 0) := by
  rw [writeS_free bl d n h.up h.free hn hs, h.none, List.nil_append, settle_pairs]
theorem new_quiet (n : Nat) : Quiet (DS.new n) := ⟨rfl, rfl, rfl⟩
theorem divB_length : ∀ (k prev : Nat) (s : ByteArray), s.size ≤ k → (divB prev s).1.length = (s.size + 44) / 45
  | 0, prev, s, h => by rw [divB_nil (by omega), show s.size = 0 by omega]; rfl
  | k + 1, prev, s, h => by
    by_cases h0 : s.size = 0
    · rw [divB_nil h0, h0]; rfl
    · rw [divB_cons h0 rfl rfl rfl, List.length_cons, divB_length k _ _ (by rw [ByteArray.size_extract]; omega), ByteArray.size_extract]
      omega
theorem divB_one {prev : Nat} {s : ByteArray} (h0 : s.size ≠ 0) (h : s.size ≤ 45) : divB prev s = ([hexS (chainS prev (restN 46 s.size s)) ++ restN 46 s.size s], chainS prev (restN 46 s.size s)) := by
  have e : s.extract 0 s.size = s := ba_eq (by rw [ba_ext, List.drop_zero, List.take_of_length_le (by rw [ba_size]; omega)])
  have hr : restN 46 s.size s = restN (markB (decide (s.size ≤ 45))) s.size (s.extract 0 s.size) := by rw [e, decide_eq_true h]; rfl
  rw [divB_cons h0 (n := s.size) (by omega) hr rfl, divB_nil (by rw [ByteArray.size_extract]; omega)]
end Go.Proofs.Ythkjkhffljlidaa.Jo
/- The plain laws of checksums, hashes and digits: inverses, exclusive or, detection. -/
namespace Go.Proofs.Ythkjkhffljlidaa.Sm
set_option linter.unusedVariables false
set_option linter.unusedSimpArgs false
theorem hexVal_hexDigit (d : Nat) (h : d < 16) : hexVal (hexDigit d).toNat = some d := by
  have : ∀ d, d < 16 → hexVal (hexDigit d).toNat = some d := by decide
  exact this d h
theorem digits_succ (n many : Nat) : digits n (many + 1) = digits (n / 16) many ++ [hexDigit (n % 16)] := by
  apply List.ext_getElem
  · simp [digits]
  · intro i h1 h2
    have hi : i < many + 1 := by simpa [digits] using h1
    simp only [digits, List.getElem_map, List.getElem_range]
    by_cases e : i < many
    · rw [List.getElem_append_left (by simpa using e)]
      simp only [List.getElem_map, List.getElem_range]
      rw [show many + 1 - 1 - i = (many - 1 - i) + 1 from by omega, Nat.pow_succ, Nat.mul_comm, ← Nat.div_div_eq_div_mul]
    · obtain rfl : i = many := by omega
      simp
theorem parse_digits : ∀ (many n : Nat), n < 16 ^ many → parse (digits n many) 0 = some n
  | 0, n, h => by simp at h; subst h; rfl
  | many + 1, n, h => by
    rw [digits_succ, parse_snoc, parse_digits many (n / 16) (by rw [Nat.pow_succ] at h; omega)]
    simp only [Option.bind_some]
    rw [hexVal_hexDigit _ (Nat.mod_lt _ (by omega))]
    simp only [Option.map_some]
    congr 1; omega
theorem number_hex (n : BitVec 64) : number (digits n.toNat 16) = (n.toNat, 0) :=
  num_ok _ _ (digits_len _ _) (parse_digits 16 _ (by have := n.isLt; exact this))
/-! exclusive or -/
theorem low_xor (x y : BitVec 32) : (x ^^^ y).toNat % 2 = (x.toNat % 2 + y.toNat % 2) % 2 := by
  rw [BitVec.toNat_xor]
  have h := Nat.xor_mod_two_pow (a := x.toNat) (b := y.toNat) (n := 1)
  simp only [Nat.pow_one] at h
  rw [h]
  rcases Nat.mod_two_eq_zero_or_one x.toNat with hx | hx <;> rcases Nat.mod_two_eq_zero_or_one y.toNat with hy | hy <;> rw [hx, hy] <;> rfl
theorem crcBit_xor (x y : BitVec 32) : crcBit (x ^^^ y) = crcBit x ^^^ crcBit y := by
  unfold crcBit
  rw [low_xor, BitVec.ushiftRight_xor_distrib]
  rcases Nat.mod_two_eq_zero_or_one x.toNat with hx | hx <;> rcases Nat.mod_two_eq_zero_or_one y.toNat with hy | hy
  · rw [hx, hy]; rfl
  · rw [hx, hy, if_pos (by decide), if_neg (by decide), if_pos (by decide), BitVec.xor_assoc]
  · rw [hx, hy, if_pos (by decide), if_pos (by decide), if_neg (by decide), BitVec.xor_assoc, BitVec.xor_assoc, BitVec.xor_comm _ (y >>> 1)]
  · rw [hx, hy, if_neg (by decide), if_pos rfl, if_pos rfl]
    rw [BitVec.xor_assoc (x >>> 1), ← BitVec.xor_assoc 0xedb88320#32, BitVec.xor_comm 0xedb88320#32 (y >>> 1), BitVec.xor_assoc (y >>> 1), BitVec.xor_self, BitVec.xor_zero]
theorem crcBits_xor : ∀ (k : Nat) (x y : BitVec 32), crcBits k (x ^^^ y) = crcBits k x ^^^ crcBits k y
  | 0, _, _ => rfl
  | k + 1, x, y => by simp only [crcBits]; rw [crcBits_xor k, crcBit_xor]
theorem ofNat_xor (a b : UInt8) : BitVec.ofNat 32 (a ^^^ b).toNat = BitVec.ofNat 32 a.toNat ^^^ BitVec.ofNat 32 b.toNat := by
  apply BitVec.eq_of_toNat_eq
  rw [byte32, BitVec.toNat_xor, byte32, byte32, UInt8.toNat_xor]
theorem xor3_swap (a b c d : BitVec 32) : (a ^^^ b) ^^^ (c ^^^ d) = (a ^^^ c) ^^^ (b ^^^ d) := by
  rw [BitVec.xor_assoc, ← BitVec.xor_assoc b, BitVec.xor_comm b c, BitVec.xor_assoc c, ← BitVec.xor_assoc a]
theorem crcByte_xor (x y : BitVec 32) (a b : UInt8) : crcByte (x ^^^ y) (a ^^^ b) = crcByte x a ^^^ crcByte y b := by
  unfold crcByte
  rw [ofNat_xor, xor3_swap, crcBits_xor]
theorem fold_xor3 : ∀ (a b c x : List UInt8) (p q r : BitVec 32), a.length = b.length → a.length = c.length → x.length = a.length →
    (∀ i (h : i < x.length), ∀ (ha : i < a.length) (hb : i < b.length) (hc : i < c.length), x[i] = a[i] ^^^ b[i] ^^^ c[i]) →
    x.foldl crcByte (p ^^^ q ^^^ r) = a.foldl crcByte p ^^^ b.foldl crcByte q ^^^ c.foldl crcByte r
  | [], [], [], [], _, _, _, _, _, _, _ => rfl
  | a :: al, b :: bs, c :: cs, x :: xs, p, q, r, h1, h2, h3, h => by
    simp only [List.foldl_cons]
    have h0 := h 0 (by simp) (by simp) (by simp) (by simp)
    simp only [List.getElem_cons_zero] at h0
    rw [h0, crcByte_xor, crcByte_xor]
    refine fold_xor3 al bs cs xs _ _ _ (by simpa using h1) (by simpa using h2) (by simpa using h3) ?_
    intro i hx ha hb hc
    have := h (i + 1) (by simpa using hx) (by simpa using ha) (by simpa using hb) (by simpa using hc)
    simpa using this
  | [], _ :: _, _, _, _, _, _, h1, _, _, _ => by simp at h1
  | _ :: _, [], _, _, _, _, _, h1, _, _, _ => by simp at h1
  | [], _, _ :: _, _, _, _, _, _, h2, _, _ => by simp at h2
  | _ :: _, _, [], _, _, _, _, _, h2, _, _ => by simp at h2
  | [], _, _, _ :: _, _, _, _, _, _, h3, _ => by simp at h3
  | _ :: _, _, _, [], _, _, _, _, _, h3, _ => by simp at h3
theorem crc_xor3 (a b c x : List UInt8) (h1 : a.length = b.length) (h2 : a.length = c.length) (h3 : x.length = a.length)
    (h : ∀ i (h : i < x.length), ∀ (ha : i < a.length) (hb : i < b.length) (hc : i < c.length), x[i] = a[i] ^^^ b[i] ^^^ c[i]) :
    crc x = crc a ^^^ crc b ^^^ crc c := by
  unfold crc crcReg
  have e := fold_xor3 a b c x 0xffffffff#32 0xffffffff#32 0xffffffff#32 h1 h2 h3 h
  rw [show (0xffffffff#32 ^^^ 0xffffffff#32 ^^^ 0xffffffff#32 : BitVec 32) = 0xffffffff#32 from by decide] at e
  rw [e]
  generalize a.foldl crcByte 0xffffffff#32 = p
  generalize b.foldl crcByte 0xffffffff#32 = q
  generalize c.foldl crcByte 0xffffffff#32 = r
  rw [← BitVec.xor_allOnes, ← BitVec.xor_allOnes, ← BitVec.xor_allOnes, ← BitVec.xor_allOnes]
  rw [xor3_swap p, BitVec.xor_self, BitVec.xor_zero, BitVec.xor_assoc]
/-! hash -/
theorem hashByte_inj (n : BitVec 64) (c d : UInt8) (h : hashByte n c = hashByte n d) : c = d := by
  unfold hashByte at h
  have hinv : (0x100000001b3#64 : BitVec 64) * 0xce965057aff6957b#64 = 1#64 := by decide
  have h2 := congrArg (· * (0xce965057aff6957b#64 : BitVec 64)) h
  simp only [BitVec.mul_assoc, hinv, BitVec.mul_one] at h2
  have h3 := congrArg (n ^^^ ·) h2
  simp only [← BitVec.xor_assoc, BitVec.xor_self, BitVec.zero_xor] at h3
  have h4 := congrArg BitVec.toNat h3
  rw [byte64, byte64] at h4
  exact UInt8.toNat_inj.1 h4
/-! detection -/
theorem crcBit_zero (x : BitVec 32) (h : crcBit x = 0#32) : x = 0#32 := by
  unfold crcBit at h
  have hlt := x.isLt
  split at h
  · rename_i h1
    have e : x >>> 1 = 0xedb88320#32 := by
      have := congrArg (· ^^^ 0xedb88320#32) h
      simp only [BitVec.xor_assoc, BitVec.xor_self, BitVec.xor_zero, BitVec.zero_xor] at this
      exact this
    have := congrArg BitVec.toNat e
    rw [BitVec.toNat_ushiftRight, Nat.shiftRight_succ, Nat.shiftRight_zero] at this
    have h2 : (0xedb88320#32 : BitVec 32).toNat = 3988292384 := rfl
    omega
  · rename_i h1
    have := congrArg BitVec.toNat h
    rw [BitVec.toNat_ushiftRight, Nat.shiftRight_succ, Nat.shiftRight_zero] at this
    have h2 : (0#32 : BitVec 32).toNat = 0 := rfl
    apply BitVec.eq_of_toNat_eq
    omega
theorem crcBits_zero : ∀ (k : Nat) (x : BitVec 32), crcBits k x = 0#32 → x = 0#32
  | 0, _, h => h
  | k + 1, x, h => crcBits_zero k x (crcBit_zero _ h)
theorem crcBits_add (j : Nat) : ∀ (k : Nat) (x : BitVec 32), crcBits k (crcBits j x) = crcBits (j + k) x
  | 0, _ => rfl
  | k + 1, x => by
    show crcBit (crcBits k (crcBits j x)) = crcBit (crcBits (j + k) x)
    rw [crcBits_add j k x]
theorem crcBits_shift : ∀ (k : Nat) (y : Nat), k ≤ 32 → y < 2 ^ (32 - k) → crcBits k (BitVec.ofNat 32 (y * 2 ^ k)) = BitVec.ofNat 32 y
  | 0, y, _, _ => by simp [crcBits]
  | k + 1, y, hk, hy => by
    have e : y * 2 ^ (k + 1) = (y * 2) * 2 ^ k := by rw [Nat.pow_succ, Nat.mul_assoc, Nat.mul_comm 2]
    have h1 : 2 ^ (32 - k) = 2 * 2 ^ (32 - (k + 1)) := by rw [show 32 - k = (32 - (k + 1)) + 1 from by omega, Nat.pow_succ, Nat.mul_comm]
    show crcBit (crcBits k _) = _
    rw [e, crcBits_shift k (y * 2) (by omega) (by omega)]
    have h2 : 2 ^ (32 - (k + 1)) ≤ 2 ^ 31 := Nat.pow_le_pow_right (by omega) (by omega)
    have hy2 : y * 2 < 2 ^ 32 := by omega
    unfold crcBit
    rw [BitVec.toNat_ofNat, Nat.mod_eq_of_lt hy2, if_neg (by omega)]
    apply BitVec.eq_of_toNat_eq
    rw [BitVec.toNat_ushiftRight, BitVec.toNat_ofNat, BitVec.toNat_ofNat, Nat.mod_eq_of_lt hy2, Nat.mod_eq_of_lt (by omega), Nat.shiftRight_succ, Nat.shiftRight_zero]
    omega
def comb : List UInt8 → Nat
  | [] => 0
  | d :: ds => d.toNat + comb ds * 256
theorem comb_lt : ∀ ds : List UInt8, comb ds < 2 ^ (8 * ds.length)
  | [] => by simp [comb]
  | d :: ds => by
    have := comb_lt ds
    have := d.toNat_lt
    simp only [comb, List.length_cons]
    rw [show 8 * (ds.length + 1) = 8 * ds.length + 8 from by omega, Nat.pow_add]
    have : (comb ds + 1) * 256 ≤ 2 ^ (8 * ds.length) * 2 ^ 8 := Nat.mul_le_mul_right _ (by omega)
    omega
theorem comb_zero : ∀ ds : List UInt8, comb ds = 0 → ∀ d ∈ ds, d = 0
  | [], _, d, hd => by simp at hd
  | e :: ds, h, d, hd => by
    simp only [comb] at h
    rcases List.mem_cons.1 hd with rfl | hd
    · exact UInt8.toNat_inj.1 (by show d.toNat = 0; omega)
    · exact comb_zero ds (by omega) d hd
theorem add_as_xor (d c : Nat) (hd : d < 256) : BitVec.ofNat 32 (d + c * 256) = BitVec.ofNat 32 d ^^^ BitVec.ofNat 32 (c * 256) := by
  have e : d + c * 256 = d ^^^ (c * 256) := by
    have := Nat.two_pow_add_eq_or_of_lt (i := 8) (b := d) hd c
    rw [Nat.mul_comm c 256, Nat.add_comm, show (256 : Nat) = 2 ^ 8 from rfl, this]
    apply Nat.eq_of_testBit_eq
    intro j
    rw [Nat.testBit_or, Nat.testBit_xor, Nat.testBit_two_pow_mul]
    by_cases hj : 8 ≤ j
    · have : d.testBit j = false := Nat.testBit_lt_two_pow (Nat.lt_of_lt_of_le hd (Nat.pow_le_pow_right (by omega) hj : 2 ^ 8 ≤ 2 ^ j))
      simp [hj, this]
    · simp [hj]
  rw [e]
  apply BitVec.eq_of_toNat_eq
  rw [BitVec.toNat_xor, BitVec.toNat_ofNat, BitVec.toNat_ofNat, BitVec.toNat_ofNat, Nat.xor_mod_two_pow]
theorem fold_delta : ∀ (ds : List UInt8) (x : BitVec 32), ds.length ≤ 4 → ds.foldl (fun r d => crcBits 8 (r ^^^ BitVec.ofNat 32 d.toNat)) x = crcBits (8 * ds.length) (x ^^^ BitVec.ofNat 32 (comb ds))
  | [], x, _ => by simp [comb, crcBits]
  | d :: ds, x, h => by
    simp only [List.foldl_cons]
    have hl : ds.length ≤ 3 := by simpa using h
    rw [fold_delta ds _ (by omega)]
    have hc : comb ds < 2 ^ (32 - 8) := Nat.lt_of_lt_of_le (comb_lt ds) (Nat.pow_le_pow_right (by omega) (by omega))
    have e1 := crcBits_shift 8 (comb ds) (by omega) hc
    rw [← e1, ← crcBits_xor, crcBits_add]
    simp only [comb, List.length_cons]
    rw [add_as_xor d.toNat (comb ds) d.toNat_lt, BitVec.xor_assoc, show 8 + 8 * ds.length = 8 * (ds.length + 1) from by omega]
theorem fold_diff : ∀ (a ds : List UInt8) (x y : BitVec 32), a.length = ds.length →
    (List.zipWith (· ^^^ ·) a ds).foldl crcByte (x ^^^ y) = a.foldl crcByte x ^^^ ds.foldl (fun r d => crcBits 8 (r ^^^ BitVec.ofNat 32 d.toNat)) y
  | [], [], _, _, _ => rfl
  | a :: al, d :: ds, x, y, h => by
    simp only [List.zipWith_cons_cons, List.foldl_cons]
    rw [crcByte_xor]
    exact fold_diff al ds _ _ (by simpa using h)
  | [], _ :: _, _, _, h => by simp at h
  | _ :: _, [], _, _, h => by simp at h
theorem fold_same : ∀ (l : List UInt8) (x y : BitVec 32), l.foldl crcByte (x ^^^ y) = l.foldl crcByte x ^^^ crcBits (8 * l.length) y
  | [], _, _ => rfl
  | c :: l, x, y => by
    simp only [List.foldl_cons]
    have e : crcByte (x ^^^ y) c = crcByte x c ^^^ crcBits 8 y := by
      unfold crcByte
      rw [BitVec.xor_assoc, BitVec.xor_comm y, ← BitVec.xor_assoc, crcBits_xor]
    rw [e, fold_same l, crcBits_add, List.length_cons, show 8 + 8 * l.length = 8 * (l.length + 1) from by omega]
theorem crc_burst (p a q ds : List UInt8) (h : a.length = ds.length) (h4 : ds.length ≤ 4) (e : crc (p ++ List.zipWith (· ^^^ ·) a ds ++ q) = crc (p ++ a ++ q)) : ∀ d ∈ ds, d = 0 := by
  unfold crc crcReg at e
  have e' := congrArg (~~~ ·) e
  simp only [BitVec.not_not, List.foldl_append] at e'
  generalize List.foldl crcByte 0xffffffff#32 p = r at e'
  have e2 := fold_diff a ds r 0#32 h
  rw [BitVec.xor_zero, fold_delta ds _ h4, BitVec.zero_xor] at e2
  rw [e2, fold_same] at e'
  have e3 := congrArg (List.foldl crcByte (List.foldl crcByte r a) q ^^^ ·) e'
  simp only [← BitVec.xor_assoc, BitVec.xor_self, BitVec.zero_xor] at e3
  have e4 := crcBits_zero _ _ (crcBits_zero _ _ e3)
  have e5 := congrArg BitVec.toNat e4
  rw [BitVec.toNat_ofNat, Nat.mod_eq_of_lt (Nat.lt_of_lt_of_le (comb_lt ds) (Nat.pow_le_pow_right (by omega) (by omega)))] at e5
  exact comb_zero ds e5
#print axioms crc_burst
#print axioms crc_xor3
#print axioms hashByte_inj
end Go.Proofs.Ythkjkhffljlidaa.Sm
