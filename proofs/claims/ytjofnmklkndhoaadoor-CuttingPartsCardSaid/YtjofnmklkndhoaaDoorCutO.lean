/- Walks of cutting: Clone, repeat, Uniform. -/
import Derived.Test.YtjofnmklkndhoaaDoorCutG
import Derived.Test.YtjofnmklkndhoaaDoorEv16
namespace Go.Proofs.YtjofnmklkndhoaaDoor.Cu
set_option linter.unusedVariables false
set_option linter.unusedSimpArgs false
open Go.RowKit Go.Proofs.YtjofnmklkndhoaaDoor.Ev
variable {gl : List (Nat × List CV)}

set_option maxRecDepth 100000 in
set_option maxHeartbeats 4000000 in
theorem clone_con (l : List Int) (hn : l.length ≤ 100000) : Con Tryd.prog gl 50 [LI l] (LI l) := by
  refine con_of Tryd.func50 rfl (by kernel_rfl) rfl ?_
  simp only [Tryd.ntmps50, Tryd.results50, argEnv, ofC, of1, List.map]
  repeat' (first
    | ((with_reducible apply r_eqnil); exact rfl; exact rfl; exact rfl; intro nb hnb)
    | ((with_reducible apply (r_appendl (enc := inC) (l := []) (l2 := l))); exact rfl; exact rfl; exact inferInstance; exact rfl; exact rfl; exact (by omega); exact (by omega); exact rfl)
    | ((with_reducible apply aw_seq))
    | ((with_reducible apply aw_region))
    | ((with_reducible apply thn_normal))
    | ((with_reducible apply thn_ret))
    | ((with_reducible apply aw_skip))
    | ((with_reducible apply aw_ret))
    | ((with_reducible apply ao_nil))
    | ((with_reducible apply r_move); exact rfl; exact rfl)
    | ((with_reducible apply r_assign); exact rfl; exact rfl)
    | (((with_reducible apply aw_cond); exact rfl) <;> intro hg <;> (first | (exact absurd hg (by decide)) | ((try simp only [decide_eq_true_eq, decide_eq_false_iff_not, Bool.not_eq_true', Bool.not_eq_false', Bool.not_true, Bool.not_false, Bool.not_not, Int.not_lt, Int.not_le, Nat.not_lt, Nat.not_le, gt_iff_lt, ge_iff_le, List.cons.injEq, and_true] at hg); first | (exact absurd trivial hg) | (exfalso; omega) | (have hT : True := hg; clear hT hg) | skip)))
    | ((with_reducible apply r_lit0); exact rfl)
    )
  · have : l = [] := by
      cases l with
      | nil => rfl
      | cons a l => have := hnb (by simp [inC]); subst this; cases hg
    subst this
    exact ret1 (.tmp rfl cl_none)
  · exact ret1 (.tmp rfl (cl_vec rfl (by rw [flat_len EncL.len]; simp)))
set_option maxRecDepth 100000 in
set_option maxHeartbeats 4000000 in
theorem repeat_con (n c : Int) (k : Nat) (hc : c = k) (hk : k ≤ 100000) : Con Tryd.prog gl 51 [I n, I c] (LI (List.replicate k n)) := by
  subst hc
  refine con_of Tryd.func51 rfl (by kernel_rfl) rfl ?_
  simp only [Tryd.ntmps51, Tryd.results51, argEnv, ofC, of1, List.map]
  repeat' (first
    | ((with_reducible apply r_make (enc := inC) (0 : Int) k); exact inferInstance; exact rfl; exact rfl; exact rfl; exact rfl; exact rfl; omega; omega; exact rfl)
    | ((with_reducible apply r_len_v); exact rfl; exact rfl; (rw [flat_len EncL.len, List.length_replicate]); exact rfl)
    | ((with_reducible apply aw_seq))
    | ((with_reducible apply aw_region))
    | ((with_reducible apply aw_block))
    | ((with_reducible apply thn_normal))
    | ((with_reducible apply ao_nil))
    | ((with_reducible apply r_move); exact rfl; exact rfl)
    | ((with_reducible apply r_assign); exact rfl; exact rfl)
    )
  refine aw_loopG (G := Nat × List Int) (fun ((j, s) : Nat × List Int) => j ≤ k ∧ s = List.replicate j n ++ List.replicate (k - j) 0) (fun ((j, s) : Nat × List Int) => k - j) (fun ((j, s) : Nat × List Int) => [(0, A n), (5, .vec 0 k), (10, A k), (11, A j)]) (fun ((j, s) : Nat × List Int) => [(0, some (.vec 3 1 (s.flatMap inC)))]) 1 (0, List.replicate k 0) ?_ (by refine weak_mk rfl ?_ ?_ <;> repeat (first | exact envW_nil | exact heapW_nil | refine envW_cons rfl rfl ?_ | refine heapW_cons rfl rfl rfl ?_)) rfl ?_
  · exact ⟨Nat.zero_le _, by simp⟩
  rintro ⟨j, s⟩ hI
  try dsimp only at hI
  try dsimp only
  obtain ⟨hj, hs⟩ := hI
  have hsl : s.length = k := by rw [hs]; simp; omega
  by_cases hjk : j < k
  · skip
    repeat' (first
      | ((with_reducible apply (r_store_v (enc := inC) (k := j) (l := s) n)); exact rfl; exact rfl; exact inferInstance; exact hsl; exact (by omega); exact rfl; exact rfl; exact rfl; exact rfl)
      | ((with_reducible apply aw_seq))
      | ((with_reducible apply aw_region))
      | ((with_reducible apply aw_block))
      | ((with_reducible apply thn_normal))
      | ((with_reducible apply inb_normal))
      | ((with_reducible apply aw_skip))
      | ((with_reducible apply ao_nil))
      | ((with_reducible apply r_move); exact rfl; exact rfl)
      | ((with_reducible apply r_assign); exact rfl; exact rfl)
      | ((with_reducible apply r_lss); exact rfl; exact rfl; exact rfl)
      | ((with_reducible apply r_add); exact rfl; exact rfl; exact (by first | assumption | (unfold fits; omega)); exact rfl)
      | ((with_reducible apply r_index_vf); exact rfl; exact rfl; exact inferInstance; (first | exact rfl | assumption | omega); exact rfl; exact rfl; (first | assumption | omega); exact rfl)
      | (((with_reducible apply aw_cond); exact rfl) <;> intro hg <;> (first | (exact absurd hg (by decide)) | ((try simp only [decide_eq_true_eq, decide_eq_false_iff_not, Bool.not_eq_true', Bool.not_eq_false', Bool.not_true, Bool.not_false, Bool.not_not, Int.not_lt, Int.not_le, Nat.not_lt, Nat.not_le, gt_iff_lt, ge_iff_le, List.cons.injEq, and_true] at hg); first | (exact absurd trivial hg) | (exfalso; omega) | (have hT : True := hg; clear hT hg) | skip)))
      )
    refine ⟨(j + 1, s.set j n), ?_, ?_, by refine weak_mk rfl ?_ ?_ <;> repeat (first | exact envW_nil | exact heapW_nil | refine envW_cons rfl rfl ?_ | refine heapW_cons rfl rfl rfl ?_)⟩
    · show k - (j + 1) < k - j; omega
    · refine ⟨by show j + 1 ≤ k; omega, ?_⟩
      show s.set j n = _
      rw [hs]
      refine List.ext_getElem (by simp; omega) (fun i h1 h2 => ?_)
      rw [List.getElem_set]
      simp only [List.getElem_append, List.length_replicate, List.getElem_replicate]
      by_cases e : j = i
      · rw [if_pos e, dif_pos (by omega)]
      · rw [if_neg e]
        by_cases h : i < j
        · rw [dif_pos h, dif_pos (by omega)]
        · rw [dif_neg h, dif_neg (by omega)]
  · obtain rfl : j = k := by omega
    repeat' (first
      | ((with_reducible apply aw_seq))
      | ((with_reducible apply aw_region))
      | ((with_reducible apply thn_normal))
      | ((with_reducible apply thn_exit))
      | ((with_reducible apply inb_exit))
      | ((with_reducible apply aw_exit))
      | ((with_reducible apply aw_ret))
      | ((with_reducible apply ao_nil))
      | ((with_reducible apply r_move); exact rfl; exact rfl)
      | ((with_reducible apply r_assign); exact rfl; exact rfl)
      | ((with_reducible apply r_lss); exact rfl; exact rfl; exact rfl)
      | (((with_reducible apply aw_cond); exact rfl) <;> intro hg <;> (first | (exact absurd hg (by decide)) | ((try simp only [decide_eq_true_eq, decide_eq_false_iff_not, Bool.not_eq_true', Bool.not_eq_false', Bool.not_true, Bool.not_false, Bool.not_not, Int.not_lt, Int.not_le, Nat.not_lt, Nat.not_le, gt_iff_lt, ge_iff_le, List.cons.injEq, and_true] at hg); first | (exact absurd trivial hg) | (exfalso; omega) | (have hT : True := hg; clear hT hg) | skip)))
      )
    have : s = List.replicate j n := by rw [hs]; simp
    rw [← this]
    exact ret1 (.tmp rfl (cl_vec rfl (by rw [flat_len EncL.len, hsl])))

def zeroL : Line := ⟨0, 0, 0, [], [], [], []⟩
def rowsU (n : Int) (sizes gains : List Int) : List (List Int) := List.zipWith (fun s g => List.replicate (max 0 (n - s + 1)).toNat g) sizes gains
def lineU (n k p : Int) (sizes gains : List Int) (c d : Int) : Line := ⟨n, k, p, sizes, rowsU n sizes gains, List.replicate n.toNat c, List.replicate n.toNat d⟩
def baseU (n k p : Int) (sizes : List Int) : Line := ⟨n, k, p, sizes, [], [], []⟩
/-- The line, or the error. -/
noncomputable def uniS (n k p : Int) (sizes gains : List Int) (c d : Int) : Line × Int :=
  if sizes.length ≠ gains.length then (zeroL, 19) else
  if measS (baseU n k p sizes) ≠ 0 then (zeroL, measS (baseU n k p sizes)) else
  if chk (lineU n k p sizes gains c d) ≠ 0 then (zeroL, chk (lineU n k p sizes gains c d)) else (lineU n k p sizes gains c d, 0)
def uniC (r : Line × Int) : CV := .tup [lineC r.1, I r.2]
theorem rowsU_take (n : Int) (sizes gains : List Int) (hl : sizes.length = gains.length) {j : Nat} (hj : j < sizes.length) : rowsU n (sizes.take (j + 1)) (gains.take (j + 1)) = rowsU n (sizes.take j) (gains.take j) ++ [List.replicate (max 0 (n - sizes[j] + 1)).toNat (gains[j]'(by omega))] := by
  unfold rowsU
  rw [List.take_add_one, List.take_add_one, List.getElem?_eq_getElem hj, List.getElem?_eq_getElem (show j < gains.length by omega)]
  rw [List.zipWith_append (by simp; omega)]
  rfl
set_option maxRecDepth 100000 in
set_option maxHeartbeats 8000000 in
theorem uni_con (n k p : Int) (sizes gains : List Int) (c d : Int) (h1 : sizes.length ≤ 100000) (h2 : gains.length ≤ 100000) : Con Tryd.prog gl 44 [I n, I k, I p, LI sizes, LI gains, I c, I d] (uniC (uniS n k p sizes gains c d)) := by
  refine con_of Tryd.func44 rfl (by kernel_rfl) rfl ?_
  simp only [Tryd.ntmps44, Tryd.results44, argEnv, ofC, of1, List.map]
  repeat' (first
    | ((with_reducible apply r_call); exact rfl; exact rfl; exact clone_con sizes h1; exact rfl; exact rfl)
    | ((with_reducible apply r_callv); exact meas_con (baseU n k p sizes); exact rfl; exact cl_cons (cl_agg (cl_cons cl_c (cl_cons cl_c (cl_cons cl_c (cl_cons cl_c (cl_cons cl_none (cl_cons cl_none (cl_cons cl_none cl_nil)))))))) cl_nil; exact rfl; exact rfl)
    | ((with_reducible apply aw_seq))
    | ((with_reducible apply aw_region))
    | ((with_reducible apply aw_block))
    | ((with_reducible apply thn_normal))
    | ((with_reducible apply thn_ret))
    | ((with_reducible apply aw_skip))
    | ((with_reducible apply aw_ret))
    | ((with_reducible apply ao_nil))
    | ((with_reducible apply r_move); exact rfl; exact rfl)
    | ((with_reducible apply r_assign); exact rfl; exact rfl)
    | ((with_reducible apply r_load_pa); exact rfl; exact rfl; exact rfl; exact rfl; exact rfl)
    | ((with_reducible apply r_neq); exact rfl; exact rfl; exact rfl)
    | ((with_reducible apply r_len_f); exact rfl; exact inferInstance; exact rfl)
    | ((with_reducible apply r_store_pa); exact rfl; exact rfl; exact rfl; exact rfl; exact rfl; exact rfl)
    | ((with_reducible apply r_build); exact rfl; exact rfl; exact rfl)
    | ((with_reducible apply r_alloc); exact rfl)
    | (((with_reducible apply aw_cond); exact rfl) <;> intro hg <;> (first | (exact absurd hg (by decide)) | ((try simp only [decide_eq_true_eq, decide_eq_false_iff_not, Bool.not_eq_true', Bool.not_eq_false', Bool.not_true, Bool.not_false, Bool.not_not, Int.not_lt, Int.not_le, Nat.not_lt, Nat.not_le, gt_iff_lt, ge_iff_le, List.cons.injEq, and_true] at hg); first | (exact absurd trivial hg) | (exfalso; omega) | (have hT : True := hg; clear hT hg) | skip)))
    )
  · have e : uniS n k p sizes gains c d = (zeroL, 19) := by unfold uniS; rw [if_pos (by omega)]
    rw [e]
    exact ret2 (.cons (.cell_a inferInstance rfl rfl rfl rfl (cl_cons cl_c (cl_cons cl_c (cl_cons cl_c (cl_cons cl_none (cl_cons cl_none (cl_cons cl_none (cl_cons cl_none cl_nil)))))))) (.cons (.tmp rfl cl_c) .nil))
  · have e : uniS n k p sizes gains c d = (zeroL, measS (baseU n k p sizes)) := by unfold uniS; rw [if_neg (by omega), if_pos hg]
    rw [e]
    exact ret2 (.cons (.cell_a inferInstance rfl rfl rfl rfl (cl_cons cl_c (cl_cons cl_c (cl_cons cl_c (cl_cons cl_none (cl_cons cl_none (cl_cons cl_none (cl_cons cl_none cl_nil)))))))) (.cons (.tmp rfl cl_c) .nil))
  have hlen : sizes.length = gains.length := by omega
  have hm : measS (baseU n k p sizes) = 0 := by assumption
  obtain ⟨m1, m2, m3⟩ := meas0 hm
  have m3' : ∀ i (h : i < sizes.length), 1 ≤ sizes[i] ∧ sizes[i] ≤ 2000 := m3
  have m2' : sizes.length ≤ 32 := m2
  have m1' : 0 ≤ n ∧ n ≤ 2000 := by unfold headBad baseU at m1; dsimp only at m1; omega
  refine aw_nilcell 1 4 22 1 rfl rfl rfl rfl ?_
  refine aw_loopG (G := Nat × Nat) (fun ((j, r) : Nat × Nat) => j ≤ sizes.length ∧ r = j) (fun ((j, r) : Nat × Nat) => sizes.length - j) (fun ((j, r) : Nat × Nat) => [(0, A n), (4, .c (LI gains)), (5, A c), (6, A d), (14, .ptr 0 0), (16, .ptr 1 0), (39, .c (LI sizes)), (40, A sizes.length), (41, A j)]) (fun ((j, r) : Nat × Nat) => [(0, some (.cells 25 [A 0, A 0, A 0, .c (.v (.slice none 0 0)), .c (.v (.slice none 0 0)), .c (.v (.slice none 0 0)), .c (.v (.slice none 0 0))])), (1, some (.cells 25 [A n, A k, A p, .c (LI sizes), .vec 2 r, .c (.v (.slice none 0 0)), .c (.v (.slice none 0 0))])), (2, some (.vec 22 1 ((rowsU n (sizes.take j) (gains.take j)).flatMap rowC)))]) 3 (0, 0) ?_ (by refine weak_mk rfl ?_ ?_ <;> repeat (first | exact envW_nil | exact heapW_nil | refine envW_cons rfl rfl ?_ | refine heapW_cons rfl rfl rfl ?_)) rfl ?_
  · exact ⟨Nat.zero_le _, rfl⟩
  rintro ⟨j, r⟩ hI
  try dsimp only at hI
  try dsimp only
  obtain ⟨hj, hr⟩ := hI
  subst hr
  have hrl : (rowsU n (sizes.take r) (gains.take r)).length = r := by unfold rowsU; simp; omega
  by_cases hjl : r < sizes.length
  · have hs := m3' r hjl
    have hpl := places_con (gl := gl) ⟨n, k, p, sizes, rowsU n (sizes.take r) (gains.take r), [], []⟩ sizes[r] ⟨m1'.1, m1'.2, hs.1, hs.2⟩
    have hrp := repeat_con (gl := gl) (gains[r]'(by omega)) (max 0 (n - sizes[r] + 1)) (max 0 (n - sizes[r] + 1)).toNat (by omega) (by omega)
    repeat' (first
      | (refine aw_drawt 11 ?_ ?_; (kernel_rfl); (simp only [List.take_succ_cons, List.take_zero, List.drop_succ_cons, List.drop_zero]))
      | ((with_reducible apply r_callq); exact hpl; exact rfl; exact cl_cons (cl_agg (cl_cons cl_c (cl_cons cl_c (cl_cons cl_c (cl_cons cl_c (cl_cons (cl_vec rfl (by rw [flat_len EncL.len, hrl])) (cl_cons cl_none (cl_cons cl_none cl_nil)))))))) (cl_cons cl_c cl_nil); exact rfl; exact rfl)
      | ((with_reducible apply r_call); exact rfl; exact rfl; exact hrp; exact rfl; exact rfl)
      | ((with_reducible apply (r_appendl (enc := rowC) (l2 := [List.replicate (max 0 (n - sizes[r] + 1)).toNat (gains[r]'(by omega))]))); exact rfl; exact rfl; exact inferInstance; exact hrl; exact rfl; exact (by show r + 1 < _; omega); exact (by show (r + 1) * 24 ≤ _; omega); exact rfl)
      | ((with_reducible apply aw_seq))
      | ((with_reducible apply aw_region))
      | ((with_reducible apply aw_block))
      | ((with_reducible apply thn_normal))
      | ((with_reducible apply inb_normal))
      | ((with_reducible apply aw_skip))
      | ((with_reducible apply ao_nil))
      | ((with_reducible apply r_move); exact rfl; exact rfl)
      | ((with_reducible apply r_assign); exact rfl; exact rfl)
      | ((with_reducible apply r_field_p); exact rfl; exact rfl)
      | ((with_reducible apply r_load_p); exact rfl; exact rfl; exact rfl; exact rfl)
      | ((with_reducible apply r_load_pa); exact rfl; exact rfl; exact rfl; exact rfl; exact rfl)
      | ((with_reducible apply r_lss); exact rfl; exact rfl; exact rfl)
      | ((with_reducible apply r_add); exact rfl; exact rfl; exact (by first | assumption | (unfold fits; omega)); exact rfl)
      | ((with_reducible apply r_index_f); exact rfl; exact inferInstance; exact rfl; exact rfl; (first | assumption | omega); exact rfl)
      | ((with_reducible apply r_load_f0); exact rfl; exact inferInstance; exact List.getElem?_eq_getElem (by first | assumption | omega); exact rfl; exact rfl)
      | ((with_reducible apply r_store_p); exact rfl; exact rfl; exact rfl; exact rfl; exact rfl; exact rfl)
      | (((with_reducible apply aw_cond); exact rfl) <;> intro hg <;> (first | (exact absurd hg (by decide)) | ((try simp only [decide_eq_true_eq, decide_eq_false_iff_not, Bool.not_eq_true', Bool.not_eq_false', Bool.not_true, Bool.not_false, Bool.not_not, Int.not_lt, Int.not_le, Nat.not_lt, Nat.not_le, gt_iff_lt, ge_iff_le, List.cons.injEq, and_true] at hg); first | (exact absurd trivial hg) | (exfalso; omega) | (have hT : True := hg; clear hT hg) | skip)))
      | ((with_reducible apply ds_nil))
      | ((with_reducible apply r_litq); exact rfl; exact rfl; exact rfl; exact rfl; exact rfl; exact rfl; exact rfl)
      )
    rw [← rowsU_take n sizes gains hlen hjl]
    refine ⟨(r + 1, r + 1), ?_, ?_, by refine weak_mk rfl ?_ ?_ <;> repeat (first | exact envW_nil | exact heapW_nil | refine envW_cons rfl rfl ?_ | refine heapW_cons rfl rfl rfl ?_)⟩
    · show _ - (r + 1) < _ - r; omega
    · exact ⟨by show r + 1 ≤ _; omega, rfl⟩
  · obtain rfl : r = sizes.length := by omega
    have e1 : rowsU n (sizes.take sizes.length) (gains.take sizes.length) = rowsU n sizes gains := by rw [List.take_length, hlen, List.take_length]
    rw [e1] at hrl ⊢
    have hr1 := repeat_con (gl := gl) c n n.toNat (by omega) (by omega)
    have hr2 := repeat_con (gl := gl) d n n.toNat (by omega) (by omega)
    repeat' (first
      | ((with_reducible apply r_call); exact rfl; exact rfl; (first | exact hr1 | exact hr2); exact rfl; exact rfl)
      | ((with_reducible apply r_callv); exact check_con (lineU n k p sizes gains c d); exact rfl; exact cl_cons (cl_agg (cl_cons cl_c (cl_cons cl_c (cl_cons cl_c (cl_cons cl_c (cl_cons (cl_vec rfl ((flat_len EncL.len _).trans (congrArg (· * 1) hrl))) (cl_cons cl_c (cl_cons cl_c cl_nil)))))))) cl_nil; exact rfl; exact rfl)
      | ((with_reducible apply aw_seq))
      | ((with_reducible apply aw_region))
      | ((with_reducible apply thn_normal))
      | ((with_reducible apply thn_ret))
      | ((with_reducible apply thn_exit))
      | ((with_reducible apply inb_exit))
      | ((with_reducible apply aw_skip))
      | ((with_reducible apply aw_exit))
      | ((with_reducible apply aw_ret))
      | ((with_reducible apply ao_nil))
      | ((with_reducible apply r_move); exact rfl; exact rfl)
      | ((with_reducible apply r_assign); exact rfl; exact rfl)
      | ((with_reducible apply r_field_p); exact rfl; exact rfl)
      | ((with_reducible apply r_load_pa); exact rfl; exact rfl; exact rfl; exact rfl; exact rfl)
      | ((with_reducible apply r_lss); exact rfl; exact rfl; exact rfl)
      | ((with_reducible apply r_neq); exact rfl; exact rfl; exact rfl)
      | ((with_reducible apply r_store_p); exact rfl; exact rfl; exact rfl; exact rfl; exact rfl; exact rfl)
      | ((with_reducible apply r_store_pa); exact rfl; exact rfl; exact rfl; exact rfl; exact rfl; exact rfl)
      | ((with_reducible apply r_build); exact rfl; exact rfl; exact rfl)
      | (((with_reducible apply aw_cond); exact rfl) <;> intro hg <;> (first | (exact absurd hg (by decide)) | ((try simp only [decide_eq_true_eq, decide_eq_false_iff_not, Bool.not_eq_true', Bool.not_eq_false', Bool.not_true, Bool.not_false, Bool.not_not, Int.not_lt, Int.not_le, Nat.not_lt, Nat.not_le, gt_iff_lt, ge_iff_le, List.cons.injEq, and_true] at hg); first | (exact absurd trivial hg) | (exfalso; omega) | (have hT : True := hg; clear hT hg) | skip)))
      )
    · have e : uniS n k p sizes gains c d = (zeroL, chk (lineU n k p sizes gains c d)) := by unfold uniS; rw [if_neg (by omega), if_neg (fun hh => hh hm), if_pos hg]
      rw [e]
      exact ret2 (.cons (.cell_a inferInstance rfl rfl rfl rfl (cl_cons cl_c (cl_cons cl_c (cl_cons cl_c (cl_cons cl_none (cl_cons cl_none (cl_cons cl_none (cl_cons cl_none cl_nil)))))))) (.cons (.tmp rfl cl_c) .nil))
    · have e : uniS n k p sizes gains c d = (lineU n k p sizes gains c d, 0) := by unfold uniS; rw [if_neg (by omega), if_neg (fun hh => hh hm), if_neg (fun hh => hh hg)]
      rw [e]
      exact ret2 (.cons (.cell_a inferInstance rfl rfl rfl rfl (cl_cons cl_c (cl_cons cl_c (cl_cons cl_c (cl_cons cl_c (cl_cons (cl_vec rfl ((flat_len EncL.len _).trans (congrArg (· * 1) hrl))) (cl_cons cl_c (cl_cons cl_c cl_nil)))))))) (.cons (.tmp rfl cl_c) .nil))
end Go.Proofs.YtjofnmklkndhoaaDoor.Cu
