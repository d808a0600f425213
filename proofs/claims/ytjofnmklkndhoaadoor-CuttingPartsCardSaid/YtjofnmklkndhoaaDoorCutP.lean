/- Walk of the reference of cutting: Uniform. -/
import Derived.Test.YtjofnmklkndhoaaDoorCutO
namespace Go.Proofs.YtjofnmklkndhoaaDoor.Cu
set_option linter.unusedVariables false
set_option linter.unusedSimpArgs false
open Go.RowKit Go.Proofs.YtjofnmklkndhoaaDoor.Ev
variable {gl : List (Nat × List CV)}

def rowsR (n : Int) (sizes gains : List Int) : List (List Int) := List.zipWith (fun s g => List.replicate (max 0 (n - max 1 (min s 2000) + 1)).toNat g) sizes gains
def lineR (n k p : Int) (sizes gains : List Int) (c d : Int) : Line := ⟨n, k, p, sizes, rowsR n sizes gains, List.replicate n.toNat c, List.replicate n.toNat d⟩
theorem rowsR_take (n : Int) (sizes gains : List Int) (hl : sizes.length = gains.length) {j : Nat} (hj : j < sizes.length) : rowsR n (sizes.take (j + 1)) (gains.take (j + 1)) = rowsR n (sizes.take j) (gains.take j) ++ [List.replicate (max 0 (n - max 1 (min sizes[j] 2000) + 1)).toNat (gains[j]'(by omega))] := by
  unfold rowsR
  rw [List.take_add_one, List.take_add_one, List.getElem?_eq_getElem hj, List.getElem?_eq_getElem (show j < gains.length by omega)]
  rw [List.zipWith_append (by simp; omega)]
  rfl
theorem rowsR_eq {n : Int} : ∀ {sizes gains : List Int}, (∀ s ∈ sizes, 1 ≤ s ∧ s ≤ 2000) → rowsR n sizes gains = rowsU n sizes gains
  | [], _, _ => rfl
  | _ :: _, [], _ => rfl
  | s :: ss, g :: gs, h => by
    have h1 := h s (by simp)
    have ih := rowsR_eq (n := n) (sizes := ss) (gains := gs) (fun x hx => h x (by simp [hx]))
    unfold rowsR rowsU at *
    rw [List.zipWith_cons_cons, List.zipWith_cons_cons, ih, show max 1 (min s 2000) = s by omega]
theorem uni_ref {n k p : Int} {sizes gains : List Int} {c d : Int} (hl : sizes.length = gains.length) (h : ¬ 32 < sizes.length) (hn : 0 ≤ n ∧ n ≤ 2000) : uniS n k p sizes gains c d = if chk (lineR n k p sizes gains c d) ≠ 0 then (zeroL, chk (lineR n k p sizes gains c d)) else (lineR n k p sizes gains c d, 0) := by
  unfold uniS
  rw [if_neg (fun hh => hh hl)]
  by_cases hm : measS (baseU n k p sizes) = 0
  · rw [if_neg (fun hh => hh hm)]
    obtain ⟨m1, m2, m3⟩ := meas0 hm
    have : rowsR n sizes gains = rowsU n sizes gains := rowsR_eq (fun s hs => by
      obtain ⟨i, hi, rfl⟩ := List.mem_iff_getElem.1 hs
      exact m3 i hi)
    unfold lineR lineU
    rw [this]
  · rw [if_pos hm]
    have : chk (lineR n k p sizes gains c d) = measS (baseU n k p sizes) := (chk_meas (l := lineR n k p sizes gains c d) hm).symm
    rw [this, if_pos hm]
theorem uni_head {n k p : Int} {sizes gains : List Int} {c d e : Int} (hl : sizes.length = gains.length) (he : measS (baseU n k p sizes) = e) (h0 : e ≠ 0) : uniS n k p sizes gains c d = (zeroL, e) := by
  unfold uniS
  rw [if_neg (fun hh => hh hl), if_pos (by rw [he]; exact h0), he]
def headS (l : Line) : Int := if l.kerf < 0 ∨ 20 < l.kerf ∨ l.pitch < 1 ∨ 2000 < l.pitch then 9 else 4
set_option maxRecDepth 100000 in
set_option maxHeartbeats 4000000 in
theorem headless_con (l : Line) : Con Tryd.prog gl 45 [lineC l] (I (headS l)) := by
  refine con_of Tryd.func45 rfl (by kernel_rfl) rfl ?_
  simp only [Tryd.ntmps45, Tryd.results45, argEnv, ofC, of1, List.map, lineC, lineL]
  repeat' (first
    | ((with_reducible apply aw_seq))
    | ((with_reducible apply aw_region))
    | ((with_reducible apply thn_normal))
    | ((with_reducible apply thn_ret))
    | ((with_reducible apply aw_skip))
    | ((with_reducible apply aw_ret))
    | ((with_reducible apply ao_nil))
    | ((with_reducible apply r_move); exact rfl; exact rfl)
    | ((with_reducible apply r_assign); exact rfl; exact rfl)
    | ((with_reducible apply r_field_p); exact rfl; exact rfl)
    | ((with_reducible apply r_load_p); exact rfl; exact rfl; exact rfl; exact rfl)
    | ((with_reducible apply r_lss); exact rfl; exact rfl; exact rfl)
    | ((with_reducible apply r_gtr); exact rfl; exact rfl; exact rfl)
    | ((with_reducible apply r_box_a); exact rfl; exact rfl)
    | ((with_reducible apply r_pick_t); exact rfl; exact rfl; exact rfl)
    | ((with_reducible apply r_pick_f); exact rfl; exact rfl; exact rfl)
    | (((with_reducible apply r_guard); exact rfl; exact rfl; exact rfl; exact rfl) <;> intro hg <;> (first | (exact absurd hg (by decide)) | ((try simp only [decide_eq_true_eq, decide_eq_false_iff_not, Bool.not_eq_true', Bool.not_eq_false', Bool.not_true, Bool.not_false, Bool.not_not, Int.not_lt, Int.not_le, Nat.not_lt, Nat.not_le, gt_iff_lt, ge_iff_le, List.cons.injEq, and_true] at hg); first | (exact absurd trivial hg) | (exfalso; omega) | (have hT : True := hg; clear hT hg) | skip)))
    | (((with_reducible apply aw_cond); exact rfl) <;> intro hg <;> (first | (exact absurd hg (by decide)) | ((try simp only [decide_eq_true_eq, decide_eq_false_iff_not, Bool.not_eq_true', Bool.not_eq_false', Bool.not_true, Bool.not_false, Bool.not_not, Int.not_lt, Int.not_le, Nat.not_lt, Nat.not_le, gt_iff_lt, ge_iff_le, List.cons.injEq, and_true] at hg); first | (exact absurd trivial hg) | (exfalso; omega) | (have hT : True := hg; clear hT hg) | skip)))
    )
  all_goals first | exact ret_i rfl (by unfold headS; rw [if_pos (by omega)]) | exact ret_i rfl (by unfold headS; rw [if_neg (by omega)])
abbrev nil7 : List AV := [A 0, A 0, A 0, .c (.v (.slice none 0 0)), .c (.v (.slice none 0 0)), .c (.v (.slice none 0 0)), .c (.v (.slice none 0 0))]
set_option maxRecDepth 100000 in
set_option maxHeartbeats 16000000 in
theorem runi_con (n k p : Int) (sizes gains : List Int) (c d : Int) (h1 : sizes.length ≤ 100000) (h2 : gains.length ≤ 100000) : Con Tryd.prog gl 25 [I n, I k, I p, LI sizes, LI gains, I c, I d] (uniC (uniS n k p sizes gains c d)) := by
  refine con_of Tryd.func25 rfl (by kernel_rfl) rfl ?_
  simp only [Tryd.ntmps25, Tryd.results25, argEnv, ofC, of1, List.map]
  by_cases hlen : sizes.length = gains.length
  rotate_left
  · skip
    repeat' (first
      | ((with_reducible apply aw_seq))
      | ((with_reducible apply aw_region))
      | ((with_reducible apply thn_normal))
      | ((with_reducible apply thn_ret))
      | ((with_reducible apply aw_ret))
      | ((with_reducible apply ao_nil))
      | ((with_reducible apply r_move); exact rfl; exact rfl)
      | ((with_reducible apply r_assign); exact rfl; exact rfl)
      | ((with_reducible apply r_neq); exact rfl; exact rfl; exact rfl)
      | ((with_reducible apply r_len_f); exact rfl; exact inferInstance; exact rfl)
      | ((with_reducible apply r_store_pa); exact rfl; exact rfl; exact rfl; exact rfl; exact rfl; exact rfl)
      | ((with_reducible apply r_build); exact rfl; exact rfl; exact rfl)
      | ((with_reducible apply r_alloc); exact rfl)
      | (((with_reducible apply aw_cond); exact rfl) <;> intro hg <;> (first | (exact absurd hg (by decide)) | ((try simp only [decide_eq_true_eq, decide_eq_false_iff_not, Bool.not_eq_true', Bool.not_eq_false', Bool.not_true, Bool.not_false, Bool.not_not, Int.not_lt, Int.not_le, Nat.not_lt, Nat.not_le, gt_iff_lt, ge_iff_le, List.cons.injEq, and_true] at hg); first | (exact absurd trivial hg) | (exfalso; omega) | (have hT : True := hg; clear hT hg) | skip)))
      )
    have e : uniS n k p sizes gains c d = (zeroL, 19) := by unfold uniS; rw [if_pos hlen]
    rw [e]
    exact ret2 (.cons (.cell_a inferInstance rfl rfl rfl rfl (cl_cons cl_c (cl_cons cl_c (cl_cons cl_c (cl_cons cl_none (cl_cons cl_none (cl_cons cl_none (cl_cons cl_none cl_nil)))))))) (.cons (.tmp rfl cl_c) .nil))
  by_cases hn : 0 ≤ n ∧ n ≤ 2000
  rotate_left
  · rw [uni_head (k := k) (p := p) (c := c) (d := d) hlen (meas1 (l := baseU n k p sizes) (by unfold headBad baseU; dsimp only; omega)).symm (by decide)]
    repeat' (first
      | ((with_reducible apply (r_appendl (enc := inC) (l := []) (l2 := sizes))); exact rfl; exact rfl; exact inferInstance; exact rfl; exact rfl; exact (by omega); exact (by omega); exact rfl)
      | ((with_reducible apply aw_seq))
      | ((with_reducible apply aw_region))
      | ((with_reducible apply thn_normal))
      | ((with_reducible apply thn_ret))
      | ((with_reducible apply aw_skip))
      | ((with_reducible apply aw_ret))
      | ((with_reducible apply ao_nil))
      | ((with_reducible apply r_move); exact rfl; exact rfl)
      | ((with_reducible apply r_assign); exact rfl; exact rfl)
      | ((with_reducible apply r_lss); exact rfl; exact rfl; exact rfl)
      | ((with_reducible apply r_gtr); exact rfl; exact rfl; exact rfl)
      | ((with_reducible apply r_neq); exact rfl; exact rfl; exact rfl)
      | ((with_reducible apply r_pick_t); exact rfl; exact rfl; exact rfl)
      | ((with_reducible apply r_pick_f); exact rfl; exact rfl; exact rfl)
      | ((with_reducible apply r_len_f); exact rfl; exact inferInstance; exact rfl)
      | ((with_reducible apply r_store_pa); exact rfl; exact rfl; exact rfl; exact rfl; exact rfl; exact rfl)
      | ((with_reducible apply r_build); exact rfl; exact rfl; exact rfl)
      | ((with_reducible apply r_alloc); exact rfl)
      | (((with_reducible apply r_guard); exact rfl; exact rfl; exact rfl; exact rfl) <;> intro hg <;> (first | (exact absurd hg (by decide)) | ((try simp only [decide_eq_true_eq, decide_eq_false_iff_not, Bool.not_eq_true', Bool.not_eq_false', Bool.not_true, Bool.not_false, Bool.not_not, Int.not_lt, Int.not_le, Nat.not_lt, Nat.not_le, gt_iff_lt, ge_iff_le, List.cons.injEq, and_true] at hg); first | (exact absurd trivial hg) | (exfalso; omega) | (have hT : True := hg; clear hT hg) | skip)))
      | (((with_reducible apply aw_cond); exact rfl) <;> intro hg <;> (first | (exact absurd hg (by decide)) | ((try simp only [decide_eq_true_eq, decide_eq_false_iff_not, Bool.not_eq_true', Bool.not_eq_false', Bool.not_true, Bool.not_false, Bool.not_not, Int.not_lt, Int.not_le, Nat.not_lt, Nat.not_le, gt_iff_lt, ge_iff_le, List.cons.injEq, and_true] at hg); first | (exact absurd trivial hg) | (exfalso; omega) | (have hT : True := hg; clear hT hg) | skip)))
      | ((with_reducible apply r_lit0); exact rfl)
      )
    all_goals exact ret2 (.cons (.cell_a inferInstance rfl rfl rfl rfl (cl_cons cl_c (cl_cons cl_c (cl_cons cl_c (cl_cons cl_none (cl_cons cl_none (cl_cons cl_none (cl_cons cl_none cl_nil)))))))) (.cons (.tmp rfl cl_c) .nil))
  repeat' (first
    | ((with_reducible apply (r_appendl (enc := inC) (l := []) (l2 := sizes))); exact rfl; exact rfl; exact inferInstance; exact rfl; exact rfl; exact (by omega); exact (by omega); exact rfl)
    | ((with_reducible apply aw_seq))
    | ((with_reducible apply aw_region))
    | ((with_reducible apply aw_block))
    | ((with_reducible apply thn_normal))
    | ((with_reducible apply aw_skip))
    | ((with_reducible apply ao_nil))
    | ((with_reducible apply r_move); exact rfl; exact rfl)
    | ((with_reducible apply r_assign); exact rfl; exact rfl)
    | ((with_reducible apply r_lss); exact rfl; exact rfl; exact rfl)
    | ((with_reducible apply r_gtr); exact rfl; exact rfl; exact rfl)
    | ((with_reducible apply r_neq); exact rfl; exact rfl; exact rfl)
    | ((with_reducible apply r_pick_f); exact rfl; exact rfl; exact rfl)
    | ((with_reducible apply r_len_f); exact rfl; exact inferInstance; exact rfl)
    | ((with_reducible apply r_store_pa); exact rfl; exact rfl; exact rfl; exact rfl; exact rfl; exact rfl)
    | ((with_reducible apply r_build); exact rfl; exact rfl; exact rfl)
    | ((with_reducible apply r_alloc); exact rfl)
    | (((with_reducible apply r_guard); exact rfl; exact rfl; exact rfl; exact rfl) <;> intro hg <;> (first | (exact absurd hg (by decide)) | ((try simp only [decide_eq_true_eq, decide_eq_false_iff_not, Bool.not_eq_true', Bool.not_eq_false', Bool.not_true, Bool.not_false, Bool.not_not, Int.not_lt, Int.not_le, Nat.not_lt, Nat.not_le, gt_iff_lt, ge_iff_le, List.cons.injEq, and_true] at hg); first | (exact absurd trivial hg) | (exfalso; omega) | (have hT : True := hg; clear hT hg) | skip)))
    | (((with_reducible apply aw_cond); exact rfl) <;> intro hg <;> (first | (exact absurd hg (by decide)) | ((try simp only [decide_eq_true_eq, decide_eq_false_iff_not, Bool.not_eq_true', Bool.not_eq_false', Bool.not_true, Bool.not_false, Bool.not_not, Int.not_lt, Int.not_le, Nat.not_lt, Nat.not_le, gt_iff_lt, ge_iff_le, List.cons.injEq, and_true] at hg); first | (exact absurd trivial hg) | (exfalso; omega) | (have hT : True := hg; clear hT hg) | skip)))
    | ((with_reducible apply r_lit0); exact rfl)
    )
  rw [Nat.zero_add sizes.length, List.nil_append]
  refine aw_nilcell 2 5 3 1 rfl rfl rfl rfl ?_
  refine aw_nilcell 2 6 3 1 rfl rfl rfl rfl ?_
  refine aw_loopG (G := Nat) (fun (j : Nat) => j ≤ n.toNat) (fun (j : Nat) => n.toNat - j) (fun (j : Nat) => [(0, A n), (3, .c (LI sizes)), (4, .c (LI gains)), (5, A c), (6, A d), (14, .ptr 0 0), (16, .ptr 2 0), (17, A j)]) (fun (j : Nat) => [(0, some (.cells 25 nil7)), (1, some (.vec 3 1 (sizes.flatMap inC))), (2, some (.cells 25 [A n, A k, A p, .vec 1 sizes.length, .c (.v (.slice none 0 0)), .vec 3 j, .vec 4 j])), (3, some (.vec 3 1 ((List.replicate j c).flatMap inC))), (4, some (.vec 3 1 ((List.replicate j d).flatMap inC)))]) 5 0 ?_ (by refine weak_mk rfl ?_ ?_ <;> repeat (first | exact envW_nil | exact heapW_nil | refine envW_cons rfl rfl ?_ | refine heapW_cons rfl rfl rfl ?_)) rfl ?_
  · exact Nat.zero_le _
  rintro j hI
  try dsimp only at hI
  try dsimp only
  by_cases hjn : j < n.toNat
  · skip
    repeat' (first
      | ((with_reducible apply (r_push (enc := inC) (l := List.replicate j c) (x0 := c))); exact rfl; exact rfl; exact inferInstance; exact List.length_replicate; exact rfl; exact rfl; exact rfl; exact (by omega); exact (by omega); exact rfl)
      | ((with_reducible apply (r_push (enc := inC) (l := List.replicate j d) (x0 := d))); exact rfl; exact rfl; exact inferInstance; exact List.length_replicate; exact rfl; exact rfl; exact rfl; exact (by omega); exact (by omega); exact rfl)
      | ((with_reducible apply aw_seq))
      | ((with_reducible apply aw_region))
      | ((with_reducible apply aw_block))
      | ((with_reducible apply thn_normal))
      | ((with_reducible apply inb_normal))
      | ((with_reducible apply aw_skip))
      | ((with_reducible apply ao_nil))
      | ((with_reducible apply r_move); exact rfl; exact rfl)
      | ((with_reducible apply r_assign); exact rfl; exact rfl)
      | ((with_reducible apply r_field_p); exact rfl; exact rfl)
      | ((with_reducible apply r_load_p); exact rfl; exact rfl; exact rfl; exact rfl)
      | ((with_reducible apply r_lss); exact rfl; exact rfl; exact rfl)
      | ((with_reducible apply r_add); exact rfl; exact rfl; exact (by first | assumption | (unfold fits; omega)); exact rfl)
      | ((with_reducible apply r_store_p); exact rfl; exact rfl; exact rfl; exact rfl; exact rfl; exact rfl)
      | (((with_reducible apply aw_cond); exact rfl) <;> intro hg <;> (first | (exact absurd hg (by decide)) | ((try simp only [decide_eq_true_eq, decide_eq_false_iff_not, Bool.not_eq_true', Bool.not_eq_false', Bool.not_true, Bool.not_false, Bool.not_not, Int.not_lt, Int.not_le, Nat.not_lt, Nat.not_le, gt_iff_lt, ge_iff_le, List.cons.injEq, and_true] at hg); first | (exact absurd trivial hg) | (exfalso; omega) | (have hT : True := hg; clear hT hg) | skip)))
      | ((with_reducible apply r_lit); exact rfl; exact rfl; exact rfl; exact rfl; exact rfl; exact rfl; exact rfl)
      )
    rw [← List.replicate_succ', ← List.replicate_succ']
    refine ⟨j + 1, ?_, ?_, by refine weak_mk rfl ?_ ?_ <;> repeat (first | exact envW_nil | exact heapW_nil | refine envW_cons rfl rfl ?_ | refine heapW_cons rfl rfl rfl ?_)⟩
    · show _ - (j + 1) < _ - j; omega
    · show j + 1 ≤ _; omega
  obtain rfl : j = n.toNat := by have : j ≤ n.toNat := hI; omega
  by_cases h32 : 32 < sizes.length
  · have hh := headless_con (gl := gl) ⟨n, k, p, sizes, [], List.replicate n.toNat c, List.replicate n.toNat d⟩
    have he : measS (baseU n k p sizes) = headS ⟨n, k, p, sizes, [], List.replicate n.toNat c, List.replicate n.toNat d⟩ := by
      unfold headS
      dsimp only
      split
      · exact (meas1 (l := baseU n k p sizes) (by unfold headBad baseU; dsimp only; omega)).symm
      · exact (meas2 (l := baseU n k p sizes) (by unfold headBad baseU; dsimp only; omega) h32).symm
    rw [uni_head (c := c) (d := d) hlen he (by unfold headS; split <;> decide)]
    repeat' (first
      | ((with_reducible apply r_callv); exact hh; exact rfl; exact cl_cons (cl_agg (cl_cons cl_c (cl_cons cl_c (cl_cons cl_c (cl_cons (cl_vec rfl (flat_len EncL.len _)) (cl_cons cl_none (cl_cons (cl_vec rfl (by rw [flat_len EncL.len, List.length_replicate])) (cl_cons (cl_vec rfl (by rw [flat_len EncL.len, List.length_replicate])) cl_nil)))))))) cl_nil; exact rfl; exact rfl)
      | ((with_reducible apply aw_seq))
      | ((with_reducible apply aw_region))
      | ((with_reducible apply thn_normal))
      | ((with_reducible apply thn_ret))
      | ((with_reducible apply thn_exit))
      | ((with_reducible apply inb_exit))
      | ((with_reducible apply aw_exit))
      | ((with_reducible apply aw_ret))
      | ((with_reducible apply ao_nil))
      | ((with_reducible apply r_move); exact rfl; exact rfl)
      | ((with_reducible apply r_assign); exact rfl; exact rfl)
      | ((with_reducible apply r_load_pa); exact rfl; exact rfl; exact rfl; exact rfl; exact rfl)
      | ((with_reducible apply r_lss); exact rfl; exact rfl; exact rfl)
      | ((with_reducible apply r_gtr); exact rfl; exact rfl; exact rfl)
      | ((with_reducible apply r_len_f); exact rfl; exact inferInstance; exact rfl)
      | ((with_reducible apply r_store_pa); exact rfl; exact rfl; exact rfl; exact rfl; exact rfl; exact rfl)
      | ((with_reducible apply r_build); exact rfl; exact rfl; exact rfl)
      | (((with_reducible apply aw_cond); exact rfl) <;> intro hg <;> (first | (exact absurd hg (by decide)) | ((try simp only [decide_eq_true_eq, decide_eq_false_iff_not, Bool.not_eq_true', Bool.not_eq_false', Bool.not_true, Bool.not_false, Bool.not_not, Int.not_lt, Int.not_le, Nat.not_lt, Nat.not_le, gt_iff_lt, ge_iff_le, List.cons.injEq, and_true] at hg); first | (exact absurd trivial hg) | (exfalso; omega) | (have hT : True := hg; clear hT hg) | skip)))
      )
    exact ret2 (.cons (.cell_a inferInstance rfl rfl rfl rfl (cl_cons cl_c (cl_cons cl_c (cl_cons cl_c (cl_cons cl_none (cl_cons cl_none (cl_cons cl_none (cl_cons cl_none cl_nil)))))))) (.cons (.tmp rfl cl_c) .nil))
  rw [uni_ref hlen h32 hn]
  repeat' (first
    | ((with_reducible apply aw_seq))
    | ((with_reducible apply aw_region))
    | ((with_reducible apply aw_block))
    | ((with_reducible apply thn_normal))
    | ((with_reducible apply thn_exit))
    | ((with_reducible apply inb_exit))
    | ((with_reducible apply aw_skip))
    | ((with_reducible apply aw_exit))
    | ((with_reducible apply ao_nil))
    | ((with_reducible apply r_move); exact rfl; exact rfl)
    | ((with_reducible apply r_assign); exact rfl; exact rfl)
    | ((with_reducible apply r_lss); exact rfl; exact rfl; exact rfl)
    | ((with_reducible apply r_gtr); exact rfl; exact rfl; exact rfl)
    | ((with_reducible apply r_len_f); exact rfl; exact inferInstance; exact rfl)
    | (((with_reducible apply aw_cond); exact rfl) <;> intro hg <;> (first | (exact absurd hg (by decide)) | ((try simp only [decide_eq_true_eq, decide_eq_false_iff_not, Bool.not_eq_true', Bool.not_eq_false', Bool.not_true, Bool.not_false, Bool.not_not, Int.not_lt, Int.not_le, Nat.not_lt, Nat.not_le, gt_iff_lt, ge_iff_le, List.cons.injEq, and_true] at hg); first | (exact absurd trivial hg) | (exfalso; omega) | (have hT : True := hg; clear hT hg) | skip)))
    )
  refine aw_nilcell 2 4 22 1 rfl rfl rfl rfl ?_
  refine aw_loopG (G := Nat × Nat) (fun ((j, r) : Nat × Nat) => j ≤ sizes.length ∧ r = j) (fun ((j, r) : Nat × Nat) => sizes.length - j) (fun ((j, r) : Nat × Nat) => [(0, A n), (3, .c (LI sizes)), (4, .c (LI gains)), (14, .ptr 0 0), (16, .ptr 2 0), (18, A j)]) (fun ((j, r) : Nat × Nat) => [(0, some (.cells 25 nil7)), (1, some (.vec 3 1 (sizes.flatMap inC))), (2, some (.cells 25 [A n, A k, A p, .vec 1 sizes.length, .vec 5 r, .vec 3 n.toNat, .vec 4 n.toNat])), (3, some (.vec 3 1 ((List.replicate n.toNat c).flatMap inC))), (4, some (.vec 3 1 ((List.replicate n.toNat d).flatMap inC))), (5, some (.vec 22 1 ((rowsR n (sizes.take j) (gains.take j)).flatMap rowC)))]) 6 (0, 0) ?_ (by refine weak_mk rfl ?_ ?_ <;> repeat (first | exact envW_nil | exact heapW_nil | refine envW_cons rfl rfl ?_ | refine heapW_cons rfl rfl rfl ?_)) rfl ?_
  · exact ⟨Nat.zero_le _, rfl⟩
  rintro ⟨j, r⟩ hI
  try dsimp only at hI
  try dsimp only
  obtain ⟨hj, hr⟩ := hI
  subst hr
  have hrl : (rowsR n (sizes.take r) (gains.take r)).length = r := by unfold rowsR; simp; omega
  by_cases hjl : r < sizes.length
  · skip
    repeat' (first
      | ((with_reducible apply aw_seq))
      | ((with_reducible apply aw_region))
      | ((with_reducible apply aw_block))
      | ((with_reducible apply thn_normal))
      | ((with_reducible apply aw_skip))
      | ((with_reducible apply ao_nil))
      | ((with_reducible apply r_move); exact rfl; exact rfl)
      | ((with_reducible apply r_assign); exact rfl; exact rfl)
      | ((with_reducible apply r_lss); exact rfl; exact rfl; exact rfl)
      | ((with_reducible apply r_len_f); exact rfl; exact inferInstance; exact rfl)
      | (((with_reducible apply aw_cond); exact rfl) <;> intro hg <;> (first | (exact absurd hg (by decide)) | ((try simp only [decide_eq_true_eq, decide_eq_false_iff_not, Bool.not_eq_true', Bool.not_eq_false', Bool.not_true, Bool.not_false, Bool.not_not, Int.not_lt, Int.not_le, Nat.not_lt, Nat.not_le, gt_iff_lt, ge_iff_le, List.cons.injEq, and_true] at hg); first | (exact absurd trivial hg) | (exfalso; omega) | (have hT : True := hg; clear hT hg) | skip)))
      )
    refine aw_nilvec 19 3 1 rfl rfl ?_
    refine aw_loopG (G := Nat) (fun (i : Nat) => i ≤ (max 0 (n - max 1 (min sizes[r] 2000) + 1)).toNat) (fun (i : Nat) => (max 0 (n - max 1 (min sizes[r] 2000) + 1)).toNat - i) (fun (i : Nat) => [(0, A n), (3, .c (LI sizes)), (4, .c (LI gains)), (14, .ptr 0 0), (16, .ptr 2 0), (18, A r), (19, .vec 6 i), (20, A i)]) (fun (i : Nat) => [(0, some (.cells 25 nil7)), (1, some (.vec 3 1 (sizes.flatMap inC))), (2, some (.cells 25 [A n, A k, A p, .vec 1 sizes.length, .vec 5 r, .vec 3 n.toNat, .vec 4 n.toNat])), (3, some (.vec 3 1 ((List.replicate n.toNat c).flatMap inC))), (4, some (.vec 3 1 ((List.replicate n.toNat d).flatMap inC))), (5, some (.vec 22 1 ((rowsR n (sizes.take r) (gains.take r)).flatMap rowC))), (6, some (.vec 3 1 ((List.replicate i (gains[r]'(by omega))).flatMap inC)))]) 7 0 ?_ (by refine weak_mk rfl ?_ ?_ <;> repeat (first | exact envW_nil | exact heapW_nil | refine envW_cons rfl rfl ?_ | refine heapW_cons rfl rfl rfl ?_)) rfl ?_
    · exact Nat.zero_le _
    rintro i hI
    try dsimp only at hI
    try dsimp only
    by_cases hi : i < (max 0 (n - max 1 (min sizes[r] 2000) + 1)).toNat
    · skip
      repeat' (first
        | ((with_reducible apply (r_push (enc := inC) (l := List.replicate i (gains[r]'(by omega))) (x0 := (gains[r]'(by omega))))); exact rfl; exact rfl; exact inferInstance; exact List.length_replicate; exact rfl; exact rfl; exact rfl; exact (by omega); exact (by omega); exact rfl)
        | ((with_reducible apply aw_seq))
        | ((with_reducible apply aw_region))
        | ((with_reducible apply aw_block))
        | ((with_reducible apply thn_normal))
        | ((with_reducible apply inb_normal))
        | ((with_reducible apply aw_skip))
        | ((with_reducible apply ao_nil))
        | ((with_reducible apply r_move); exact rfl; exact rfl)
        | ((with_reducible apply r_assign); exact rfl; exact rfl)
        | ((with_reducible apply r_lss); exact rfl; exact rfl; exact rfl)
        | ((with_reducible apply r_add); exact rfl; exact rfl; exact (by first | assumption | (unfold fits; omega)); exact rfl)
        | ((with_reducible apply r_sub); exact rfl; exact rfl; exact (by first | assumption | (unfold fits; omega)); exact rfl)
        | ((with_reducible apply r_max); exact rfl; exact rfl; exact rfl)
        | ((with_reducible apply r_min); exact rfl; exact rfl; exact rfl)
        | ((with_reducible apply r_index_f); exact rfl; exact inferInstance; exact rfl; exact rfl; (first | assumption | omega); exact rfl)
        | ((with_reducible apply r_load_f0); exact rfl; exact inferInstance; exact List.getElem?_eq_getElem (by first | assumption | omega); exact rfl; exact rfl)
        | (((with_reducible apply aw_cond); exact rfl) <;> intro hg <;> (first | (exact absurd hg (by decide)) | ((try simp only [decide_eq_true_eq, decide_eq_false_iff_not, Bool.not_eq_true', Bool.not_eq_false', Bool.not_true, Bool.not_false, Bool.not_not, Int.not_lt, Int.not_le, Nat.not_lt, Nat.not_le, gt_iff_lt, ge_iff_le, List.cons.injEq, and_true] at hg); first | (exact absurd trivial hg) | (exfalso; omega) | (have hT : True := hg; clear hT hg) | skip)))
        | ((with_reducible apply r_lit); exact rfl; exact rfl; exact rfl; exact rfl; exact rfl; exact rfl; exact rfl)
        )
      rw [← List.replicate_succ']
      refine ⟨i + 1, ?_, ?_, by refine weak_mk rfl ?_ ?_ <;> repeat (first | exact envW_nil | exact heapW_nil | refine envW_cons rfl rfl ?_ | refine heapW_cons rfl rfl rfl ?_)⟩
      · show _ - (i + 1) < _ - i; omega
      · show i + 1 ≤ _; omega
    · have hi2 : i = (max 0 (n - max 1 (min sizes[r] 2000) + 1)).toNat := by have : i ≤ (max 0 (n - max 1 (min sizes[r] 2000) + 1)).toNat := hI; omega
      subst hi2
      repeat' (first
        | ((with_reducible apply (r_freeze 93)); exact rfl; exact rfl; exact (by rw [flat_len EncL.len, List.length_replicate]))
        | ((with_reducible apply (r_push (enc := rowC) (l := rowsR n (sizes.take r) (gains.take r)) (x0 := List.replicate (max 0 (n - max 1 (min sizes[r] 2000) + 1)).toNat (gains[r]'(by omega))))); exact rfl; exact rfl; exact inferInstance; exact hrl; exact rfl; exact rfl; exact rfl; exact (by omega); exact (by omega); exact rfl)
        | ((with_reducible apply aw_seq))
        | ((with_reducible apply aw_region))
        | ((with_reducible apply thn_normal))
        | ((with_reducible apply thn_exit))
        | ((with_reducible apply inb_normal))
        | ((with_reducible apply inb_exit))
        | ((with_reducible apply aw_exit))
        | ((with_reducible apply ao_nil))
        | ((with_reducible apply r_move); exact rfl; exact rfl)
        | ((with_reducible apply r_assign); exact rfl; exact rfl)
        | ((with_reducible apply r_field_p); exact rfl; exact rfl)
        | ((with_reducible apply r_load_p); exact rfl; exact rfl; exact rfl; exact rfl)
        | ((with_reducible apply r_lss); exact rfl; exact rfl; exact rfl)
        | ((with_reducible apply r_add); exact rfl; exact rfl; exact (by first | assumption | (unfold fits; omega)); exact rfl)
        | ((with_reducible apply r_sub); exact rfl; exact rfl; exact (by first | assumption | (unfold fits; omega)); exact rfl)
        | ((with_reducible apply r_max); exact rfl; exact rfl; exact rfl)
        | ((with_reducible apply r_min); exact rfl; exact rfl; exact rfl)
        | ((with_reducible apply r_index_f); exact rfl; exact inferInstance; exact rfl; exact rfl; (first | assumption | omega); exact rfl)
        | ((with_reducible apply r_load_f0); exact rfl; exact inferInstance; exact List.getElem?_eq_getElem (by first | assumption | omega); exact rfl; exact rfl)
        | ((with_reducible apply r_store_p); exact rfl; exact rfl; exact rfl; exact rfl; exact rfl; exact rfl)
        | (((with_reducible apply aw_cond); exact rfl) <;> intro hg <;> (first | (exact absurd hg (by decide)) | ((try simp only [decide_eq_true_eq, decide_eq_false_iff_not, Bool.not_eq_true', Bool.not_eq_false', Bool.not_true, Bool.not_false, Bool.not_not, Int.not_lt, Int.not_le, Nat.not_lt, Nat.not_le, gt_iff_lt, ge_iff_le, List.cons.injEq, and_true] at hg); first | (exact absurd trivial hg) | (exfalso; omega) | (have hT : True := hg; clear hT hg) | skip)))
        | ((with_reducible apply r_lit); exact rfl; exact rfl; exact rfl; exact rfl; exact rfl; exact rfl; exact rfl)
        )
      rw [← rowsR_take n sizes gains hlen hjl]
      refine ⟨(r + 1, r + 1), ?_, ?_, by refine weak_mk rfl ?_ ?_ <;> repeat (first | exact envW_nil | exact heapW_nil | refine envW_cons rfl rfl ?_ | refine heapW_cons rfl rfl rfl ?_)⟩
      · show _ - (r + 1) < _ - r; omega
      · exact ⟨by show r + 1 ≤ _; omega, rfl⟩
  · obtain rfl : r = sizes.length := by omega
    have e1 : rowsR n (sizes.take sizes.length) (gains.take sizes.length) = rowsR n sizes gains := by rw [List.take_length, hlen, List.take_length]
    rw [e1] at hrl ⊢
    repeat' (first
      | ((with_reducible apply r_callv); exact rcheck_con (lineR n k p sizes gains c d); exact rfl; exact cl_cons (cl_agg (cl_cons cl_c (cl_cons cl_c (cl_cons cl_c (cl_cons (cl_vec rfl (flat_len EncL.len _)) (cl_cons (cl_vec rfl ((flat_len EncL.len _).trans (congrArg (· * 1) hrl))) (cl_cons (cl_vec rfl ((flat_len EncL.len _).trans (congrArg (· * 1) List.length_replicate))) (cl_cons (cl_vec rfl ((flat_len EncL.len _).trans (congrArg (· * 1) List.length_replicate))) cl_nil)))))))) cl_nil; exact rfl; exact rfl)
      | ((with_reducible apply aw_seq))
      | ((with_reducible apply aw_region))
      | ((with_reducible apply thn_normal))
      | ((with_reducible apply thn_ret))
      | ((with_reducible apply thn_exit))
      | ((with_reducible apply inb_exit))
      | ((with_reducible apply aw_skip))
      | ((with_reducible apply aw_exit))
      | ((with_reducible apply aw_ret))
      | ((with_reducible apply ao_nil))
      | ((with_reducible apply r_move); exact rfl; exact rfl)
      | ((with_reducible apply r_assign); exact rfl; exact rfl)
      | ((with_reducible apply r_load_pa); exact rfl; exact rfl; exact rfl; exact rfl; exact rfl)
      | ((with_reducible apply r_lss); exact rfl; exact rfl; exact rfl)
      | ((with_reducible apply r_neq); exact rfl; exact rfl; exact rfl)
      | ((with_reducible apply r_len_f); exact rfl; exact inferInstance; exact rfl)
      | ((with_reducible apply r_store_pa); exact rfl; exact rfl; exact rfl; exact rfl; exact rfl; exact rfl)
      | ((with_reducible apply r_build); exact rfl; exact rfl; exact rfl)
      | (((with_reducible apply aw_cond); exact rfl) <;> intro hg <;> (first | (exact absurd hg (by decide)) | ((try simp only [decide_eq_true_eq, decide_eq_false_iff_not, Bool.not_eq_true', Bool.not_eq_false', Bool.not_true, Bool.not_false, Bool.not_not, Int.not_lt, Int.not_le, Nat.not_lt, Nat.not_le, gt_iff_lt, ge_iff_le, List.cons.injEq, and_true] at hg); first | (exact absurd trivial hg) | (exfalso; omega) | (have hT : True := hg; clear hT hg) | skip)))
      )
    · rw [if_pos hg]
      exact ret2 (.cons (.cell_a inferInstance rfl rfl rfl rfl (cl_cons cl_c (cl_cons cl_c (cl_cons cl_c (cl_cons cl_none (cl_cons cl_none (cl_cons cl_none (cl_cons cl_none cl_nil)))))))) (.cons (.tmp rfl cl_c) .nil))
    · rw [if_neg (fun hh => hh hg)]
      exact ret2 (.cons (.cell_a inferInstance rfl rfl rfl rfl (cl_cons cl_c (cl_cons cl_c (cl_cons cl_c (cl_cons (cl_vec rfl (flat_len EncL.len _)) (cl_cons (cl_vec rfl ((flat_len EncL.len _).trans (congrArg (· * 1) hrl))) (cl_cons (cl_vec rfl ((flat_len EncL.len _).trans (congrArg (· * 1) List.length_replicate))) (cl_cons (cl_vec rfl ((flat_len EncL.len _).trans (congrArg (· * 1) List.length_replicate))) cl_nil)))))))) (.cons (.tmp rfl cl_c) .nil))
end Go.Proofs.YtjofnmklkndhoaaDoor.Cu
