/- MC ME MF MG: texts laid together. -/
import Derived.Test.YtkhljpbkebnnmaaDoorMrgI0
import Derived.Test.YtkhljpbkebnnmaaDoorMrgG0
import Derived.Test.YtkhljpbkebnnmaaDoorMrgM1
import Derived.Test.YtkhljpbkebnnmaaDoorMrgG5
/- Walks of defects: Check and Count in both. -/
namespace Go.Proofs.YtkhljpbkebnnmaaDoor.Ge
set_option linter.unusedVariables false
set_option linter.unusedSimpArgs false
open Go.RowKit Go.Proofs.YtkhljpbkebnnmaaDoor.Ev
variable {gl : List (Nat × List CV)}

/-- A defect: its kind and its box. -/
structure Dfc where
  kind : Int
  x : Span
  y : Span
  z : Span
def dfC (d : Dfc) : List CV := [I d.kind, I d.x.1, I d.x.2, I d.y.1, I d.y.2, I d.z.1, I d.z.2]
instance : EncL dfC 7 := ⟨fun _ => rfl, by decide, fun _ => rfl⟩
abbrev LD (l : List Dfc) : CV := .lst 7 (l.flatMap dfC)
def inB (s : Span) (lo hi : Int) : Bool := decide (lo ≤ s.1 ∧ lo ≤ s.2 ∧ s.1 ≤ hi ∧ s.2 ≤ hi)
def dfEmpty (d : Dfc) : Bool := emptyS d.x || emptyS d.y || emptyS d.z
def dfRange (d : Dfc) : Bool := inB d.x (-600) 600 && inB d.y (-600) 600 && inB d.z 0 20000
def dfChk (d : Dfc) : Int := if d.kind < 1 ∨ 6 < d.kind then 10 else if dfEmpty d = true then 19 else if dfRange d = true then 0 else 9
theorem ff6 : ∀ b1 b2 b3 c1 c2 c3 : Bool, b1 = true ∨ (b1 = false ∧ b2 = true) ∨ (b1 = false ∧ b2 = false ∧ b3 = true) ∨ (b1 = false ∧ b2 = false ∧ b3 = false ∧ c1 = false) ∨ (b1 = false ∧ b2 = false ∧ b3 = false ∧ c1 = true ∧ c2 = false) ∨ (b1 = false ∧ b2 = false ∧ b3 = false ∧ c1 = true ∧ c2 = true ∧ c3 = false) ∨ (b1 = false ∧ b2 = false ∧ b3 = false ∧ c1 = true ∧ c2 = true ∧ c3 = true) := by
  intro b1 b2 b3 c1 c2 c3
  cases b1 <;> cases b2 <;> cases b3 <;> cases c1 <;> cases c2 <;> cases c3 <;> simp
theorem dIsEmpty_con (a b : Int) : Con Tryd.prog gl 63 [.agg [I a, I b]] (.v (.bool (emptyS (a, b)))) := by
  refine con_of Tryd.func63 rfl (by kernel_rfl) rfl ?_
  simp only [Tryd.ntmps63, Tryd.results63, argEnv, ofC, of1, List.map]
  repeat' (first
 | ((with_reducible apply aw_seq))
 | ((with_reducible apply aw_region))
 | ((with_reducible apply thn_normal))
 | ((with_reducible apply aw_ret))
 | ((with_reducible apply ao_nil))
 | ((with_reducible apply r_assign); exact rfl; exact rfl)
 | ((with_reducible apply r_field_p); exact rfl; exact rfl)
 | ((with_reducible apply r_load_p); exact rfl; exact rfl; exact rfl; exact rfl)
 | ((with_reducible apply r_geq); exact rfl; exact rfl; exact rfl)
 | ((with_reducible apply r_box_a); exact rfl; exact rfl)
    )
  exact ret_b rfl rfl
theorem dInside_con (a b lo hi : Int) : Con Tryd.prog gl 64 [.agg [I a, I b], I lo, I hi] (.v (.bool (inB (a, b) lo hi))) := by
  refine con_of Tryd.func64 rfl (by kernel_rfl) rfl ?_
  simp only [Tryd.ntmps64, Tryd.results64, argEnv, ofC, of1, List.map]
  repeat' (first
 | ((with_reducible apply aw_seq))
 | ((with_reducible apply aw_region))
 | ((with_reducible apply thn_normal))
 | ((with_reducible apply aw_ret))
 | ((with_reducible apply ao_nil))
 | ((with_reducible apply r_move); exact rfl; exact rfl)
 | ((with_reducible apply r_assign); exact rfl; exact rfl)
 | ((with_reducible apply r_field_p); exact rfl; exact rfl)
 | ((with_reducible apply r_load_p); exact rfl; exact rfl; exact rfl; exact rfl)
 | ((with_reducible apply r_leq); exact rfl; exact rfl; exact rfl)
 | ((with_reducible apply r_geq); exact rfl; exact rfl; exact rfl)
 | ((with_reducible apply r_max); exact rfl; exact rfl; exact rfl)
 | ((with_reducible apply r_min); exact rfl; exact rfl; exact rfl)
 | ((with_reducible apply r_box_a); exact rfl; exact rfl)
 | ((with_reducible apply r_pick_t); exact rfl; exact rfl; exact rfl)
 | ((with_reducible apply r_pick_f); exact rfl; exact rfl; exact rfl)
 | (((with_reducible apply r_guard); exact rfl; exact rfl; exact rfl; exact rfl) <;> intro hg <;> (first | (exact absurd hg (by decide)) | ((try simp only [decide_eq_true_eq, decide_eq_false_iff_not, Bool.not_eq_true', Bool.not_eq_false', Bool.not_true, Bool.not_false, Bool.not_not, Int.not_lt, Int.not_le, Nat.not_lt, Nat.not_le, gt_iff_lt, ge_iff_le, List.cons.injEq, and_true] at hg); first | (exact absurd trivial hg) | (exfalso; omega) | (have hT : True := hg; clear hT hg) | skip)))
    )
  all_goals first
    | exact ret_b rfl (by unfold inB; rw [eq_comm, decide_eq_false_iff_not]; dsimp only; omega)
    | exact ret_b rfl (decide_eq_decide.2 (by dsimp only; omega))
set_option maxRecDepth 100000 in
set_option maxHeartbeats 4000000 in
theorem dcheck1_con (d : Dfc) : Con Tryd.prog gl 42 [.agg [I d.kind, I d.x.1, I d.x.2, I d.y.1, I d.y.2, I d.z.1, I d.z.2]] (I (dfChk d)) := by
  obtain ⟨k, ⟨xa, xb⟩, ⟨ya, yb⟩, ⟨za, zb⟩⟩ := d
  have e1 := dIsEmpty_con (gl := gl) xa xb
  have e2 := dIsEmpty_con (gl := gl) ya yb
  have e3 := dIsEmpty_con (gl := gl) za zb
  have i1 := dInside_con (gl := gl) xa xb (-600) 600
  have i2 := dInside_con (gl := gl) ya yb (-600) 600
  have i3 := dInside_con (gl := gl) za zb 0 20000
  unfold dfChk dfEmpty dfRange
  dsimp only
  refine con_of Tryd.func42 rfl (by kernel_rfl) rfl ?_
  simp only [Tryd.ntmps42, Tryd.results42, argEnv, ofC, of1, List.map]
  by_cases hk : k < 1 ∨ 6 < k
  · rw [if_pos hk]
    repeat' (first
 | ((with_reducible apply aw_seq))
 | ((with_reducible apply aw_region))
 | ((with_reducible apply aw_block))
 | ((with_reducible apply thn_normal))
 | ((with_reducible apply thn_ret))
 | ((with_reducible apply inb_ret))
 | ((with_reducible apply aw_ret))
 | ((with_reducible apply ao_nil))
 | ((with_reducible apply r_move); exact rfl; exact rfl)
 | ((with_reducible apply r_assign); exact rfl; exact rfl)
 | ((with_reducible apply r_field_p); exact rfl; exact rfl)
 | ((with_reducible apply r_load_p); exact rfl; exact rfl; exact rfl; exact rfl)
 | ((with_reducible apply r_load_pa); exact rfl; exact rfl; exact rfl; exact rfl; exact rfl)
 | ((with_reducible apply r_lss); exact rfl; exact rfl; exact rfl)
 | ((with_reducible apply r_gtr); exact rfl; exact rfl; exact rfl)
 | ((with_reducible apply r_box_a); exact rfl; exact rfl)
 | ((with_reducible apply r_pick_t); exact rfl; exact rfl; exact rfl)
 | ((with_reducible apply r_pick_f); exact rfl; exact rfl; exact rfl)
 | ((with_reducible apply r_store_pa); exact rfl; exact rfl; exact rfl; exact rfl; exact rfl; exact rfl)
 | ((with_reducible apply r_alloc); exact rfl)
 | (((with_reducible apply r_guard); exact rfl; exact rfl; exact rfl; exact rfl) <;> intro hg <;> (first | (exact absurd hg (by decide)) | ((try simp only [decide_eq_true_eq, decide_eq_false_iff_not, Bool.not_eq_true', Bool.not_eq_false', Bool.not_true, Bool.not_false, Bool.not_not, Int.not_lt, Int.not_le, Nat.not_lt, Nat.not_le, gt_iff_lt, ge_iff_le, List.cons.injEq, and_true] at hg); first | (exact absurd trivial hg) | (exfalso; omega) | (have hT : True := hg; clear hT hg) | skip)))
 | (((with_reducible apply aw_cond); exact rfl) <;> intro hg <;> (first | (exact absurd hg (by decide)) | ((try simp only [decide_eq_true_eq, decide_eq_false_iff_not, Bool.not_eq_true', Bool.not_eq_false', Bool.not_true, Bool.not_false, Bool.not_not, Int.not_lt, Int.not_le, Nat.not_lt, Nat.not_le, gt_iff_lt, ge_iff_le, List.cons.injEq, and_true] at hg); first | (exact absurd trivial hg) | (exfalso; omega) | (have hT : True := hg; clear hT hg) | skip)))
      )
    all_goals exact ret_i rfl rfl
  rw [if_neg hk]
  revert e1 e2 e3 i1 i2 i3
  generalize emptyS (xa, xb) = b1
  generalize emptyS (ya, yb) = b2
  generalize emptyS (za, zb) = b3
  generalize inB (xa, xb) (-600) 600 = c1
  generalize inB (ya, yb) (-600) 600 = c2
  generalize inB (za, zb) 0 20000 = c3
  intro e1 e2 e3 i1 i2 i3
  rcases ff6 b1 b2 b3 c1 c2 c3 with rfl | ⟨rfl, rfl⟩ | ⟨rfl, rfl, rfl⟩ | ⟨rfl, rfl, rfl, rfl⟩ | ⟨rfl, rfl, rfl, rfl, rfl⟩ | ⟨rfl, rfl, rfl, rfl, rfl, rfl⟩ | ⟨rfl, rfl, rfl, rfl, rfl, rfl⟩
  all_goals try simp only [Bool.true_or, Bool.or_true, Bool.false_or, Bool.or_false, Bool.false_and, Bool.and_false, Bool.true_and, Bool.and_true]
  all_goals
    repeat' (first
 | ((with_reducible apply r_call); exact rfl; exact rfl; (first | exact e1 | exact e2 | exact e3 | exact i1 | exact i2 | exact i3); exact rfl; exact rfl)
 | ((with_reducible apply aw_seq))
 | ((with_reducible apply aw_region))
 | ((with_reducible apply aw_block))
 | ((with_reducible apply thn_normal))
 | ((with_reducible apply thn_ret))
 | ((with_reducible apply inb_normal))
 | ((with_reducible apply inb_ret))
 | ((with_reducible apply aw_skip))
 | ((with_reducible apply aw_ret))
 | ((with_reducible apply ao_nil))
 | ((with_reducible apply r_move); exact rfl; exact rfl)
 | ((with_reducible apply r_assign); exact rfl; exact rfl)
 | ((with_reducible apply r_field_p); exact rfl; exact rfl)
 | ((with_reducible apply r_load_p); exact rfl; exact rfl; exact rfl; exact rfl)
 | ((with_reducible apply r_load_pa); exact rfl; exact rfl; exact rfl; exact rfl; exact rfl)
 | ((with_reducible apply r_lss); exact rfl; exact rfl; exact rfl)
 | ((with_reducible apply r_gtr); exact rfl; exact rfl; exact rfl)
 | ((with_reducible apply r_box_a); exact rfl; exact rfl)
 | ((with_reducible apply r_pick_t); exact rfl; exact rfl; exact rfl)
 | ((with_reducible apply r_pick_f); exact rfl; exact rfl; exact rfl)
 | ((with_reducible apply r_not); exact rfl; exact rfl)
 | ((with_reducible apply r_store_pa); exact rfl; exact rfl; exact rfl; exact rfl; exact rfl; exact rfl)
 | ((with_reducible apply r_alloc); exact rfl)
 | (((with_reducible apply r_guard); exact rfl; exact rfl; exact rfl; exact rfl) <;> intro hg <;> (first | (exact absurd hg (by decide)) | ((try simp only [decide_eq_true_eq, decide_eq_false_iff_not, Bool.not_eq_true', Bool.not_eq_false', Bool.not_true, Bool.not_false, Bool.not_not, Int.not_lt, Int.not_le, Nat.not_lt, Nat.not_le, gt_iff_lt, ge_iff_le, List.cons.injEq, and_true] at hg); first | (exact absurd trivial hg) | (exfalso; omega) | (have hT : True := hg; clear hT hg) | skip)))
 | (((with_reducible apply aw_cond); exact rfl) <;> intro hg <;> (first | (exact absurd hg (by decide)) | ((try simp only [decide_eq_true_eq, decide_eq_false_iff_not, Bool.not_eq_true', Bool.not_eq_false', Bool.not_true, Bool.not_false, Bool.not_not, Int.not_lt, Int.not_le, Nat.not_lt, Nat.not_le, gt_iff_lt, ge_iff_le, List.cons.injEq, and_true] at hg); first | (exact absurd trivial hg) | (exfalso; omega) | (have hT : True := hg; clear hT hg) | skip)))
      )
    all_goals exact ret_i rfl rfl
def defGo : List Dfc → Int
  | [] => 0
  | d :: l => if dfChk d = 0 then defGo l else dfChk d
def defChk (l : List Dfc) : Int := if 64 < l.length then 4 else defGo l
theorem dg_bad {l : List Dfc} {j : Nat} (hj : j < l.length) (h : ¬ dfChk l[j] = 0) : dfChk l[j] = defGo (l.drop j) := by
  rw [drop_cons l j hj]; unfold defGo; rw [if_neg h]
theorem dg_ok {l : List Dfc} {j : Nat} (hj : j < l.length) (h : dfChk l[j] = 0) : defGo (l.drop j) = defGo (l.drop (j + 1)) := by
  rw [drop_cons l j hj]; conv => lhs; unfold defGo
  rw [if_pos h]
theorem def_64 {l : List Dfc} (h : 64 < l.length) : 4 = defChk l := by unfold defChk; rw [if_pos h]
theorem def_go {l : List Dfc} (h : ¬ 64 < l.length) : defChk l = defGo (l.drop 0) := by unfold defChk; rw [if_neg h]; rfl
set_option maxRecDepth 100000 in
set_option maxHeartbeats 4000000 in
theorem dcheck_con (l : List Dfc) (hn : l.length ≤ maxLen) : Con Tryd.prog gl 22 [LD l] (I (defChk l)) := by
  refine con_of Tryd.func22 rfl (by kernel_rfl) rfl ?_
  simp only [Tryd.ntmps22, Tryd.results22, argEnv, ofC, of1, List.map]
  by_cases h24 : 64 < l.length
  · skip
    repeat' (first
 | ((with_reducible apply aw_seq))
 | ((with_reducible apply aw_region))
 | ((with_reducible apply thn_normal))
 | ((with_reducible apply thn_ret))
 | ((with_reducible apply aw_ret))
 | ((with_reducible apply ao_nil))
 | ((with_reducible apply r_move); exact rfl; exact rfl)
 | ((with_reducible apply r_assign); exact rfl; exact rfl)
 | ((with_reducible apply r_gtr); exact rfl; exact rfl; exact rfl)
 | ((with_reducible apply r_len_f); exact rfl; exact inferInstance; exact rfl)
 | (((with_reducible apply aw_cond); exact rfl) <;> intro hg <;> (first | (exact absurd hg (by decide)) | ((try simp only [decide_eq_true_eq, decide_eq_false_iff_not, Bool.not_eq_true', Bool.not_eq_false', Bool.not_true, Bool.not_false, Bool.not_not, Int.not_lt, Int.not_le, Nat.not_lt, Nat.not_le, gt_iff_lt, ge_iff_le, List.cons.injEq, and_true] at hg); first | (exact absurd trivial hg) | (exfalso; omega) | (have hT : True := hg; clear hT hg) | skip)))
      )
    exact ret_i rfl (def_64 h24)
  rw [def_go h24]
  repeat' (first
 | ((with_reducible apply aw_seq))
 | ((with_reducible apply aw_region))
 | ((with_reducible apply aw_block))
 | ((with_reducible apply thn_normal))
 | ((with_reducible apply aw_skip))
 | ((with_reducible apply ao_nil))
 | ((with_reducible apply r_move); exact rfl; exact rfl)
 | ((with_reducible apply r_assign); exact rfl; exact rfl)
 | ((with_reducible apply r_gtr); exact rfl; exact rfl; exact rfl)
 | ((with_reducible apply r_len_f); exact rfl; exact inferInstance; exact rfl)
 | (((with_reducible apply aw_cond); exact rfl) <;> intro hg <;> (first | (exact absurd hg (by decide)) | ((try simp only [decide_eq_true_eq, decide_eq_false_iff_not, Bool.not_eq_true', Bool.not_eq_false', Bool.not_true, Bool.not_false, Bool.not_not, Int.not_lt, Int.not_le, Nat.not_lt, Nat.not_le, gt_iff_lt, ge_iff_le, List.cons.injEq, and_true] at hg); first | (exact absurd trivial hg) | (exfalso; omega) | (have hT : True := hg; clear hT hg) | skip)))
    )
  refine aw_loopG (G := Nat) (fun (j : Nat) => j ≤ l.length ∧ defGo (l.drop 0) = defGo (l.drop j)) (fun (j : Nat) => l.length - j) (fun (j : Nat) => [(9, .c (LD l)), (10, A l.length), (11, A j)]) (fun (j : Nat) => []) 0 0 ?_ (by refine weak_mk rfl ?_ ?_ <;> repeat (first | exact envW_nil | exact heapW_nil | refine envW_cons rfl rfl ?_ | refine heapW_cons rfl rfl rfl ?_)) rfl ?_
  · exact ⟨Nat.zero_le _, rfl⟩
  rintro j hI
  try dsimp only at hI
  try dsimp only
  obtain ⟨hj, hgo⟩ := hI
  by_cases hjl : j < l.length
  · have hc := dcheck1_con (gl := gl) l[j]
    repeat' (first
 | ((with_reducible apply r_call); exact rfl; exact rfl; exact hc; exact rfl; exact rfl)
 | ((with_reducible apply aw_seq))
 | ((with_reducible apply aw_region))
 | ((with_reducible apply aw_block))
 | ((with_reducible apply thn_normal))
 | ((with_reducible apply thn_ret))
 | ((with_reducible apply inb_normal))
 | ((with_reducible apply inb_ret))
 | ((with_reducible apply aw_skip))
 | ((with_reducible apply aw_ret))
 | ((with_reducible apply ao_nil))
 | ((with_reducible apply r_move); exact rfl; exact rfl)
 | ((with_reducible apply r_assign); exact rfl; exact rfl)
 | ((with_reducible apply r_load_pa); exact rfl; exact rfl; exact rfl; exact rfl; exact rfl)
 | ((with_reducible apply r_lss); exact rfl; exact rfl; exact rfl)
 | ((with_reducible apply r_neq); exact rfl; exact rfl; exact rfl)
 | ((with_reducible apply r_add); exact rfl; exact rfl; exact (by first | assumption | (unfold fits; omega)); exact rfl)
 | ((with_reducible apply r_index_f); exact rfl; exact inferInstance; exact rfl; exact rfl; (first | assumption | omega); exact rfl)
 | ((with_reducible apply r_load_fa0); exact rfl; exact inferInstance; exact List.getElem?_eq_getElem (by first | assumption | omega); exact rfl; exact rfl; exact rfl)
 | ((with_reducible apply r_store_pa); exact rfl; exact rfl; exact rfl; exact rfl; exact rfl; exact rfl)
 | ((with_reducible apply r_alloc); exact rfl)
 | (((with_reducible apply aw_cond); exact rfl) <;> intro hg <;> (first | (exact absurd hg (by decide)) | ((try simp only [decide_eq_true_eq, decide_eq_false_iff_not, Bool.not_eq_true', Bool.not_eq_false', Bool.not_true, Bool.not_false, Bool.not_not, Int.not_lt, Int.not_le, Nat.not_lt, Nat.not_le, gt_iff_lt, ge_iff_le, List.cons.injEq, and_true] at hg); first | (exact absurd trivial hg) | (exfalso; omega) | (have hT : True := hg; clear hT hg) | skip)))
      )
    all_goals first
      | exact ret_i rfl ((dg_bad hjl hg).trans hgo.symm)
      | skip
    have hs : dfChk l[j] = 0 := by assumption
    refine ⟨j + 1, ?_, ?_, by refine weak_mk rfl ?_ ?_ <;> repeat (first | exact envW_nil | exact heapW_nil | refine envW_cons rfl rfl ?_ | refine heapW_cons rfl rfl rfl ?_)⟩
    · show _ - (j + 1) < _ - j; omega
    · exact ⟨by show j + 1 ≤ _; omega, hgo.trans (dg_ok hjl hs)⟩
  · skip
    repeat' (first
 | ((with_reducible apply aw_seq))
 | ((with_reducible apply aw_region))
 | ((with_reducible apply thn_normal))
 | ((with_reducible apply thn_exit))
 | ((with_reducible apply inb_exit))
 | ((with_reducible apply aw_exit))
 | ((with_reducible apply aw_ret))
 | ((with_reducible apply ao_nil))
 | ((with_reducible apply r_assign); exact rfl; exact rfl)
 | ((with_reducible apply r_lss); exact rfl; exact rfl; exact rfl)
 | (((with_reducible apply aw_cond); exact rfl) <;> intro hg <;> (first | (exact absurd hg (by decide)) | ((try simp only [decide_eq_true_eq, decide_eq_false_iff_not, Bool.not_eq_true', Bool.not_eq_false', Bool.not_true, Bool.not_false, Bool.not_not, Int.not_lt, Int.not_le, Nat.not_lt, Nat.not_le, gt_iff_lt, ge_iff_le, List.cons.injEq, and_true] at hg); first | (exact absurd trivial hg) | (exfalso; omega) | (have hT : True := hg; clear hT hg) | skip)))
      )
    exact ret_i rfl (by rw [hgo, List.drop_eq_nil_of_le (by omega)]; rfl)
/-- How many of the first defects have a kind. -/
def cntN (l : List Dfc) (k : Int) (j : Nat) : Int := ((l.take j).countP (fun d => decide (d.kind = k)) : Nat)
abbrev cnt (l : List Dfc) (k : Int) : Int := cntN l k l.length
theorem cnt_bd (l : List Dfc) (k : Int) (j : Nat) : 0 ≤ cntN l k j ∧ cntN l k j ≤ l.length ∧ cntN l k j ≤ j := by
  unfold cntN
  have h1 := List.countP_le_length (p := fun d : Dfc => decide (d.kind = k)) (l := l.take j)
  rw [List.length_take] at h1
  omega
theorem cnt_yes {l : List Dfc} {k : Int} {j : Nat} (hj : j < l.length) (h : l[j].kind = k) : cntN l k (j + 1) = cntN l k j + 1 := by
  unfold cntN
  rw [List.take_succ_eq_append_getElem hj, List.countP_append]
  simp [h]
theorem cnt_no {l : List Dfc} {k : Int} {j : Nat} (hj : j < l.length) (h : ¬ l[j].kind = k) : cntN l k (j + 1) = cntN l k j := by
  unfold cntN
  rw [List.take_succ_eq_append_getElem hj, List.countP_append]
  simp [h]
set_option maxRecDepth 100000 in
set_option maxHeartbeats 4000000 in
theorem count_con (l : List Dfc) (k : Int) (hn : l.length ≤ maxLen) : Con Tryd.prog gl 76 [LD l, I k] (I (cnt l k)) := by
  have hn2 := hn
  unfold maxLen at hn2
  refine con_of Tryd.func76 rfl (by kernel_rfl) rfl ?_
  simp only [Tryd.ntmps76, Tryd.results76, argEnv, ofC, of1, List.map]
  repeat' (first
 | ((with_reducible apply aw_seq))
 | ((with_reducible apply aw_region))
 | ((with_reducible apply aw_block))
 | ((with_reducible apply thn_normal))
 | ((with_reducible apply ao_nil))
 | ((with_reducible apply r_move); exact rfl; exact rfl)
 | ((with_reducible apply r_assign); exact rfl; exact rfl)
 | ((with_reducible apply r_len_f); exact rfl; exact inferInstance; exact rfl)
    )
  refine aw_loopG (G := Nat × Int) (fun ((j, t) : Nat × Int) => j ≤ l.length ∧ t = cntN l k j) (fun ((j, t) : Nat × Int) => l.length - j) (fun ((j, t) : Nat × Int) => [(1, A k), (5, A t), (8, .c (LD l)), (9, A l.length), (10, A j)]) (fun ((j, t) : Nat × Int) => []) 0 (0, 0) ?_ (by refine weak_mk rfl ?_ ?_ <;> repeat (first | exact envW_nil | exact heapW_nil | refine envW_cons rfl rfl ?_ | refine heapW_cons rfl rfl rfl ?_)) rfl ?_
  · exact ⟨Nat.zero_le _, rfl⟩
  rintro ⟨j, t⟩ hI
  try dsimp only at hI
  try dsimp only
  obtain ⟨hj, ht⟩ := hI
  have hb := cnt_bd l k j
  by_cases hjl : j < l.length
  · by_cases hk : l[j].kind = k
    · have hs := cnt_yes hjl hk
      repeat' (first
 | ((with_reducible apply aw_seq))
 | ((with_reducible apply aw_region))
 | ((with_reducible apply aw_block))
 | ((with_reducible apply thn_normal))
 | ((with_reducible apply inb_normal))
 | ((with_reducible apply aw_skip))
 | ((with_reducible apply ao_nil))
 | ((with_reducible apply r_move); exact rfl; exact rfl)
 | ((with_reducible apply r_assign); exact rfl; exact rfl)
 | ((with_reducible apply r_field_p); exact rfl; exact rfl)
 | ((with_reducible apply r_load_p); exact rfl; exact rfl; exact rfl; exact rfl)
 | ((with_reducible apply r_lss); exact rfl; exact rfl; exact rfl)
 | ((with_reducible apply r_eql); exact rfl; exact rfl; exact rfl)
 | ((with_reducible apply r_add); exact rfl; exact rfl; exact (by first | assumption | (unfold fits; omega)); exact rfl)
 | ((with_reducible apply r_index_f); exact rfl; exact inferInstance; exact rfl; exact rfl; (first | assumption | omega); exact rfl)
 | ((with_reducible apply r_load_fa0); exact rfl; exact inferInstance; exact List.getElem?_eq_getElem (by first | assumption | omega); exact rfl; exact rfl; exact rfl)
 | ((with_reducible apply r_store_pa); exact rfl; exact rfl; exact rfl; exact rfl; exact rfl; exact rfl)
 | ((with_reducible apply r_alloc); exact rfl)
 | (((with_reducible apply aw_cond); exact rfl) <;> intro hg <;> (first | (exact absurd hg (by decide)) | ((try simp only [decide_eq_true_eq, decide_eq_false_iff_not, Bool.not_eq_true', Bool.not_eq_false', Bool.not_true, Bool.not_false, Bool.not_not, Int.not_lt, Int.not_le, Nat.not_lt, Nat.not_le, gt_iff_lt, ge_iff_le, List.cons.injEq, and_true] at hg); first | (exact absurd trivial hg) | (exfalso; omega) | (have hT : True := hg; clear hT hg) | skip)))
        )
      refine ⟨(j + 1, t + 1), ?_, ?_, by refine weak_mk rfl ?_ ?_ <;> repeat (first | exact envW_nil | exact heapW_nil | refine envW_cons rfl rfl ?_ | refine heapW_cons rfl rfl rfl ?_)⟩
      · show _ - (j + 1) < _ - j; omega
      · exact ⟨by show j + 1 ≤ _; omega, by show t + 1 = cntN l k (j + 1); omega⟩
    · have hs := cnt_no hjl hk
      repeat' (first
 | ((with_reducible apply aw_seq))
 | ((with_reducible apply aw_region))
 | ((with_reducible apply aw_block))
 | ((with_reducible apply thn_normal))
 | ((with_reducible apply inb_normal))
 | ((with_reducible apply aw_skip))
 | ((with_reducible apply ao_nil))
 | ((with_reducible apply r_move); exact rfl; exact rfl)
 | ((with_reducible apply r_field_p); exact rfl; exact rfl)
 | ((with_reducible apply r_load_p); exact rfl; exact rfl; exact rfl; exact rfl)
 | ((with_reducible apply r_lss); exact rfl; exact rfl; exact rfl)
 | ((with_reducible apply r_eql); exact rfl; exact rfl; exact rfl)
 | ((with_reducible apply r_add); exact rfl; exact rfl; exact (by first | assumption | (unfold fits; omega)); exact rfl)
 | ((with_reducible apply r_index_f); exact rfl; exact inferInstance; exact rfl; exact rfl; (first | assumption | omega); exact rfl)
 | ((with_reducible apply r_load_fa0); exact rfl; exact inferInstance; exact List.getElem?_eq_getElem (by first | assumption | omega); exact rfl; exact rfl; exact rfl)
 | ((with_reducible apply r_store_pa); exact rfl; exact rfl; exact rfl; exact rfl; exact rfl; exact rfl)
 | ((with_reducible apply r_alloc); exact rfl)
 | (((with_reducible apply aw_cond); exact rfl) <;> intro hg <;> (first | (exact absurd hg (by decide)) | ((try simp only [decide_eq_true_eq, decide_eq_false_iff_not, Bool.not_eq_true', Bool.not_eq_false', Bool.not_true, Bool.not_false, Bool.not_not, Int.not_lt, Int.not_le, Nat.not_lt, Nat.not_le, gt_iff_lt, ge_iff_le, List.cons.injEq, and_true] at hg); first | (exact absurd trivial hg) | (exfalso; omega) | (have hT : True := hg; clear hT hg) | skip)))
        )
      refine ⟨(j + 1, t), ?_, ?_, by refine weak_mk rfl ?_ ?_ <;> repeat (first | exact envW_nil | exact heapW_nil | refine envW_cons rfl rfl ?_ | refine heapW_cons rfl rfl rfl ?_)⟩
      · show _ - (j + 1) < _ - j; omega
      · exact ⟨by show j + 1 ≤ _; omega, by show t = cntN l k (j + 1); omega⟩
  · obtain rfl : j = l.length := by omega
    repeat' (first
 | ((with_reducible apply aw_seq))
 | ((with_reducible apply aw_region))
 | ((with_reducible apply thn_normal))
 | ((with_reducible apply thn_exit))
 | ((with_reducible apply inb_exit))
 | ((with_reducible apply aw_exit))
 | ((with_reducible apply aw_ret))
 | ((with_reducible apply ao_nil))
 | ((with_reducible apply r_move); exact rfl; exact rfl)
 | ((with_reducible apply r_assign); exact rfl; exact rfl)
 | ((with_reducible apply r_lss); exact rfl; exact rfl; exact rfl)
 | (((with_reducible apply aw_cond); exact rfl) <;> intro hg <;> (first | (exact absurd hg (by decide)) | ((try simp only [decide_eq_true_eq, decide_eq_false_iff_not, Bool.not_eq_true', Bool.not_eq_false', Bool.not_true, Bool.not_false, Bool.not_not, Int.not_lt, Int.not_le, Nat.not_lt, Nat.not_le, gt_iff_lt, ge_iff_le, List.cons.injEq, and_true] at hg); first | (exact absurd trivial hg) | (exfalso; omega) | (have hT : True := hg; clear hT hg) | skip)))
      )
    exact ret_i rfl ht
end Go.Proofs.YtkhljpbkebnnmaaDoor.Ge
/- Walks of classes: Fits, Of, Price in both. -/
namespace Go.Proofs.YtkhljpbkebnnmaaDoor.Ge
set_option linter.unusedVariables false
set_option linter.unusedSimpArgs false
open Go.RowKit Go.Proofs.YtkhljpbkebnnmaaDoor.Ev
variable {gl : List (Nat × List CV)}

/-- What a class is compared with. -/
structure Meas where
  top : Int
  len : Int
  sweep : Int
  taper : Int
  knots : Int
  rot : Int
noncomputable def measL (l : List Slc) (d : List Dfc) : Meas := ⟨topS l, lengthS l, sweepS l, taperS l, cnt d 1 + cnt d 2, cnt d 3⟩
/-- The numbers of a class stand in the order of its struct: len: least diameter; lo, hi: least and greatest length; taper: greatest sweep; sweep: greatest taper; knots; rot; price. -/
def fitM (m : Meas) (c : Kl) : Bool := decide (c.len ≤ m.top ∧ c.lo ≤ m.len ∧ m.len ≤ c.hi ∧ m.sweep ≤ c.taper ∧ m.taper ≤ c.sweep ∧ m.knots ≤ c.knots ∧ m.rot ≤ c.rot)
def bothOk (l : List Slc) (d : List Dfc) : Prop := solChk l = 0 ∧ defChk d = 0
noncomputable def fitS (l : List Slc) (d : List Dfc) (c : Kl) : Bool := open Classical in if bothOk l d then fitM (measL l d) c else false
theorem fit_no {l : List Slc} {d : List Dfc} (h : ¬ bothOk l d) (c : Kl) : fitS l d c = false := if_neg h
theorem fit_ok {l : List Slc} {d : List Dfc} (h : bothOk l d) (c : Kl) : fitS l d c = fitM (measL l d) c := if_pos h
theorem def_len {d : List Dfc} (h : defChk d = 0) : d.length ≤ 64 := by
  unfold defChk at h
  split at h
  · cases h
  · omega
abbrev MC (f : Nat) (n : Int) : Option AB := some (.cells f [A n])
/-- The class of a log. -/
noncomputable def ofN (c : List Kl) (l : List Slc) (d : List Dfc) : Option Nat := open Classical in if klChk c = 0 then c.findIdx? (fitS l d) else none
def idxR : Option Nat → Int × Bool
  | some i => ((i : Int), true)
  | none => (0, false)
noncomputable def ofS (c : List Kl) (l : List Slc) (d : List Dfc) : Int × Bool := idxR (ofN c l d)
abbrev ofV (r : Int × Bool) : CV := .tup [I r.1, .v (.bool r.2)]
theorem of_bad {c : List Kl} {l : List Slc} {d : List Dfc} (h : ¬ klChk c = 0) : ofS c l d = (0, false) := by unfold ofS ofN; rw [if_neg h]; rfl
theorem of_some {c : List Kl} {l : List Slc} {d : List Dfc} (h : klChk c = 0) {i : Nat} (hi : i < c.length) (h1 : fitS l d c[i] = true) (h2 : ∀ j (hj : j < c.length), j < i → fitS l d c[j] = false) : ofS c l d = ((i : Int), true) := by
  unfold ofS ofN
  rw [if_pos h, (List.findIdx?_eq_some_iff_getElem (i := i)).2 ⟨hi, h1, fun j hj => by rw [h2 j (by omega) hj]; decide⟩]
  rfl
theorem of_none {c : List Kl} {l : List Slc} {d : List Dfc} (h : klChk c = 0) (h2 : ∀ j (hj : j < c.length), fitS l d c[j] = false) : ofS c l d = (0, false) := by
  unfold ofS ofN
  rw [if_pos h, List.findIdx?_eq_none_iff.2 (fun x hx => by obtain ⟨i, hi, rfl⟩ := List.mem_iff_getElem.1 hx; exact h2 i hi)]
  rfl
end Go.Proofs.YtkhljpbkebnnmaaDoor.Ge
/- Walks of classes: Of in both. -/
namespace Go.Proofs.YtkhljpbkebnnmaaDoor.Ge
set_option linter.unusedVariables false
set_option linter.unusedSimpArgs false
open Go.RowKit Go.Proofs.YtkhljpbkebnnmaaDoor.Ev
variable {gl : List (Nat × List CV)}
set_option maxRecDepth 100000 in
set_option maxHeartbeats 16000000 in
theorem of_con (K : List Kl) (l : List Slc) (d : List Dfc) (hK : K.length ≤ maxLen) (hl : l.length ≤ maxLen) (hd : d.length ≤ maxLen) : Con Tryd.prog gl 44 [LK K, LL l, LD d] (ofV (ofS K l d)) := by
  have c0 := kcheck_con (gl := gl) K hK
  have c1 := scheck_con (gl := gl) l hl
  have c2 := dcheck_con (gl := gl) d hd
  have hK2 := hK
  unfold maxLen at hK2
  refine con_of Tryd.func44 rfl (by kernel_rfl) rfl ?_
  simp only [Tryd.ntmps44, Tryd.results44, argEnv, ofC, of1, List.map]
  by_cases hk : klChk K = 0
  rotate_left
  · rw [of_bad hk]
    repeat' (first
 | ((with_reducible apply r_call); exact rfl; exact rfl; exact c0; exact rfl; exact rfl)
 | ((with_reducible apply aw_seq))
 | ((with_reducible apply aw_region))
 | ((with_reducible apply thn_normal))
 | ((with_reducible apply thn_ret))
 | ((with_reducible apply aw_ret))
 | ((with_reducible apply ao_nil))
 | ((with_reducible apply r_move); exact rfl; exact rfl)
 | ((with_reducible apply r_assign); exact rfl; exact rfl)
 | ((with_reducible apply r_neq); exact rfl; exact rfl; exact rfl)
 | (((with_reducible apply aw_cond); exact rfl) <;> intro hg <;> (first | (exact absurd hg (by decide)) | ((try simp only [decide_eq_true_eq, decide_eq_false_iff_not, Bool.not_eq_true', Bool.not_eq_false', Bool.not_true, Bool.not_false, Bool.not_not, Int.not_lt, Int.not_le, Nat.not_lt, Nat.not_le, gt_iff_lt, ge_iff_le, List.cons.injEq, and_true] at hg); first | (exact absurd trivial hg) | (exfalso; omega) | (have hT : True := hg; clear hT hg) | skip)))
      )
    exact ret2 (.cons (.tmp rfl cl_c) (.cons (.tmp rfl cl_c) .nil))
  rw [hk] at c0
  by_cases hb : bothOk l d
  rotate_left
  · have hno : ofS K l d = (0, false) := of_none hk (fun j hj => fit_no hb K[j])
    rw [hno]
    by_cases h1 : solChk l = 0
    · have h2 : ¬ defChk d = 0 := fun h => hb ⟨h1, h⟩
      repeat' (first
 | ((with_reducible apply r_call); exact rfl; exact rfl; (first | exact c0 | exact c1 | exact c2); exact rfl; exact rfl)
 | ((with_reducible apply (r_in Tryd.func66 rfl Tryd.results66 (by kernel_rfl) Tryd.ntmps66)); exact rfl; exact rfl; exact rfl; exact rfl)
 | ((with_reducible apply (r_in Tryd.func65 rfl Tryd.results65 (by kernel_rfl) Tryd.ntmps65)); exact rfl; exact rfl; exact rfl; exact rfl)
 | (refine back_ret rfl ?_)
 | ((with_reducible apply aw_seq))
 | ((with_reducible apply aw_region))
 | ((with_reducible apply aw_block))
 | ((with_reducible apply thn_normal))
 | ((with_reducible apply thn_ret))
 | ((with_reducible apply aw_skip))
 | ((with_reducible apply aw_ret))
 | ((with_reducible apply ao_nil))
 | ((with_reducible apply r_move); exact rfl; exact rfl)
 | ((with_reducible apply r_assign); exact rfl; exact rfl)
 | ((with_reducible apply r_neq); exact rfl; exact rfl; exact rfl)
 | ((with_reducible apply r_pick_f); exact rfl; exact rfl; exact rfl)
 | ((with_reducible apply r_len_f); exact rfl; exact inferInstance; exact rfl)
 | (((with_reducible apply r_guard); exact rfl; exact rfl; exact rfl; exact rfl) <;> intro hg <;> (first | (exact absurd hg (by decide)) | ((try simp only [decide_eq_true_eq, decide_eq_false_iff_not, Bool.not_eq_true', Bool.not_eq_false', Bool.not_true, Bool.not_false, Bool.not_not, Int.not_lt, Int.not_le, Nat.not_lt, Nat.not_le, gt_iff_lt, ge_iff_le, List.cons.injEq, and_true] at hg); first | (exact absurd trivial hg) | (exfalso; omega) | (have hT : True := hg; clear hT hg) | skip)))
 | (((with_reducible apply aw_cond); exact rfl) <;> intro hg <;> (first | (exact absurd hg (by decide)) | ((try simp only [decide_eq_true_eq, decide_eq_false_iff_not, Bool.not_eq_true', Bool.not_eq_false', Bool.not_true, Bool.not_false, Bool.not_not, Int.not_lt, Int.not_le, Nat.not_lt, Nat.not_le, gt_iff_lt, ge_iff_le, List.cons.injEq, and_true] at hg); first | (exact absurd trivial hg) | (exfalso; omega) | (have hT : True := hg; clear hT hg) | skip)))
        )
      refine aw_loopG (G := Nat) (fun (k : Nat) => k ≤ K.length) (fun (k : Nat) => K.length - k) (fun (k : Nat) => [(0, .c (LK K)), (1, .fn 72 []), (7, A K.length), (8, A k)]) (fun (k : Nat) => []) 0 0 ?_ (by refine weak_mk rfl ?_ ?_ <;> repeat (first | exact envW_nil | exact heapW_nil | refine envW_cons rfl rfl ?_ | refine heapW_cons rfl rfl rfl ?_)) rfl ?_
      · exact Nat.zero_le _
      rintro k hI
      try dsimp only at hI
      try dsimp only
      by_cases hkl : k < K.length
      · skip
        repeat' (first
 | ((with_reducible apply (r_inF Tryd.func72 rfl Tryd.results72 (by kernel_rfl) Tryd.ntmps72)); exact rfl; exact rfl; exact rfl; exact rfl; exact rfl)
 | (refine back_ret rfl ?_)
 | ((with_reducible apply aw_seq))
 | ((with_reducible apply aw_region))
 | ((with_reducible apply aw_block))
 | ((with_reducible apply thn_normal))
 | ((with_reducible apply inb_normal))
 | ((with_reducible apply aw_skip))
 | ((with_reducible apply aw_ret))
 | ((with_reducible apply ao_nil))
 | ((with_reducible apply r_move); exact rfl; exact rfl)
 | ((with_reducible apply r_assign); exact rfl; exact rfl)
 | ((with_reducible apply r_lss); exact rfl; exact rfl; exact rfl)
 | ((with_reducible apply r_add); exact rfl; exact rfl; exact (by first | assumption | (unfold fits; omega)); exact rfl)
 | ((with_reducible apply r_box_a); exact rfl; exact rfl)
 | ((with_reducible apply r_index_f); exact rfl; exact inferInstance; exact rfl; exact rfl; (first | assumption | omega); exact rfl)
 | ((with_reducible apply r_load_fa0); exact rfl; exact inferInstance; exact List.getElem?_eq_getElem (by first | assumption | omega); exact rfl; exact rfl; exact rfl)
 | (((with_reducible apply aw_cond); exact rfl) <;> intro hg <;> (first | (exact absurd hg (by decide)) | ((try simp only [decide_eq_true_eq, decide_eq_false_iff_not, Bool.not_eq_true', Bool.not_eq_false', Bool.not_true, Bool.not_false, Bool.not_not, Int.not_lt, Int.not_le, Nat.not_lt, Nat.not_le, gt_iff_lt, ge_iff_le, List.cons.injEq, and_true] at hg); first | (exact absurd trivial hg) | (exfalso; omega) | (have hT : True := hg; clear hT hg) | skip)))
          )
        refine ⟨k + 1, ?_, ?_, by refine weak_mk rfl ?_ ?_ <;> repeat (first | exact envW_nil | exact heapW_nil | refine envW_cons rfl rfl ?_ | refine heapW_cons rfl rfl rfl ?_)⟩
        · show _ - (k + 1) < _ - k; omega
        · show k + 1 ≤ _; omega
      · skip
        repeat' (first
 | (refine back_ret rfl ?_)
 | ((with_reducible apply aw_seq))
 | ((with_reducible apply aw_region))
 | ((with_reducible apply thn_normal))
 | ((with_reducible apply thn_ret))
 | ((with_reducible apply thn_exit))
 | ((with_reducible apply inb_exit))
 | ((with_reducible apply aw_exit))
 | ((with_reducible apply aw_ret))
 | ((with_reducible apply ao_nil))
 | ((with_reducible apply r_move); exact rfl; exact rfl)
 | ((with_reducible apply r_assign); exact rfl; exact rfl)
 | ((with_reducible apply r_lss); exact rfl; exact rfl; exact rfl)
 | (((with_reducible apply aw_cond); exact rfl) <;> intro hg <;> (first | (exact absurd hg (by decide)) | ((try simp only [decide_eq_true_eq, decide_eq_false_iff_not, Bool.not_eq_true', Bool.not_eq_false', Bool.not_true, Bool.not_false, Bool.not_not, Int.not_lt, Int.not_le, Nat.not_lt, Nat.not_le, gt_iff_lt, ge_iff_le, List.cons.injEq, and_true] at hg); first | (exact absurd trivial hg) | (exfalso; omega) | (have hT : True := hg; clear hT hg) | skip)))
          )
        exact ret2 (.cons (.tmp rfl cl_c) (.cons (.tmp rfl cl_c) .nil))
    · skip
      repeat' (first
 | ((with_reducible apply r_call); exact rfl; exact rfl; (first | exact c0 | exact c1 | exact c2); exact rfl; exact rfl)
 | ((with_reducible apply (r_in Tryd.func66 rfl Tryd.results66 (by kernel_rfl) Tryd.ntmps66)); exact rfl; exact rfl; exact rfl; exact rfl)
 | ((with_reducible apply (r_in Tryd.func65 rfl Tryd.results65 (by kernel_rfl) Tryd.ntmps65)); exact rfl; exact rfl; exact rfl; exact rfl)
 | (refine back_ret rfl ?_)
 | ((with_reducible apply aw_seq))
 | ((with_reducible apply aw_region))
 | ((with_reducible apply aw_block))
 | ((with_reducible apply thn_normal))
 | ((with_reducible apply thn_ret))
 | ((with_reducible apply aw_skip))
 | ((with_reducible apply aw_ret))
 | ((with_reducible apply ao_nil))
 | ((with_reducible apply r_move); exact rfl; exact rfl)
 | ((with_reducible apply r_assign); exact rfl; exact rfl)
 | ((with_reducible apply r_neq); exact rfl; exact rfl; exact rfl)
 | ((with_reducible apply r_pick_t); exact rfl; exact rfl; exact rfl)
 | ((with_reducible apply r_len_f); exact rfl; exact inferInstance; exact rfl)
 | (((with_reducible apply r_guard); exact rfl; exact rfl; exact rfl; exact rfl) <;> intro hg <;> (first | (exact absurd hg (by decide)) | ((try simp only [decide_eq_true_eq, decide_eq_false_iff_not, Bool.not_eq_true', Bool.not_eq_false', Bool.not_true, Bool.not_false, Bool.not_not, Int.not_lt, Int.not_le, Nat.not_lt, Nat.not_le, gt_iff_lt, ge_iff_le, List.cons.injEq, and_true] at hg); first | (exact absurd trivial hg) | (exfalso; omega) | (have hT : True := hg; clear hT hg) | skip)))
 | (((with_reducible apply aw_cond); exact rfl) <;> intro hg <;> (first | (exact absurd hg (by decide)) | ((try simp only [decide_eq_true_eq, decide_eq_false_iff_not, Bool.not_eq_true', Bool.not_eq_false', Bool.not_true, Bool.not_false, Bool.not_not, Int.not_lt, Int.not_le, Nat.not_lt, Nat.not_le, gt_iff_lt, ge_iff_le, List.cons.injEq, and_true] at hg); first | (exact absurd trivial hg) | (exfalso; omega) | (have hT : True := hg; clear hT hg) | skip)))
        )
      refine aw_loopG (G := Nat) (fun (k : Nat) => k ≤ K.length) (fun (k : Nat) => K.length - k) (fun (k : Nat) => [(0, .c (LK K)), (1, .fn 72 []), (7, A K.length), (8, A k)]) (fun (k : Nat) => []) 0 0 ?_ (by refine weak_mk rfl ?_ ?_ <;> repeat (first | exact envW_nil | exact heapW_nil | refine envW_cons rfl rfl ?_ | refine heapW_cons rfl rfl rfl ?_)) rfl ?_
      · exact Nat.zero_le _
      rintro k hI
      try dsimp only at hI
      try dsimp only
      by_cases hkl : k < K.length
      · skip
        repeat' (first
 | ((with_reducible apply (r_inF Tryd.func72 rfl Tryd.results72 (by kernel_rfl) Tryd.ntmps72)); exact rfl; exact rfl; exact rfl; exact rfl; exact rfl)
 | (refine back_ret rfl ?_)
 | ((with_reducible apply aw_seq))
 | ((with_reducible apply aw_region))
 | ((with_reducible apply aw_block))
 | ((with_reducible apply thn_normal))
 | ((with_reducible apply inb_normal))
 | ((with_reducible apply aw_skip))
 | ((with_reducible apply aw_ret))
 | ((with_reducible apply ao_nil))
 | ((with_reducible apply r_move); exact rfl; exact rfl)
 | ((with_reducible apply r_assign); exact rfl; exact rfl)
 | ((with_reducible apply r_lss); exact rfl; exact rfl; exact rfl)
 | ((with_reducible apply r_add); exact rfl; exact rfl; exact (by first | assumption | (unfold fits; omega)); exact rfl)
 | ((with_reducible apply r_box_a); exact rfl; exact rfl)
 | ((with_reducible apply r_index_f); exact rfl; exact inferInstance; exact rfl; exact rfl; (first | assumption | omega); exact rfl)
 | ((with_reducible apply r_load_fa0); exact rfl; exact inferInstance; exact List.getElem?_eq_getElem (by first | assumption | omega); exact rfl; exact rfl; exact rfl)
 | (((with_reducible apply aw_cond); exact rfl) <;> intro hg <;> (first | (exact absurd hg (by decide)) | ((try simp only [decide_eq_true_eq, decide_eq_false_iff_not, Bool.not_eq_true', Bool.not_eq_false', Bool.not_true, Bool.not_false, Bool.not_not, Int.not_lt, Int.not_le, Nat.not_lt, Nat.not_le, gt_iff_lt, ge_iff_le, List.cons.injEq, and_true] at hg); first | (exact absurd trivial hg) | (exfalso; omega) | (have hT : True := hg; clear hT hg) | skip)))
          )
        refine ⟨k + 1, ?_, ?_, by refine weak_mk rfl ?_ ?_ <;> repeat (first | exact envW_nil | exact heapW_nil | refine envW_cons rfl rfl ?_ | refine heapW_cons rfl rfl rfl ?_)⟩
        · show _ - (k + 1) < _ - k; omega
        · show k + 1 ≤ _; omega
      · skip
        repeat' (first
 | (refine back_ret rfl ?_)
 | ((with_reducible apply aw_seq))
 | ((with_reducible apply aw_region))
 | ((with_reducible apply thn_normal))
 | ((with_reducible apply thn_ret))
 | ((with_reducible apply thn_exit))
 | ((with_reducible apply inb_exit))
 | ((with_reducible apply aw_exit))
 | ((with_reducible apply aw_ret))
 | ((with_reducible apply ao_nil))
 | ((with_reducible apply r_move); exact rfl; exact rfl)
 | ((with_reducible apply r_assign); exact rfl; exact rfl)
 | ((with_reducible apply r_lss); exact rfl; exact rfl; exact rfl)
 | (((with_reducible apply aw_cond); exact rfl) <;> intro hg <;> (first | (exact absurd hg (by decide)) | ((try simp only [decide_eq_true_eq, decide_eq_false_iff_not, Bool.not_eq_true', Bool.not_eq_false', Bool.not_true, Bool.not_false, Bool.not_not, Int.not_lt, Int.not_le, Nat.not_lt, Nat.not_le, gt_iff_lt, ge_iff_le, List.cons.injEq, and_true] at hg); first | (exact absurd trivial hg) | (exfalso; omega) | (have hT : True := hg; clear hT hg) | skip)))
          )
        exact ret2 (.cons (.tmp rfl cl_c) (.cons (.tmp rfl cl_c) .nil))
  have hfit := fun c => fit_ok hb c
  have hso := fun i hi h1 h2 => of_some (c := K) (l := l) (d := d) hk (i := i) hi h1 h2
  have hno := of_none (c := K) (l := l) (d := d) hk
  obtain ⟨h1, h2⟩ := hb
  rw [h1] at c1
  rw [h2] at c2
  have b1 := top_con (gl := gl) l hl
  have b2 := slength_con (gl := gl) l hl
  have b3 := sweep_con (gl := gl) l hl
  have b4 := taper_con (gl := gl) l hl
  have b5 := count_con (gl := gl) d 1 hd
  have b6 := count_con (gl := gl) d 2 hd
  have b7 := count_con (gl := gl) d 3 hd
  have d1 := cnt_bd d 1 d.length
  have d2 := cnt_bd d 2 d.length
  have d3 := def_len h2
  simp only [hfit] at hso hno
  unfold measL fitM at hso hno
  dsimp only at hso hno
  have hf : fits (cnt d 1 + cnt d 2) := by
    show fits (cntN d 1 d.length + cntN d 2 d.length)
    unfold fits; omega
  clear d1 d2 d3 hfit
  revert b1 b2 b3 b4 b5 b6 b7 hf hso hno
  generalize topS l = m1
  generalize lengthS l = m2
  generalize sweepS l = m3
  generalize taperS l = m4
  generalize cnt d 1 = m5
  generalize cnt d 2 = m6
  generalize cnt d 3 = m7
  intro b1 b2 b3 b4 b5 b6 b7 hso hno hf
  repeat' (first
 | ((with_reducible apply r_call); exact rfl; exact rfl; (first | exact c0 | exact c1 | exact c2 | exact b1 | exact b2 | exact b3 | exact b4 | exact b5 | exact b6 | exact b7); exact rfl; exact rfl)
 | ((with_reducible apply (r_in Tryd.func66 rfl Tryd.results66 (by kernel_rfl) Tryd.ntmps66)); exact rfl; exact rfl; exact rfl; exact rfl)
 | ((with_reducible apply (r_in Tryd.func65 rfl Tryd.results65 (by kernel_rfl) Tryd.ntmps65)); exact rfl; exact rfl; exact rfl; exact rfl)
 | (refine back_ret rfl ?_)
 | ((with_reducible apply r_makefn); exact rfl; exact rfl)
 | ((with_reducible apply aw_seq))
 | ((with_reducible apply aw_region))
 | ((with_reducible apply aw_block))
 | ((with_reducible apply thn_normal))
 | ((with_reducible apply aw_skip))
 | ((with_reducible apply aw_ret))
 | ((with_reducible apply ao_nil))
 | ((with_reducible apply r_move); exact rfl; exact rfl)
 | ((with_reducible apply r_assign); exact rfl; exact rfl)
 | ((with_reducible apply r_neq); exact rfl; exact rfl; exact rfl)
 | ((with_reducible apply r_add); exact rfl; exact rfl; exact (by first | assumption | (unfold fits; omega)); exact rfl)
 | ((with_reducible apply r_pick_f); exact rfl; exact rfl; exact rfl)
 | ((with_reducible apply r_len_f); exact rfl; exact inferInstance; exact rfl)
 | ((with_reducible apply r_store_p); exact rfl; exact rfl; exact rfl; exact rfl; exact rfl; exact rfl)
 | ((with_reducible apply r_alloc); exact rfl)
 | (((with_reducible apply r_guard); exact rfl; exact rfl; exact rfl; exact rfl) <;> intro hg <;> (first | (exact absurd hg (by decide)) | ((try simp only [decide_eq_true_eq, decide_eq_false_iff_not, Bool.not_eq_true', Bool.not_eq_false', Bool.not_true, Bool.not_false, Bool.not_not, Int.not_lt, Int.not_le, Nat.not_lt, Nat.not_le, gt_iff_lt, ge_iff_le, List.cons.injEq, and_true] at hg); first | (exact absurd trivial hg) | (exfalso; omega) | (have hT : True := hg; clear hT hg) | skip)))
 | (((with_reducible apply aw_cond); exact rfl) <;> intro hg <;> (first | (exact absurd hg (by decide)) | ((try simp only [decide_eq_true_eq, decide_eq_false_iff_not, Bool.not_eq_true', Bool.not_eq_false', Bool.not_true, Bool.not_false, Bool.not_not, Int.not_lt, Int.not_le, Nat.not_lt, Nat.not_le, gt_iff_lt, ge_iff_le, List.cons.injEq, and_true] at hg); first | (exact absurd trivial hg) | (exfalso; omega) | (have hT : True := hg; clear hT hg) | skip)))
    )
  refine aw_loopG (G := Nat) (fun (k : Nat) => k ≤ K.length ∧ ∀ i (hi : i < K.length), i < k → decide (K[i].len ≤ m1 ∧ K[i].lo ≤ m2 ∧ m2 ≤ K[i].hi ∧ m3 ≤ K[i].taper ∧ m4 ≤ K[i].sweep ∧ m5 + m6 ≤ K[i].knots ∧ m7 ≤ K[i].rot) = false) (fun (k : Nat) => K.length - k) (fun (k : Nat) => [(0, .c (LK K)), (1, .fn 77 [.ptr 0 0, .ptr 1 0, .ptr 2 0, .ptr 3 0, .ptr 4 0, .ptr 5 0]), (7, A K.length), (8, A k)]) (fun (k : Nat) => [(0, MC 3 m1), (1, MC 3 m2), (2, MC 3 m3), (3, MC 3 m4), (4, MC 3 (m5 + m6)), (5, MC 3 m7)]) 6 0 ?_ (by refine weak_mk rfl ?_ ?_ <;> repeat (first | exact envW_nil | exact heapW_nil | refine envW_cons rfl rfl ?_ | refine heapW_cons rfl rfl rfl ?_)) rfl ?_
  · exact ⟨Nat.zero_le _, fun i _ h => absurd h (Nat.not_lt_zero _)⟩
  rintro k hI
  try dsimp only at hI
  try dsimp only
  obtain ⟨hkk, hall⟩ := hI
  by_cases hkl : k < K.length
  · have hso := hso k hkl
    repeat' (first
 | ((with_reducible apply (r_inF Tryd.func77 rfl Tryd.results77 (by kernel_rfl) Tryd.ntmps77)); exact rfl; exact rfl; exact rfl; exact rfl; exact rfl)
 | (refine back_ret rfl ?_)
 | ((with_reducible apply aw_seq))
 | ((with_reducible apply aw_region))
 | ((with_reducible apply aw_block))
 | ((with_reducible apply thn_normal))
 | ((with_reducible apply thn_ret))
 | ((with_reducible apply inb_normal))
 | ((with_reducible apply inb_ret))
 | ((with_reducible apply aw_skip))
 | ((with_reducible apply aw_ret))
 | ((with_reducible apply ao_nil))
 | ((with_reducible apply r_move); exact rfl; exact rfl)
 | ((with_reducible apply r_assign); exact rfl; exact rfl)
 | ((with_reducible apply r_field_p); exact rfl; exact rfl)
 | ((with_reducible apply r_load_p); exact rfl; exact rfl; exact rfl; exact rfl)
 | ((with_reducible apply r_lss); exact rfl; exact rfl; exact rfl)
 | ((with_reducible apply r_leq); exact rfl; exact rfl; exact rfl)
 | ((with_reducible apply r_geq); exact rfl; exact rfl; exact rfl)
 | ((with_reducible apply r_add); exact rfl; exact rfl; exact (by first | assumption | (unfold fits; omega)); exact rfl)
 | ((with_reducible apply r_box_a); exact rfl; exact rfl)
 | ((with_reducible apply r_pick_t); exact rfl; exact rfl; exact rfl)
 | ((with_reducible apply r_pick_f); exact rfl; exact rfl; exact rfl)
 | ((with_reducible apply r_index_f); exact rfl; exact inferInstance; exact rfl; exact rfl; (first | assumption | omega); exact rfl)
 | ((with_reducible apply r_load_fa0); exact rfl; exact inferInstance; exact List.getElem?_eq_getElem (by first | assumption | omega); exact rfl; exact rfl; exact rfl)
 | (((with_reducible apply r_guard); exact rfl; exact rfl; exact rfl; exact rfl) <;> intro hg <;> (first | (exact absurd hg (by decide)) | ((try simp only [decide_eq_true_eq, decide_eq_false_iff_not, Bool.not_eq_true', Bool.not_eq_false', Bool.not_true, Bool.not_false, Bool.not_not, Int.not_lt, Int.not_le, Nat.not_lt, Nat.not_le, gt_iff_lt, ge_iff_le, List.cons.injEq, and_true] at hg); first | (exact absurd trivial hg) | (exfalso; omega) | (have hT : True := hg; clear hT hg) | skip)))
 | (((with_reducible apply aw_cond); exact rfl) <;> intro hg <;> (first | (exact absurd hg (by decide)) | ((try simp only [decide_eq_true_eq, decide_eq_false_iff_not, Bool.not_eq_true', Bool.not_eq_false', Bool.not_true, Bool.not_false, Bool.not_not, Int.not_lt, Int.not_le, Nat.not_lt, Nat.not_le, gt_iff_lt, ge_iff_le, List.cons.injEq, and_true] at hg); first | (exact absurd trivial hg) | (exfalso; omega) | (have hT : True := hg; clear hT hg) | skip)))
      )
    all_goals first
      | (rw [hso (decide_eq_true (by omega)) hall]; exact ret2 (.cons (.tmp rfl cl_c) (.cons (.tmp rfl cl_c) .nil)))
      | skip
    all_goals
      refine ⟨k + 1, ?_, ?_, by refine weak_mk rfl ?_ ?_ <;> repeat (first | exact envW_nil | exact heapW_nil | refine envW_cons rfl rfl ?_ | refine heapW_cons rfl rfl rfl ?_)⟩
      · show _ - (k + 1) < _ - k; omega
      · refine ⟨by show k + 1 ≤ _; omega, fun i hi hik => ?_⟩
        by_cases he : i = k
        · subst he; rw [decide_eq_false_iff_not]; omega
        · exact hall i hi (by omega)
  · rw [hno (fun j hj => hall j hj (by omega))]
    repeat' (first
 | (refine back_ret rfl ?_)
 | ((with_reducible apply aw_seq))
 | ((with_reducible apply aw_region))
 | ((with_reducible apply thn_normal))
 | ((with_reducible apply thn_ret))
 | ((with_reducible apply thn_exit))
 | ((with_reducible apply inb_exit))
 | ((with_reducible apply aw_exit))
 | ((with_reducible apply aw_ret))
 | ((with_reducible apply ao_nil))
 | ((with_reducible apply r_move); exact rfl; exact rfl)
 | ((with_reducible apply r_assign); exact rfl; exact rfl)
 | ((with_reducible apply r_lss); exact rfl; exact rfl; exact rfl)
 | (((with_reducible apply aw_cond); exact rfl) <;> intro hg <;> (first | (exact absurd hg (by decide)) | ((try simp only [decide_eq_true_eq, decide_eq_false_iff_not, Bool.not_eq_true', Bool.not_eq_false', Bool.not_true, Bool.not_false, Bool.not_not, Int.not_lt, Int.not_le, Nat.not_lt, Nat.not_le, gt_iff_lt, ge_iff_le, List.cons.injEq, and_true] at hg); first | (exact absurd trivial hg) | (exfalso; omega) | (have hT : True := hg; clear hT hg) | skip)))
      )
    exact ret2 (.cons (.tmp rfl cl_c) (.cons (.tmp rfl cl_c) .nil))
end Go.Proofs.YtkhljpbkebnnmaaDoor.Ge
/- Walks of classes: Price in both, and what the laws ask: few, short, looser. -/
namespace Go.Proofs.YtkhljpbkebnnmaaDoor.Ge
set_option linter.unusedVariables false
set_option linter.unusedSimpArgs false
open Go.RowKit Go.Proofs.YtkhljpbkebnnmaaDoor.Ev
variable {gl : List (Nat × List CV)}

theorem klGo_ok : ∀ (l p : List Kl), klGo p l = 0 → ∀ c ∈ l, inR c = true
  | [], _, _, c, hc => by cases hc
  | x :: l, p, h, c, hc => by
    unfold klGo at h
    split at h
    · cases h
    · split at h
      · cases h
      · split at h
        · cases h
        · rename_i h3
          rcases List.mem_cons.1 hc with rfl | hc
          · simpa using h3
          · exact klGo_ok l _ h c hc
theorem kl_ok {l : List Kl} (h : klChk l = 0) : ∀ c ∈ l, inR c = true := by
  unfold klChk at h
  split at h
  · cases h
  · exact klGo_ok l [] h
theorem price_bd {c : Kl} (h : inR c = true) : 0 ≤ c.price ∧ c.price ≤ 1000000 := by
  rw [inR_bits] at h
  simp only [Bool.and_eq_true, million, decide_eq_true_eq] at h
  exact h.1.2.2.2.2.2.2.2.1
theorem volS_bd (l : List Slc) : 0 ≤ volS l ∧ volS l ≤ 700000000000 := by
  unfold volS
  by_cases h : solChk l = 0
  · rw [valL_ok h]
    have v := sol_V h
    have := sumN_bd (f := fun i => lenD l i * areaV (secD l i)) (c := 28800000000) (n := l.length) (fun i hi => vol_bd v hi) _ (Nat.le_refl _)
    have h2 := v.n
    unfold volV
    omega
  · rw [valL_no h]; decide
def priceR (K : List Kl) (v : Int) (r : Int × Bool) : Int := if r.2 then ((K.getD r.1.toNat ⟨⟨#[]⟩, 0, 0, 0, 0, 0, 0, 0, 0⟩).price * v) / 1000000000 else 0
noncomputable def priceS (K : List Kl) (l : List Slc) (d : List Dfc) : Int := priceR K (volS l) (ofS K l d)
theorem of_cases (K : List Kl) (l : List Slc) (d : List Dfc) : ofS K l d = (0, false) ∨ ∃ i, ∃ hi : i < K.length, klChk K = 0 ∧ ofS K l d = ((i : Int), true) ∧ fitS l d K[i] = true ∧ ∀ j (hj : j < K.length), j < i → fitS l d K[j] = false := by
  unfold ofS ofN
  by_cases hk : klChk K = 0
  · rw [if_pos hk]
    cases hf : K.findIdx? (fitS l d) with
    | none => exact .inl rfl
    | some i =>
      obtain ⟨h1, h2, h3⟩ := (List.findIdx?_eq_some_iff_getElem).1 hf
      exact .inr ⟨i, h1, hk, rfl, h2, fun j hj hji => by simpa using h3 j hji⟩
  · rw [if_neg hk]; exact .inl rfl
theorem mulp_bd {p v : Int} (hp : 0 ≤ p ∧ p ≤ 1000000) (hv : 0 ≤ v ∧ v ≤ 700000000000) : 0 ≤ p * v ∧ p * v ≤ 700000000000000000 := mul_bd2 (m := 1000000) (k := 700000000000) hp hv
theorem priceS_some {K : List Kl} {l : List Slc} {d : List Dfc} {i : Nat} (hi : i < K.length) (h : ofS K l d = ((i : Int), true)) : priceS K l d = K[i].price * volS l / 1000000000 := by
  unfold priceS priceR
  rw [h]
  simp [List.getD_eq_getElem?_getD, hi]
theorem priceS_none {K : List Kl} {l : List Slc} {d : List Dfc} (h : ofS K l d = (0, false)) : priceS K l d = 0 := by
  unfold priceS priceR
  rw [h]; rfl
theorem tdivB {a : Int} (h : 0 ≤ a) : a.tdiv 1000000000 = a / 1000000000 := Int.tdiv_eq_ediv_of_nonneg h
set_option maxRecDepth 100000 in
set_option maxHeartbeats 8000000 in
theorem price_con (K : List Kl) (l : List Slc) (d : List Dfc) (hK : K.length ≤ maxLen) (hl : l.length ≤ maxLen) (hd : d.length ≤ maxLen) : Con Tryd.prog gl 26 [LK K, LL l, LD d] (I (priceS K l d)) := by
  have c0 := of_con (gl := gl) K l d hK hl hd
  have c1 := svolume_con (gl := gl) l hl
  have hv := volS_bd l
  have hK2 := hK
  unfold maxLen at hK2
  refine con_of Tryd.func26 rfl (by kernel_rfl) rfl ?_
  simp only [Tryd.ntmps26, Tryd.results26, argEnv, ofC, of1, List.map]
  rcases of_cases K l d with h | ⟨i, hi, hk, h, _, _⟩
  · rw [priceS_none h]
    rw [h] at c0
    change Con _ _ _ _ (.tup [I 0, .v (.bool false)]) at c0
    repeat' (first
 | ((with_reducible apply r_call); exact rfl; exact rfl; exact c0; exact rfl; exact rfl)
 | ((with_reducible apply aw_seq))
 | ((with_reducible apply aw_region))
 | ((with_reducible apply thn_normal))
 | ((with_reducible apply thn_ret))
 | ((with_reducible apply aw_ret))
 | ((with_reducible apply ao_nil))
 | ((with_reducible apply r_move); exact rfl; exact rfl)
 | ((with_reducible apply r_assign); exact rfl; exact rfl)
 | ((with_reducible apply r_not); exact rfl; exact rfl)
 | ((with_reducible apply r_extract); exact rfl; exact rfl; exact rfl)
 | (((with_reducible apply aw_cond); exact rfl) <;> intro hg <;> (first | (exact absurd hg (by decide)) | ((try simp only [decide_eq_true_eq, decide_eq_false_iff_not, Bool.not_eq_true', Bool.not_eq_false', Bool.not_true, Bool.not_false, Bool.not_not, Int.not_lt, Int.not_le, Nat.not_lt, Nat.not_le, gt_iff_lt, ge_iff_le, List.cons.injEq, and_true] at hg); first | (exact absurd trivial hg) | (exfalso; omega) | (have hT : True := hg; clear hT hg) | skip)))
      )
    all_goals exact ret_i rfl rfl
  · rw [priceS_some hi h]
    rw [h] at c0
    change Con _ _ _ _ (.tup [I (i : Int), .v (.bool true)]) at c0
    have hp := price_bd (kl_ok hk K[i] (List.getElem_mem _))
    have hm := mulp_bd hp hv
    have hq := tdivB hm.1
    revert c1 hv hm hq
    generalize volS l = v
    intro c1 hv hm hq
    have hf : fits (K[i].price * v) := by unfold fits; omega
    have hf2 : fits ((K[i].price * v).tdiv 1000000000) := by rw [hq]; unfold fits; omega
    repeat' (first
 | ((with_reducible apply r_call); exact rfl; exact rfl; (first | exact c0 | exact c1); exact rfl; exact rfl)
 | ((with_reducible apply r_quo); exact rfl; exact rfl; exact (by decide); exact hf2; exact rfl)
 | ((with_reducible apply aw_seq))
 | ((with_reducible apply aw_region))
 | ((with_reducible apply thn_normal))
 | ((with_reducible apply aw_skip))
 | ((with_reducible apply aw_ret))
 | ((with_reducible apply ao_nil))
 | ((with_reducible apply r_move); exact rfl; exact rfl)
 | ((with_reducible apply r_assign); exact rfl; exact rfl)
 | ((with_reducible apply r_mul); exact rfl; exact rfl; exact (by first | assumption | (unfold fits; omega)); exact rfl)
 | ((with_reducible apply r_not); exact rfl; exact rfl)
 | ((with_reducible apply r_index_f); exact rfl; exact inferInstance; exact rfl; exact rfl; (first | assumption | omega); exact rfl)
 | ((with_reducible apply r_load_f); exact rfl; exact inferInstance; exact List.getElem?_eq_getElem (by first | assumption | omega); exact rfl; exact rfl; exact rfl)
 | ((with_reducible apply r_field_e); exact rfl; exact rfl)
 | ((with_reducible apply r_extract); exact rfl; exact rfl; exact rfl)
 | (((with_reducible apply aw_cond); exact rfl) <;> intro hg <;> (first | (exact absurd hg (by decide)) | ((try simp only [decide_eq_true_eq, decide_eq_false_iff_not, Bool.not_eq_true', Bool.not_eq_false', Bool.not_true, Bool.not_false, Bool.not_not, Int.not_lt, Int.not_le, Nat.not_lt, Nat.not_le, gt_iff_lt, ge_iff_le, List.cons.injEq, and_true] at hg); first | (exact absurd trivial hg) | (exfalso; omega) | (have hT : True := hg; clear hT hg) | skip)))
 | (refine aw_drawq ?_ ?_; (kernel_rfl))
 | ((with_reducible apply ds_nil))
      )
    all_goals exact ret_i rfl hq
end Go.Proofs.YtkhljpbkebnnmaaDoor.Ge
