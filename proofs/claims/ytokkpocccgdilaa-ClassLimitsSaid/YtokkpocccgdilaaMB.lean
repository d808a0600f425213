/- Walks of classes: the range of the numbers. -/
import Derived.Test.YtokkpocccgdilaaMA
import Derived.Test.YtokkpocccgdilaaEv29
namespace Go.Proofs.Ytokkpocccgdilaa.Ge
set_option linter.unusedVariables false
set_option linter.unusedSimpArgs false
open Go.RowKit Go.Proofs.Ytokkpocccgdilaa.Ev
variable {gl : List (Nat × List CV)}

/-- A class: its name, and the eight numbers in the struct's order. -/
structure Kl where
  name : ByteArray
  len : Int
  lo : Int
  hi : Int
  taper : Int
  sweep : Int
  knots : Int
  rot : Int
  price : Int
def klC (c : Kl) : List CV := [STR c.name, I c.len, I c.lo, I c.hi, I c.taper, I c.sweep, I c.knots, I c.rot, I c.price]
instance : EncL klC 9 := ⟨fun _ => rfl, by decide, fun _ => rfl⟩
def Kl.nums (c : Kl) : List Int := [c.len, c.lo, c.hi, c.taper, c.sweep, c.knots, c.rot, c.price]
def million (n : Int) : Bool := decide (0 ≤ n ∧ n ≤ 1000000)
def inR (c : Kl) : Bool := c.nums.all million && decide (c.lo ≤ c.hi)
theorem nums_get (c : Kl) (k : Nat) (h : k < 8) : ([A c.len, A c.lo, A c.hi, A c.taper, A c.sweep, A c.knots, A c.rot, A c.price] : List AV)[k]? = some (A (c.nums.getD k 0)) := by
  match k, h with
  | 0, _ => rfl
  | 1, _ => rfl
  | 2, _ => rfl
  | 3, _ => rfl
  | 4, _ => rfl
  | 5, _ => rfl
  | 6, _ => rfl
  | 7, _ => rfl
theorem nums_bad (c : Kl) (k : Nat) (h : k < 8) (hm : million (c.nums.getD k 0) = false) : c.nums.all million = false := by
  have hl : k < c.nums.length := h
  rw [List.getD_eq_getElem?_getD, List.getElem?_eq_getElem hl] at hm
  exact all_not hl hm
theorem nums_all (c : Kl) (h : ∀ i, i < 8 → million (c.nums.getD i 0) = true) : c.nums.all million = true := by
  refine all_of (fun i hi => ?_)
  have := h i hi
  rw [List.getD_eq_getElem?_getD, List.getElem?_eq_getElem hi] at this
  exact this
instance : ArrT Try.prog 69 8 := ⟨by decide +kernel⟩
instance : ArrB Try.prog 69 [(0, 1), (1, 1), (2, 1), (3, 1), (4, 1), (5, 1), (6, 1), (7, 1)] [.int .i64 0, .int .i64 0, .int .i64 0, .int .i64 0, .int .i64 0, .int .i64 0, .int .i64 0, .int .i64 0] := ⟨by kernel_rfl⟩
set_option maxRecDepth 100000 in
set_option maxHeartbeats 4000000 in
theorem kInR_con (c : Kl) : Con Try.prog gl 26 [.agg [STR c.name, I c.len, I c.lo, I c.hi, I c.taper, I c.sweep, I c.knots, I c.rot, I c.price]] (.v (.bool (inR c))) := by
  refine con_of Try.func26 rfl (by kernel_rfl) rfl ?_
  simp only [Try.ntmps26, Try.results26, argEnv, ofC, of1, List.map]
  repeat' (first
    | ((with_reducible apply (r_build_arr (out := [A c.len, A c.lo, A c.hi, A c.taper, A c.sweep, A c.knots, A c.rot, A c.price]))); exact rfl; exact rfl; exact rfl)
    | ((with_reducible apply aw_seq))
    | ((with_reducible apply aw_region))
    | ((with_reducible apply aw_block))
    | ((with_reducible apply thn_normal))
    | ((with_reducible apply ao_nil))
    | ((with_reducible apply r_move); exact rfl; exact rfl)
    | ((with_reducible apply r_assign); exact rfl; exact rfl)
    | ((with_reducible apply r_field_p); exact rfl; exact rfl)
    | ((with_reducible apply r_load_p); exact rfl; exact rfl; exact rfl; exact rfl)
    | ((with_reducible apply r_box_a); exact rfl; exact rfl)
    )
  refine aw_loopG (G := Nat) (fun (k : Nat) => k ≤ 8 ∧ ∀ i, i < k → million (c.nums.getD i 0) = true) (fun (k : Nat) => 8 - k) (fun (k : Nat) => [(21, .agg [A c.len, A c.lo, A c.hi, A c.taper, A c.sweep, A c.knots, A c.rot, A c.price]), (22, A k), (1, .ptr 0 0), (2, .c (.v (.bool false)))]) (fun (k : Nat) => [(0, some (.cells 28 [.c (STR c.name), A c.len, A c.lo, A c.hi, A c.taper, A c.sweep, A c.knots, A c.rot, A c.price]))]) 1 0 ?_ (by refine weak_mk rfl ?_ ?_ <;> repeat (first | exact envW_nil | exact heapW_nil | refine envW_cons rfl rfl ?_ | refine heapW_cons rfl rfl rfl ?_)) rfl ?_
  · exact ⟨Nat.zero_le _, fun i h => absurd h (Nat.not_lt_zero _)⟩
  rintro k hI
  try dsimp only at hI
  try dsimp only
  obtain ⟨h8, hall⟩ := hI
  by_cases hk : k < 8
  · have hz : ([A c.len, A c.lo, A c.hi, A c.taper, A c.sweep, A c.knots, A c.rot, A c.price] : List AV)[k]? = some (A (c.nums.getD k 0)) := nums_get c k hk
    have hstep : million (c.nums.getD k 0) = true → ∀ i, i < k + 1 → million (c.nums.getD i 0) = true := fun hm i hi => by
      by_cases he : i = k
      · subst he; exact hm
      · exact hall i (by omega)
    have hstop : million (c.nums.getD k 0) = false → false = inR c := fun hm => by
      unfold inR
      rw [nums_bad c k hk hm]; rfl
    revert hz hstep hstop
    generalize c.nums.getD k 0 = z
    intro hz hstep hstop
    by_cases hm : 0 ≤ z ∧ z ≤ 1000000
    · skip
      repeat' (first
        | ((with_reducible apply (r_index_arr k)); exact rfl; exact rfl; exact rfl; exact hk; exact hz; exact rfl)
        | ((with_reducible apply aw_seq))
        | ((with_reducible apply aw_region))
        | ((with_reducible apply aw_block))
        | ((with_reducible apply thn_normal))
        | ((with_reducible apply inb_normal))
        | ((with_reducible apply aw_skip))
        | ((with_reducible apply ao_nil))
        | ((with_reducible apply r_move); exact rfl; exact rfl)
        | ((with_reducible apply r_assign); exact rfl; exact rfl)
        | ((with_reducible apply r_lss); exact rfl; exact rfl; exact rfl)
        | ((with_reducible apply r_gtr); exact rfl; exact rfl; exact rfl)
        | ((with_reducible apply r_add); exact rfl; exact rfl; exact (by first | assumption | (unfold fits; omega)); exact rfl)
        | ((with_reducible apply r_pick_f); exact rfl; exact rfl; exact rfl)
        | (((with_reducible apply r_guard); exact rfl; exact rfl; exact rfl; exact rfl) <;> intro hg <;> (first | (exact absurd hg (by decide)) | ((try simp only [decide_eq_true_eq, decide_eq_false_iff_not, Bool.not_eq_true', Bool.not_eq_false', Bool.not_true, Bool.not_false, Bool.not_not, Int.not_lt, Int.not_le, Nat.not_lt, Nat.not_le, gt_iff_lt, ge_iff_le, List.cons.injEq, and_true] at hg); first | (exact absurd trivial hg) | (exfalso; omega) | (have hT : True := hg; clear hT hg) | skip)))
        | (((with_reducible apply aw_cond); exact rfl) <;> intro hg <;> (first | (exact absurd hg (by decide)) | ((try simp only [decide_eq_true_eq, decide_eq_false_iff_not, Bool.not_eq_true', Bool.not_eq_false', Bool.not_true, Bool.not_false, Bool.not_not, Int.not_lt, Int.not_le, Nat.not_lt, Nat.not_le, gt_iff_lt, ge_iff_le, List.cons.injEq, and_true] at hg); first | (exact absurd trivial hg) | (exfalso; omega) | (have hT : True := hg; clear hT hg) | skip)))
        )
      all_goals
        refine ⟨k + 1, ?_, ?_, by refine weak_mk rfl ?_ ?_ <;> repeat (first | exact envW_nil | exact heapW_nil | refine envW_cons rfl rfl ?_ | refine heapW_cons rfl rfl rfl ?_)⟩
        · show 8 - (k + 1) < 8 - k; omega
        · exact ⟨by show k + 1 ≤ 8; omega, hstep (decide_eq_true hm)⟩
    · skip
      repeat' (first
        | ((with_reducible apply (r_index_arr k)); exact rfl; exact rfl; exact rfl; exact hk; exact hz; exact rfl)
        | ((with_reducible apply aw_seq))
        | ((with_reducible apply aw_region))
        | ((with_reducible apply aw_block))
        | ((with_reducible apply thn_normal))
        | ((with_reducible apply thn_ret))
        | ((with_reducible apply inb_ret))
        | ((with_reducible apply aw_skip))
        | ((with_reducible apply aw_ret))
        | ((with_reducible apply ao_nil))
        | ((with_reducible apply r_move); exact rfl; exact rfl)
        | ((with_reducible apply r_assign); exact rfl; exact rfl)
        | ((with_reducible apply r_lss); exact rfl; exact rfl; exact rfl)
        | ((with_reducible apply r_gtr); exact rfl; exact rfl; exact rfl)
        | ((with_reducible apply r_pick_t); exact rfl; exact rfl; exact rfl)
        | ((with_reducible apply r_pick_f); exact rfl; exact rfl; exact rfl)
        | (((with_reducible apply r_guard); exact rfl; exact rfl; exact rfl; exact rfl) <;> intro hg <;> (first | (exact absurd hg (by decide)) | ((try simp only [decide_eq_true_eq, decide_eq_false_iff_not, Bool.not_eq_true', Bool.not_eq_false', Bool.not_true, Bool.not_false, Bool.not_not, Int.not_lt, Int.not_le, Nat.not_lt, Nat.not_le, gt_iff_lt, ge_iff_le, List.cons.injEq, and_true] at hg); first | (exact absurd trivial hg) | (exfalso; omega) | (have hT : True := hg; clear hT hg) | skip)))
        | (((with_reducible apply aw_cond); exact rfl) <;> intro hg <;> (first | (exact absurd hg (by decide)) | ((try simp only [decide_eq_true_eq, decide_eq_false_iff_not, Bool.not_eq_true', Bool.not_eq_false', Bool.not_true, Bool.not_false, Bool.not_not, Int.not_lt, Int.not_le, Nat.not_lt, Nat.not_le, gt_iff_lt, ge_iff_le, List.cons.injEq, and_true] at hg); first | (exact absurd trivial hg) | (exfalso; omega) | (have hT : True := hg; clear hT hg) | skip)))
        )
      all_goals exact ret_b rfl (hstop (decide_eq_false hm))
  · obtain rfl : k = 8 := by omega
    have hall8 := nums_all c hall
    by_cases hlh : c.lo ≤ c.hi
    all_goals
      repeat' (first
        | ((with_reducible apply aw_seq))
        | ((with_reducible apply aw_region))
        | ((with_reducible apply thn_normal))
        | ((with_reducible apply thn_exit))
        | ((with_reducible apply inb_exit))
        | ((with_reducible apply aw_exit))
        | ((with_reducible apply aw_ret))
        | ((with_reducible apply ao_nil))
        | ((with_reducible apply r_assign); exact rfl; exact rfl)
        | ((with_reducible apply r_field_p); exact rfl; exact rfl)
        | ((with_reducible apply r_load_p); exact rfl; exact rfl; exact rfl; exact rfl)
        | ((with_reducible apply r_lss); exact rfl; exact rfl; exact rfl)
        | ((with_reducible apply r_leq); exact rfl; exact rfl; exact rfl)
        | (((with_reducible apply aw_cond); exact rfl) <;> intro hg <;> (first | (exact absurd hg (by decide)) | ((try simp only [decide_eq_true_eq, decide_eq_false_iff_not, Bool.not_eq_true', Bool.not_eq_false', Bool.not_true, Bool.not_false, Bool.not_not, Int.not_lt, Int.not_le, Nat.not_lt, Nat.not_le, gt_iff_lt, ge_iff_le, List.cons.injEq, and_true] at hg); first | (exact absurd trivial hg) | (exfalso; omega) | (have hT : True := hg; clear hT hg) | skip)))
        )
      exact ret_b rfl (by unfold inR; rw [hall8]; simp [hlh])
