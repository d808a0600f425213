/- JX JY JC JCb JU DiskPlain KitKeep KitMake: texts laid together. -/
import Derived.Test.YthkjkhffljlidaaMrgX1
import Derived.Test.YthkjkhffljlidaaMrgE0
import Derived.Maps.OwnSet
import Derived.OwnWalk
set_option maxRecDepth 100000
set_option maxHeartbeats 64000000
/- The journal: a group is divided into blocks, in the program and in the reference. -/
namespace Go.Proofs.Ythkjkhffljlidaa.Jo
set_option linter.unusedVariables false
set_option linter.unusedSimpArgs false
open Go.RowKit Go.Proofs.Ythkjkhffljlidaa.Ev
variable {gl : List (Nat × List CV)}
theorem hexS_size (n : Nat) : (hexS n).size = 16 := by
  show (Sm.digits n 16).toArray.size = 16
  simp [Sm.digits_len]
def divB (prev : Nat) (s : ByteArray) : List ByteArray × Nat :=
  if h : s.size = 0 then ([], prev)
  else
    ((hexS (chainS prev (restN (markB (decide (s.size ≤ 45))) (min s.size 45) (s.extract 0 (min s.size 45)))) ++ restN (markB (decide (s.size ≤ 45))) (min s.size 45) (s.extract 0 (min s.size 45))) :: (divB (chainS prev (restN (markB (decide (s.size ≤ 45))) (min s.size 45) (s.extract 0 (min s.size 45)))) (s.extract (min s.size 45) s.size)).1,
     (divB (chainS prev (restN (markB (decide (s.size ≤ 45))) (min s.size 45) (s.extract 0 (min s.size 45)))) (s.extract (min s.size 45) s.size)).2)
termination_by s.size
decreasing_by all_goals (rw [ByteArray.size_extract]; omega)
theorem divB_nil {prev : Nat} {s : ByteArray} (h : s.size = 0) : divB prev s = ([], prev) := by rw [divB, dif_pos h]
theorem divB_cons {prev n c : Nat} {s r : ByteArray} (h : s.size ≠ 0) (hn : n = min s.size 45) (hr : r = restN (markB (decide (s.size ≤ 45))) n (s.extract 0 n)) (hc : c = chainS prev r) : divB prev s = ((hexS c ++ r) :: (divB c (s.extract n s.size)).1, (divB c (s.extract n s.size)).2) := by
  subst hc; subst hr; subst hn
  conv => lhs; rw [divB]
  rw [dif_neg h]
theorem divB_len : ∀ (k prev : Nat) (s : ByteArray), s.size ≤ k → (divB prev s).1.length ≤ k ∧ (prev < 2 ^ 64 → (divB prev s).2 < 2 ^ 64)
  | 0, prev, s, h => by rw [divB_nil (by omega)]; exact ⟨Nat.zero_le _, fun h => h⟩
  | k + 1, prev, s, h => by
    by_cases h0 : s.size = 0
    · rw [divB_nil h0]; exact ⟨Nat.zero_le _, fun h => h⟩
    · rw [divB_cons h0 rfl rfl rfl]
      have hs : (s.extract (min s.size 45) s.size).size ≤ k := by rw [ByteArray.size_extract]; omega
      obtain ⟨h1, h2⟩ := divB_len k (chainS prev (restN (markB (decide (s.size ≤ 45))) (min s.size 45) (s.extract 0 (min s.size 45)))) _ hs
      exact ⟨by simp only [List.length_cons]; omega, fun _ => h2 (chainS_lt _ _)⟩
def streamL (g : List ByteArray) : List UInt8 := g.flatMap (fun s => (textS s).data.toList)
def streamB (g : List ByteArray) : ByteArray := ⟨(streamL g).toArray⟩
theorem streamL_succ {g : List ByteArray} {j : Nat} (hj : j < g.length) : streamL (g.take (j + 1)) = streamL (g.take j) ++ (textS g[j]).data.toList := by
  unfold streamL
  rw [List.take_succ_eq_append_getElem hj, List.flatMap_append]; simp
theorem streamL_len {g : List ByteArray} (h : ∀ i (hi : i < g.length), g[i].size ≤ 16384) : ∀ j ≤ g.length, (streamL (g.take j)).length ≤ j * 16394
  | 0, _ => by simp [streamL]
  | j + 1, hj => by
    have h1 := streamL_len h j (by omega)
    rw [streamL_succ hj, List.length_append, ba_size]
    have := textS_size (s := g[j]) (by have := h j hj; omega)
    have := h j hj
    omega
def divS (prev : Nat) (g : List ByteArray) : List ByteArray × Nat × Int := if chkS g ≠ 0 then ([], 0, chkS g) else ((divB prev (streamB g)).1, (divB prev (streamB g)).2, 0)
theorem chk_any {g : List ByteArray} (h0 : g ≠ []) (h1 : ¬ 32 < g.length) (h : g.any (fun s => decide (16384 < s.size)) = true) : chkS g = 4 := by
  unfold chkS; rw [if_neg h0, if_neg h1, if_pos h]
theorem chk_ok {g : List ByteArray} (h0 : g ≠ []) (h1 : ¬ 32 < g.length) (h : ∀ i (hi : i < g.length), g[i].size ≤ 16384) : chkS g = 0 := by
  unfold chkS; rw [if_neg h0, if_neg h1, any_not h]; rfl
theorem chk_z {g : List ByteArray} (h : chkS g = 0) : g ≠ [] ∧ g.length ≤ 32 ∧ ∀ i (hi : i < g.length), g[i].size ≤ 16384 := by
  unfold chkS at h
  split at h
  · cases h
  rename_i h0
  split at h
  · cases h
  rename_i h1
  split at h
  · cases h
  rename_i h2
  refine ⟨h0, by omega, fun i hi => ?_⟩
  rcases Nat.lt_or_ge 16384 g[i].size with h3 | h3
  · exact absurd (any_far hi h3) h2
  · exact h3
theorem quo10 {n : Nat} : (n : Int).tdiv 10 = ((n / 10 : Nat) : Int) := by rw [Int.tdiv_eq_ediv_of_nonneg (by omega)]; omega
theorem rem10 {n : Nat} : (n : Int).tmod 10 = ((n % 10 : Nat) : Int) := by rw [Int.tmod_eq_emod_of_nonneg (by omega)]; omega
theorem conv8 {m : Nat} (h : m < 256) : IntKind.u8.wrap (m : Int) = (m : Int) := by
  simp [IntKind.wrap, IntKind.bits, IntKind.signed]; omega
theorem dig8 {m : Nat} (h : m < 10) : IntKind.u8.wrap (48 + (m : Int)) = (((UInt8.ofNat (48 + m)).toNat : Nat) : Int) := by
  rw [show (48 + (m : Int)) = ((48 + m : Nat) : Int) by push_cast; rfl]; exact wrap8 (by omega)
theorem divide_con (prev : Nat) (hp : prev < 2 ^ 64) (g : List ByteArray) (hg : g.length ≤ 1000000000000) : Con Try.prog gl 42 [U prev, LT g] (.tup [LT (divS prev g).1, U (divS prev g).2.1, I (divS prev g).2.2]) := by
  refine con_of Try.func42 rfl (by kernel_rfl) rfl ?_
  simp only [Try.ntmps42, Try.results42, argEnv, ofC, of1, List.map]
  by_cases h0 : g = []
  · subst h0
    repeat' (first
 | ((with_reducible apply aw_seq))
 | ((with_reducible apply aw_region))
 | ((with_reducible apply thn_normal))
 | ((with_reducible apply thn_ret))
 | ((with_reducible apply aw_ret))
 | ((with_reducible apply ao_nil))
 | ((with_reducible apply r_move); exact rfl; exact rfl)
 | ((with_reducible apply r_assign); exact rfl; exact rfl)
 | ((with_reducible apply r_eql); exact rfl; exact rfl; exact rfl)
 | ((with_reducible apply r_len_f); exact rfl; exact inferInstance; exact rfl)
 | (((with_reducible apply aw_cond); exact rfl) <;> intro hg <;> (first | (exact absurd hg (by decide)) | ((try simp only [decide_eq_true_eq, decide_eq_false_iff_not, Bool.not_eq_true', Bool.not_eq_false', Bool.not_true, Bool.not_false, Bool.not_not, Int.not_lt, Int.not_le, Nat.not_lt, Nat.not_le, gt_iff_lt, ge_iff_le, List.cons.injEq, and_true] at hg); first | (exact absurd trivial hg) | (exfalso; omega) | (have hT : True := hg; clear hT hg) | skip)))
 )
    all_goals exact ret2 (.cons (.tmp rfl cl_none) (.cons (.tmp rfl cl_c) (.cons (.tmp rfl cl_c) .nil)))
  have hpos : 0 < g.length := List.length_pos_iff.2 h0
  by_cases h1 : 32 < g.length
  · have hc : chkS g = 4 := by unfold chkS; rw [if_neg h0, if_pos h1]
    unfold divS; rw [hc]
    repeat' (first
 | ((with_reducible apply aw_seq))
 | ((with_reducible apply aw_region))
 | ((with_reducible apply thn_normal))
 | ((with_reducible apply thn_ret))
 | ((with_reducible apply aw_skip))
 | ((with_reducible apply aw_ret))
 | ((with_reducible apply ao_nil))
 | ((with_reducible apply r_move); exact rfl; exact rfl)
 | ((with_reducible apply r_assign); exact rfl; exact rfl)
 | ((with_reducible apply r_gtr); exact rfl; exact rfl; exact rfl)
 | ((with_reducible apply r_eql); exact rfl; exact rfl; exact rfl)
 | ((with_reducible apply r_len_f); exact rfl; exact inferInstance; exact rfl)
 | (((with_reducible apply aw_cond); exact rfl) <;> intro hg <;> (first | (exact absurd hg (by decide)) | ((try simp only [decide_eq_true_eq, decide_eq_false_iff_not, Bool.not_eq_true', Bool.not_eq_false', Bool.not_true, Bool.not_false, Bool.not_not, Int.not_lt, Int.not_le, Nat.not_lt, Nat.not_le, gt_iff_lt, ge_iff_le, List.cons.injEq, and_true] at hg); first | (exact absurd trivial hg) | (exfalso; omega) | (have hT : True := hg; clear hT hg) | skip)))
 )
    all_goals exact ret2 (.cons (.tmp rfl cl_none) (.cons (.tmp rfl cl_c) (.cons (.tmp rfl cl_c) .nil)))
  repeat' (first
 | ((with_reducible apply aw_seq))
 | ((with_reducible apply aw_region))
 | ((with_reducible apply aw_block))
 | ((with_reducible apply thn_normal))
 | ((with_reducible apply aw_skip))
 | ((with_reducible apply ao_nil))
 | ((with_reducible apply r_move); exact rfl; exact rfl)
 | ((with_reducible apply r_assign); exact rfl; exact rfl)
 | ((with_reducible apply r_gtr); exact rfl; exact rfl; exact rfl)
 | ((with_reducible apply r_eql); exact rfl; exact rfl; exact rfl)
 | ((with_reducible apply r_len_f); exact rfl; exact inferInstance; exact rfl)
 | ((with_reducible apply r_alloc); exact rfl)
 | (((with_reducible apply aw_cond); exact rfl) <;> intro hg <;> (first | (exact absurd hg (by decide)) | ((try simp only [decide_eq_true_eq, decide_eq_false_iff_not, Bool.not_eq_true', Bool.not_eq_false', Bool.not_true, Bool.not_false, Bool.not_not, Int.not_lt, Int.not_le, Nat.not_lt, Nat.not_le, gt_iff_lt, ge_iff_le, List.cons.injEq, and_true] at hg); first | (exact absurd trivial hg) | (exfalso; omega) | (have hT : True := hg; clear hT hg) | skip)))
 )
  refine aw_boxObj 0 (t := TB) (vs := [.pointer none, .slice none 0 0]) (p := bldP []) rfl bld_new ?_
  refine aw_loopG (G := Nat) (fun (j : Nat) => j ≤ g.length ∧ ∀ i (hi : i < g.length), i < j → g[i].size ≤ 16384) (fun (j : Nat) => g.length - j) (fun (j : Nat) => [(0, .c (U prev)), (7, .ptr 0 0), (23, .c (LT g)), (24, A g.length), (25, A j)]) (fun (j : Nat) => [(0, some (.obj (bldP (streamL (g.take j)))))]) 1 0 ?_ (by refine weak_mk rfl ?_ ?_ <;> repeat (first | exact envW_nil | exact heapW_nil | refine envW_cons rfl rfl ?_ | refine heapW_cons rfl rfl rfl ?_)) rfl ?_
  · exact ⟨Nat.zero_le _, fun i _ h => absurd h (Nat.not_lt_zero _)⟩
  rintro j hI
  try dsimp only at hI
  try dsimp only
  obtain ⟨h2, h3⟩ := hI
  by_cases hj : j < g.length
  · by_cases hb : 16384 < g[j].size
    · have hc := chk_any h0 h1 (any_far hj hb)
      unfold divS; rw [hc]
      repeat' (first
 | ((with_reducible apply r_len_s); exact rfl; exact rfl)
 | ((with_reducible apply aw_seq))
 | ((with_reducible apply aw_region))
 | ((with_reducible apply aw_block))
 | ((with_reducible apply thn_normal))
 | ((with_reducible apply thn_ret))
 | ((with_reducible apply inb_ret))
 | ((with_reducible apply aw_skip))
 | ((with_reducible apply aw_ret))
 | ((with_reducible apply ao_nil))
 | ((with_reducible apply r_move); exact rfl; exact rfl)
 | ((with_reducible apply r_assign); exact rfl; exact rfl)
 | ((with_reducible apply r_lss); exact rfl; exact rfl; exact rfl)
 | ((with_reducible apply r_gtr); exact rfl; exact rfl; exact rfl)
 | ((with_reducible apply r_index_f); exact rfl; exact inferInstance; exact rfl; exact rfl; (first | assumption | omega); exact rfl)
 | ((with_reducible apply r_load_f0); exact rfl; exact inferInstance; exact List.getElem?_eq_getElem (by first | assumption | omega); exact rfl; exact rfl)
 | (((with_reducible apply aw_cond); exact rfl) <;> intro hg <;> (first | (exact absurd hg (by decide)) | ((try simp only [decide_eq_true_eq, decide_eq_false_iff_not, Bool.not_eq_true', Bool.not_eq_false', Bool.not_true, Bool.not_false, Bool.not_not, Int.not_lt, Int.not_le, Nat.not_lt, Nat.not_le, gt_iff_lt, ge_iff_le, List.cons.injEq, and_true] at hg); first | (exact absurd trivial hg) | (exfalso; omega) | (have hT : True := hg; clear hT hg) | skip)))
 )
      all_goals exact ret2 (.cons (.tmp rfl cl_none) (.cons (.tmp rfl cl_c) (.cons (.tmp rfl cl_c) .nil)))
    · have c0 := text_con (gl := gl) g[j] (by omega)
      have hlen : (streamL (g.take j)).length ≤ j * 16394 := by
        have := streamL_len (g := g.take j) (fun i hi => by
          rw [List.getElem_take]; exact h3 i (by rw [List.length_take] at hi; omega) (by rw [List.length_take] at hi; omega)) j (by rw [List.length_take]; omega)
        rwa [List.take_take, Nat.min_self] at this
      have hts := textS_size (s := g[j]) (by omega)
      have c1 := bld_write (gl := gl) (streamL (g.take j)) (textS g[j]) (by omega)
      rw [← streamL_succ hj] at c1
      repeat' (first
 | ((with_reducible apply r_len_s); exact rfl; exact rfl)
 | ((with_reducible apply r_call); exact rfl; exact rfl; exact c0; exact rfl; exact rfl)
 | ((with_reducible apply (r_callO 0)); exact c1; exact rfl; exact rfl; exact rfl; exact rfl)
 | ((with_reducible apply aw_seq))
 | ((with_reducible apply aw_region))
 | ((with_reducible apply aw_block))
 | ((with_reducible apply thn_normal))
 | ((with_reducible apply inb_normal))
 | ((with_reducible apply aw_skip))
 | ((with_reducible apply ao_nil))
 | ((with_reducible apply r_move); exact rfl; exact rfl)
 | ((with_reducible apply r_assign); exact rfl; exact rfl)
 | ((with_reducible apply r_lss); exact rfl; exact rfl; exact rfl)
 | ((with_reducible apply r_gtr); exact rfl; exact rfl; exact rfl)
 | ((with_reducible apply r_add); exact rfl; exact rfl; exact (by first | assumption | (unfold fits; omega)); exact rfl)
 | ((with_reducible apply r_index_f); exact rfl; exact inferInstance; exact rfl; exact rfl; (first | assumption | omega); exact rfl)
 | ((with_reducible apply r_load_f0); exact rfl; exact inferInstance; exact List.getElem?_eq_getElem (by first | assumption | omega); exact rfl; exact rfl)
 | (((with_reducible apply aw_cond); exact rfl) <;> intro hg <;> (first | (exact absurd hg (by decide)) | ((try simp only [decide_eq_true_eq, decide_eq_false_iff_not, Bool.not_eq_true', Bool.not_eq_false', Bool.not_true, Bool.not_false, Bool.not_not, Int.not_lt, Int.not_le, Nat.not_lt, Nat.not_le, gt_iff_lt, ge_iff_le, List.cons.injEq, and_true] at hg); first | (exact absurd trivial hg) | (exfalso; omega) | (have hT : True := hg; clear hT hg) | skip)))
 )
      refine ⟨j + 1, ?_, ?_, by refine weak_mk rfl ?_ ?_ <;> repeat (first | exact envW_nil | exact heapW_nil | refine envW_cons rfl rfl ?_ | refine heapW_cons rfl rfl rfl ?_)⟩
      · show _ - (j + 1) < _ - j; omega
      · refine ⟨hj, fun i hi h => ?_⟩
        by_cases e : i = j
        · subst e; omega
        · exact h3 i hi (by have : i < j + 1 := h; omega)
  · have hall : ∀ i (hi : i < g.length), g[i].size ≤ 16384 := fun i hi => h3 i hi (by omega)
    have hc := chk_ok h0 h1 hall
    have c2 := bld_string (gl := gl) (streamL g)
    have hsl : (streamB g).size ≤ 1000000 := by
      have := streamL_len hall g.length (Nat.le_refl _)
      rw [List.take_length] at this
      show (streamL g).toArray.size ≤ _
      simp only [List.size_toArray]; omega
    obtain rfl : j = g.length := by omega
    rw [List.take_length]
    repeat' (first
 | ((with_reducible apply (r_callO 0)); exact c2; exact rfl; exact rfl; exact rfl; exact rfl)
 | ((with_reducible apply aw_seq))
 | ((with_reducible apply aw_region))
 | ((with_reducible apply aw_block))
 | ((with_reducible apply thn_normal))
 | ((with_reducible apply thn_exit))
 | ((with_reducible apply inb_exit))
 | ((with_reducible apply aw_exit))
 | ((with_reducible apply ao_nil))
 | ((with_reducible apply r_move); exact rfl; exact rfl)
 | ((with_reducible apply r_assign); exact rfl; exact rfl)
 | ((with_reducible apply r_lss); exact rfl; exact rfl; exact rfl)
 | (((with_reducible apply aw_cond); exact rfl) <;> intro hg <;> (first | (exact absurd hg (by decide)) | ((try simp only [decide_eq_true_eq, decide_eq_false_iff_not, Bool.not_eq_true', Bool.not_eq_false', Bool.not_true, Bool.not_false, Bool.not_not, Int.not_lt, Int.not_le, Nat.not_lt, Nat.not_le, gt_iff_lt, ge_iff_le, List.cons.injEq, and_true] at hg); first | (exact absurd trivial hg) | (exfalso; omega) | (have hT : True := hg; clear hT hg) | skip)))
 )
    refine aw_nilvec 10 9 1 rfl rfl ?_
    unfold divS; rw [hc, if_neg (by decide)]
    refine aw_loopG (G := Nat × ByteArray × List ByteArray) (fun ((h, left, acc) : Nat × ByteArray × List ByteArray) => left.size ≤ 1000000 ∧ h < 2 ^ 64 ∧ acc.length + left.size ≤ 1000000 ∧ divB prev (streamB g) = (acc ++ (divB h left).1, (divB h left).2)) (fun ((h, left, acc) : Nat × ByteArray × List ByteArray) => left.size) (fun ((h, left, acc) : Nat × ByteArray × List ByteArray) => [(10, .vec 1 acc.length), (11, .c (U h)), (12, .c (STR left))]) (fun ((h, left, acc) : Nat × ByteArray × List ByteArray) => [(1, some (.vec 9 1 (acc.flatMap stC)))]) 2 (prev, streamB g, []) ?_ (by refine weak_mk rfl ?_ ?_ <;> repeat (first | exact envW_nil | exact heapW_nil | refine envW_cons rfl rfl ?_ | refine heapW_cons rfl rfl rfl ?_)) rfl ?_
    · exact ⟨hsl, hp, by show 0 + _ ≤ _; omega, rfl⟩
    rintro ⟨h, left, acc⟩ hI
    try dsimp only at hI
    try dsimp only
    obtain ⟨e1, e2, e3, e4⟩ := hI
    by_cases hz : left.size = 0
    · rw [divB_nil hz] at e4
      dsimp only at e4
      rw [List.append_nil] at e4
      rw [e4]
      have he := ba_empty hz
      repeat' (first
 | (rw [he])
 | ((with_reducible apply r_neqstr); exact rfl; exact rfl; exact rfl)
 | ((with_reducible apply aw_seq))
 | ((with_reducible apply aw_region))
 | ((with_reducible apply thn_normal))
 | ((with_reducible apply thn_exit))
 | ((with_reducible apply inb_exit))
 | ((with_reducible apply aw_exit))
 | ((with_reducible apply aw_ret))
 | ((with_reducible apply ao_nil))
 | ((with_reducible apply r_move); exact rfl; exact rfl)
 | ((with_reducible apply r_assign); exact rfl; exact rfl)
 | (((with_reducible apply aw_cond); exact rfl) <;> intro hg <;> (first | (exact absurd hg (by decide)) | ((try simp only [decide_eq_true_eq, decide_eq_false_iff_not, Bool.not_eq_true', Bool.not_eq_false', Bool.not_true, Bool.not_false, Bool.not_not, Int.not_lt, Int.not_le, Nat.not_lt, Nat.not_le, gt_iff_lt, ge_iff_le, List.cons.injEq, and_true] at hg); first | (exact absurd trivial hg) | (exfalso; omega) | (have hT : True := hg; clear hT hg) | skip)))
 )
      all_goals exact ret2 (.cons (.tmp rfl (cl_vec rfl (by rw [flat_len EncL.len]))) (.cons (.tmp rfl cl_c) (.cons (.tmp rfl cl_c) .nil)))
    · have he := ba_full hz
      obtain ⟨n, hn⟩ : ∃ n, n = min left.size 45 := ⟨_, rfl⟩
      have hmin : min (left.size : Int) 45 = (n : Int) := by omega
      have hps : (left.extract 0 n).size = n := by rw [ByteArray.size_extract]; omega
      have hls : (left.extract n left.size).size = left.size - n := by rw [ByteArray.size_extract]; omega
      have hq : (n : Int).tdiv 10 = ((n / 10 : Nat) : Int) := quo10
      have hr : (n : Int).tmod 10 = ((n % 10 : Nat) : Int) := rem10
      have hw1 := conv8 (m := n / 10) (by omega)
      have hw2 := conv8 (m := n % 10) (by omega)
      have hd1 := dig8 (m := n / 10) (by omega)
      have hd2 := dig8 (m := n % 10) (by omega)
      have key : ∀ b : Bool, b = decide (left.size ≤ 45) → ((left.extract n left.size).toList == (⟨#[]⟩ : ByteArray).toList) = b := by
        rintro b rfl
        by_cases h45 : left.size ≤ 45
        · rw [ba_empty (by omega)]; simp [h45]
        · rw [ba_full (by omega)]; simp [h45]
      obtain ⟨r, hrr⟩ : ∃ r, r = restN (markB (decide (left.size ≤ 45))) n (left.extract 0 n) := ⟨_, rfl⟩
      have hrs : r.size = 3 + n := by rw [hrr, restN_size, hps]
      have c3 := chain_con (gl := gl) h e2 r (by omega)
      have hcl := chainS_lt h r
      have c4 := hex_con (gl := gl) (chainS h r) hcl
      have hxs := hexS_size (chainS h r)
      have hstep := divB_cons (prev := h) hz hn hrr rfl
      rw [hstep] at e4
      unfold restN at hrr
      clear hstep hrs
      by_cases h45 : left.size ≤ 45
      all_goals
        have hk := key _ rfl
        have hrs2 : r.size ≤ 48 := by
          rw [hrr, ByteArray.size_append, hps]; show 3 + n ≤ 48; omega
        simp only [h45, decide_true, decide_false] at hk
        repeat' (first
 | (rw [← hrr])
 | (rw [he])
 | (rw [hk])
 | (rw [hmin])
 | (rw [hq])
 | (rw [hr])
 | ((with_reducible apply r_neqstr); exact rfl; exact rfl; exact rfl)
 | ((with_reducible apply r_eqstr); exact rfl; exact rfl; exact rfl)
 | ((with_reducible apply r_len_s); exact rfl; exact rfl)
 | ((with_reducible apply (r_cutTo n)); exact rfl; exact rfl; exact rfl; exact (by omega); exact rfl)
 | ((with_reducible apply (r_cutFrom n)); exact rfl; exact rfl; exact rfl; exact (by omega); exact rfl)
 | ((with_reducible apply r_quo); exact rfl; exact rfl; exact (by decide); exact (by rw [hq]; unfold fits; omega); exact rfl)
 | ((with_reducible apply r_rem); exact rfl; exact rfl; exact (by decide); exact rfl)
 | ((with_reducible apply r_conv); exact rfl; (first | exact hw1 | exact hw2); exact rfl)
 | ((with_reducible apply r_addv); exact rfl; exact rfl; (first | exact hd1 | exact hd2); exact rfl)
 | ((with_reducible apply r_litq); exact rfl; exact rfl; exact rfl; exact rfl; exact rfl; exact rfl; exact rfl)
 | ((with_reducible apply (r_strOf [markB (decide (left.size ≤ 45)), UInt8.ofNat (48 + n / 10), UInt8.ofNat (48 + n % 10)])); exact rfl; exact (by simp only [h45, decide_true, decide_false]; rfl); exact (Nat.succ_pos _); exact rfl)
 | ((with_reducible apply r_adds); exact rfl; exact rfl; (first | exact (by omega) | exact (by rw [hps]; show 3 + n ≤ _; omega)); exact rfl)
 | ((with_reducible apply r_call); exact rfl; exact rfl; (first | exact c3 | exact c4); exact rfl; exact rfl)
 | ((with_reducible apply (r_appendl (enc := stC) (l2 := [hexS (chainS h r) ++ r]))); exact rfl; exact rfl; exact inferInstance; exact rfl; exact rfl; exact (by show acc.length + 1 < _; omega); exact (by show (acc.length + 1) * _ ≤ _; omega); exact rfl)
 | ((with_reducible apply aw_seq))
 | ((with_reducible apply aw_region))
 | ((with_reducible apply aw_block))
 | ((with_reducible apply thn_normal))
 | ((with_reducible apply inb_normal))
 | ((with_reducible apply aw_skip))
 | ((with_reducible apply ao_nil))
 | ((with_reducible apply r_move); exact rfl; exact rfl)
 | ((with_reducible apply r_assign); exact rfl; exact rfl)
 | ((with_reducible apply r_min); exact rfl; exact rfl; exact rfl)
 | (((with_reducible apply aw_cond); exact rfl) <;> intro hg <;> (first | (exact absurd hg (by decide)) | ((try simp only [decide_eq_true_eq, decide_eq_false_iff_not, Bool.not_eq_true', Bool.not_eq_false', Bool.not_true, Bool.not_false, Bool.not_not, Int.not_lt, Int.not_le, Nat.not_lt, Nat.not_le, gt_iff_lt, ge_iff_le, List.cons.injEq, and_true] at hg); first | (exact absurd trivial hg) | (exfalso; omega) | (have hT : True := hg; clear hT hg) | skip)))
 )
        rw [show acc.length + [hexS (chainS h r) ++ r].length = (acc ++ [hexS (chainS h r) ++ r]).length by simp]
        refine ⟨(chainS h r, left.extract n left.size, acc ++ [hexS (chainS h r) ++ r]), ?_, ?_, by refine weak_mk rfl ?_ ?_ <;> repeat (first | exact envW_nil | exact heapW_nil | refine envW_cons rfl rfl ?_ | refine heapW_cons rfl rfl rfl ?_)⟩
        · show (left.extract n left.size).size < left.size; omega
        · refine ⟨by show (left.extract n left.size).size ≤ _; omega, hcl, by show (acc ++ [_]).length + (left.extract n left.size).size ≤ _; rw [List.length_append, List.length_singleton]; omega, ?_⟩
          rw [e4]; simp
end Go.Proofs.Ythkjkhffljlidaa.Jo
/- The journal: the reference's blocks. -/
namespace Go.Proofs.Ythkjkhffljlidaa.Jo
set_option linter.unusedVariables false
set_option linter.unusedSimpArgs false
open Go.RowKit Go.Proofs.Ythkjkhffljlidaa.Ev
variable {gl : List (Nat × List CV)}
theorem blocks_con (prev : Nat) (hp : prev < 2 ^ 64) (g : List ByteArray) (hg : g.length ≤ 1000000000000) : Con Try.prog gl 12 [U prev, LT g] (.tup [LT (divS prev g).1, I (divS prev g).2.2]) := by
  have c0 := divide_con (gl := gl) prev hp g hg
  generalize divS prev g = v at c0 ⊢
  obtain ⟨l, h, e⟩ := v
  dsimp only at c0 ⊢
  refine con_of Try.func12 rfl (by kernel_rfl) rfl ?_
  simp only [Try.ntmps12, Try.results12, argEnv, ofC, of1, List.map]
  repeat' (first
 | ((with_reducible apply r_call); exact rfl; exact rfl; exact c0; exact rfl; exact rfl)
 | ((with_reducible apply aw_seq))
 | ((with_reducible apply aw_region))
 | ((with_reducible apply thn_normal))
 | ((with_reducible apply aw_ret))
 | ((with_reducible apply ao_nil))
 | ((with_reducible apply r_move); exact rfl; exact rfl)
 | ((with_reducible apply r_assign); exact rfl; exact rfl)
 | ((with_reducible apply r_extract); exact rfl; exact rfl; exact rfl)
 )
  all_goals exact ret2 (.cons (.tmp rfl cl_c) (.cons (.tmp rfl cl_c) .nil))
theorem rblocks_con (prev : Nat) (hp : prev < 2 ^ 64) (g : List ByteArray) (hg : g.length ≤ 1000000000000) : Con Try.prog gl 13 [U prev, LT g] (.tup [LT (divS prev g).1, I (divS prev g).2.2]) := by
  have cc := check_con (gl := gl) g hg
  refine con_of Try.func13 rfl (by kernel_rfl) rfl ?_
  simp only [Try.ntmps13, Try.results13, argEnv, ofC, of1, List.map]
  by_cases hc : chkS g ≠ 0
  · unfold divS; rw [if_pos hc]
    repeat' (first
 | ((with_reducible apply r_call); exact rfl; exact rfl; exact cc; exact rfl; exact rfl)
 | ((with_reducible apply aw_seq))
 | ((with_reducible apply aw_region))
 | ((with_reducible apply thn_normal))
 | ((with_reducible apply thn_ret))
 | ((with_reducible apply aw_ret))
 | ((with_reducible apply ao_nil))
 | ((with_reducible apply r_move); exact rfl; exact rfl)
 | ((with_reducible apply r_assign); exact rfl; exact rfl)
 | ((with_reducible apply r_neq); exact rfl; exact rfl; exact rfl)
 | (((with_reducible apply aw_cond); exact rfl) <;> intro hg <;> (first | (exact absurd hg (by decide)) | ((try simp only [decide_eq_true_eq, decide_eq_false_iff_not, Bool.not_eq_true', Bool.not_eq_false', Bool.not_true, Bool.not_false, Bool.not_not, Int.not_lt, Int.not_le, Nat.not_lt, Nat.not_le, gt_iff_lt, ge_iff_le, List.cons.injEq, and_true] at hg); first | (exact absurd trivial hg) | (exfalso; omega) | (have hT : True := hg; clear hT hg) | skip)))
 )
    all_goals exact ret2 (.cons (.tmp rfl cl_none) (.cons (.tmp rfl cl_c) .nil))
  have hc : chkS g = 0 := Decidable.not_not.1 hc
  obtain ⟨h0, h1, hall⟩ := chk_z hc
  rw [hc] at cc
  repeat' (first
 | ((with_reducible apply r_call); exact rfl; exact rfl; exact cc; exact rfl; exact rfl)
 | ((with_reducible apply aw_seq))
 | ((with_reducible apply aw_region))
 | ((with_reducible apply aw_block))
 | ((with_reducible apply thn_normal))
 | ((with_reducible apply aw_skip))
 | ((with_reducible apply ao_nil))
 | ((with_reducible apply r_move); exact rfl; exact rfl)
 | ((with_reducible apply r_assign); exact rfl; exact rfl)
 | ((with_reducible apply r_neq); exact rfl; exact rfl; exact rfl)
 | (((with_reducible apply aw_cond); exact rfl) <;> intro hg <;> (first | (exact absurd hg (by decide)) | ((try simp only [decide_eq_true_eq, decide_eq_false_iff_not, Bool.not_eq_true', Bool.not_eq_false', Bool.not_true, Bool.not_false, Bool.not_not, Int.not_lt, Int.not_le, Nat.not_lt, Nat.not_le, gt_iff_lt, ge_iff_le, List.cons.injEq, and_true] at hg); first | (exact absurd trivial hg) | (exfalso; omega) | (have hT : True := hg; clear hT hg) | skip)))
 )
  refine aw_loopG (G := Nat × ByteArray) (fun ((j, s) : Nat × ByteArray) => j ≤ g.length ∧ s.data.toList = streamL (g.take j)) (fun ((j, s) : Nat × ByteArray) => g.length - j) (fun ((j, s) : Nat × ByteArray) => [(0, .c (U prev)), (1, .c (LT g)), (7, .c (STR s)), (8, A j)]) (fun ((j, s) : Nat × ByteArray) => []) 0 (0, ⟨#[]⟩) ?_ (by refine weak_mk rfl ?_ ?_ <;> repeat (first | exact envW_nil | exact heapW_nil | refine envW_cons rfl rfl ?_ | refine heapW_cons rfl rfl rfl ?_)) rfl ?_
  · exact ⟨Nat.zero_le _, rfl⟩
  rintro ⟨j, s⟩ hI
  try dsimp only at hI
  try dsimp only
  obtain ⟨h2, h3⟩ := hI
  have hslen : s.size ≤ j * 16394 := by
    have := streamL_len hall j h2
    rw [← h3, ba_size] at this
    exact this
  by_cases hj : j < g.length
  · have h16 := hall j hj
    have c0 := rtext_con (gl := gl) g[j] (by omega)
    have hts := textS_size (s := g[j]) (by omega)
    repeat' (first
 | ((with_reducible apply r_call); exact rfl; exact rfl; exact c0; exact rfl; exact rfl)
 | ((with_reducible apply r_adds); exact rfl; exact rfl; exact (by omega); exact rfl)
 | ((with_reducible apply aw_seq))
 | ((with_reducible apply aw_region))
 | ((with_reducible apply aw_block))
 | ((with_reducible apply thn_normal))
 | ((with_reducible apply inb_normal))
 | ((with_reducible apply aw_skip))
 | ((with_reducible apply ao_nil))
 | ((with_reducible apply r_move); exact rfl; exact rfl)
 | ((with_reducible apply r_assign); exact rfl; exact rfl)
 | ((with_reducible apply r_lss); exact rfl; exact rfl; exact rfl)
 | ((with_reducible apply r_add); exact rfl; exact rfl; exact (by first | assumption | (unfold fits; omega)); exact rfl)
 | ((with_reducible apply r_len_f); exact rfl; exact inferInstance; exact rfl)
 | ((with_reducible apply r_index_f); exact rfl; exact inferInstance; exact rfl; exact rfl; (first | assumption | omega); exact rfl)
 | ((with_reducible apply r_load_f0); exact rfl; exact inferInstance; exact List.getElem?_eq_getElem (by first | assumption | omega); exact rfl; exact rfl)
 | (((with_reducible apply aw_cond); exact rfl) <;> intro hg <;> (first | (exact absurd hg (by decide)) | ((try simp only [decide_eq_true_eq, decide_eq_false_iff_not, Bool.not_eq_true', Bool.not_eq_false', Bool.not_true, Bool.not_false, Bool.not_not, Int.not_lt, Int.not_le, Nat.not_lt, Nat.not_le, gt_iff_lt, ge_iff_le, List.cons.injEq, and_true] at hg); first | (exact absurd trivial hg) | (exfalso; omega) | (have hT : True := hg; clear hT hg) | skip)))
 )
    refine ⟨(j + 1, s ++ textS g[j]), ?_, ?_, by refine weak_mk rfl ?_ ?_ <;> repeat (first | exact envW_nil | exact heapW_nil | refine envW_cons rfl rfl ?_ | refine heapW_cons rfl rfl rfl ?_)⟩
    · show _ - (j + 1) < _ - j; omega
    · refine ⟨hj, ?_⟩
      show (s ++ textS g[j]).data.toList = _
      rw [ba_app, h3, streamL_succ hj]
  · obtain rfl : j = g.length := by omega
    rw [List.take_length] at h3
    obtain rfl : s = streamB g := ba_eq h3
    have hsl : (streamB g).size ≤ 1000000 := by omega
    repeat' (first
 | ((with_reducible apply aw_seq))
 | ((with_reducible apply aw_region))
 | ((with_reducible apply aw_block))
 | ((with_reducible apply thn_normal))
 | ((with_reducible apply thn_exit))
 | ((with_reducible apply inb_exit))
 | ((with_reducible apply aw_exit))
 | ((with_reducible apply ao_nil))
 | ((with_reducible apply r_move); exact rfl; exact rfl)
 | ((with_reducible apply r_assign); exact rfl; exact rfl)
 | ((with_reducible apply r_lss); exact rfl; exact rfl; exact rfl)
 | ((with_reducible apply r_len_f); exact rfl; exact inferInstance; exact rfl)
 | (((with_reducible apply aw_cond); exact rfl) <;> intro hg <;> (first | (exact absurd hg (by decide)) | ((try simp only [decide_eq_true_eq, decide_eq_false_iff_not, Bool.not_eq_true', Bool.not_eq_false', Bool.not_true, Bool.not_false, Bool.not_not, Int.not_lt, Int.not_le, Nat.not_lt, Nat.not_le, gt_iff_lt, ge_iff_le, List.cons.injEq, and_true] at hg); first | (exact absurd trivial hg) | (exfalso; omega) | (have hT : True := hg; clear hT hg) | skip)))
 )
    refine aw_nilvec 9 9 1 rfl rfl ?_
    unfold divS; rw [hc, if_neg (by decide)]
    refine aw_loopG (G := Nat × ByteArray × List ByteArray) (fun ((h, left, acc) : Nat × ByteArray × List ByteArray) => left.size ≤ 1000000 ∧ h < 2 ^ 64 ∧ acc.length + left.size ≤ 1000000 ∧ divB prev (streamB g) = (acc ++ (divB h left).1, (divB h left).2)) (fun ((h, left, acc) : Nat × ByteArray × List ByteArray) => left.size) (fun ((h, left, acc) : Nat × ByteArray × List ByteArray) => [(0, .c (U h)), (7, .c (STR left)), (9, .vec 0 acc.length)]) (fun ((h, left, acc) : Nat × ByteArray × List ByteArray) => [(0, some (.vec 9 1 (acc.flatMap stC)))]) 1 (prev, streamB g, []) ?_ (by refine weak_mk rfl ?_ ?_ <;> repeat (first | exact envW_nil | exact heapW_nil | refine envW_cons rfl rfl ?_ | refine heapW_cons rfl rfl rfl ?_)) rfl ?_
    · exact ⟨hsl, hp, by show 0 + _ ≤ _; omega, rfl⟩
    rintro ⟨h, left, acc⟩ hI
    try dsimp only at hI
    try dsimp only
    obtain ⟨e1, e2, e3, e4⟩ := hI
    by_cases hz : left.size = 0
    · rw [divB_nil hz] at e4
      dsimp only at e4
      rw [List.append_nil] at e4
      rw [e4]
      repeat' (first
 | ((with_reducible apply r_len_s); exact rfl; exact rfl)
 | ((with_reducible apply aw_seq))
 | ((with_reducible apply aw_region))
 | ((with_reducible apply thn_normal))
 | ((with_reducible apply thn_exit))
 | ((with_reducible apply inb_exit))
 | ((with_reducible apply aw_exit))
 | ((with_reducible apply aw_ret))
 | ((with_reducible apply ao_nil))
 | ((with_reducible apply r_move); exact rfl; exact rfl)
 | ((with_reducible apply r_assign); exact rfl; exact rfl)
 | ((with_reducible apply r_gtr); exact rfl; exact rfl; exact rfl)
 | (((with_reducible apply aw_cond); exact rfl) <;> intro hg <;> (first | (exact absurd hg (by decide)) | ((try simp only [decide_eq_true_eq, decide_eq_false_iff_not, Bool.not_eq_true', Bool.not_eq_false', Bool.not_true, Bool.not_false, Bool.not_not, Int.not_lt, Int.not_le, Nat.not_lt, Nat.not_le, gt_iff_lt, ge_iff_le, List.cons.injEq, and_true] at hg); first | (exact absurd trivial hg) | (exfalso; omega) | (have hT : True := hg; clear hT hg) | skip)))
 )
      all_goals exact ret2 (.cons (.tmp rfl (cl_vec rfl (by rw [flat_len EncL.len]))) (.cons (.tmp rfl cl_c) .nil))
    · obtain ⟨n, hn⟩ : ∃ n, n = min left.size 45 := ⟨_, rfl⟩
      have hmin : min (left.size : Int) 45 = (n : Int) := by omega
      have hps : (left.extract 0 n).size = n := by rw [ByteArray.size_extract]; omega
      have hls : (left.extract n left.size).size = left.size - n := by rw [ByteArray.size_extract]; omega
      obtain ⟨r, hrr⟩ : ∃ r, r = restN (markB (decide (left.size ≤ 45))) n (left.extract 0 n) := ⟨_, rfl⟩
      have hrs : r.size = 3 + n := by rw [hrr, restN_size, hps]
      have c1 := rest_con (gl := gl) (left.extract 0 n) (decide (left.size ≤ 45)) (by omega)
      rw [hps, ← hrr] at c1
      have hdec : decide ((n : Int) = (left.size : Int)) = decide (left.size ≤ 45) := by
        by_cases h45 : left.size ≤ 45
        · rw [decide_eq_true h45, decide_eq_true (by omega)]
        · rw [decide_eq_false h45, decide_eq_false (by omega)]
      have c3 := rchain_con (gl := gl) h e2 r (by omega)
      have hcl := chainS_lt h r
      have c4 := rhex_con (gl := gl) (chainS h r) hcl
      have hxs := hexS_size (chainS h r)
      have hstep := divB_cons (prev := h) hz hn hrr rfl
      rw [hstep] at e4
      clear hstep hrr
      repeat' (first
 | (rw [hmin])
 | (rw [hdec])
 | ((with_reducible apply r_len_s); exact rfl; exact rfl)
 | ((with_reducible apply (r_cutTo n)); exact rfl; exact rfl; exact rfl; exact (by omega); exact rfl)
 | ((with_reducible apply (r_cutFrom n)); exact rfl; exact rfl; exact rfl; exact (by omega); exact rfl)
 | ((with_reducible apply r_adds); exact rfl; exact rfl; exact (by omega); exact rfl)
 | ((with_reducible apply r_call); exact rfl; exact rfl; (first | exact c1 | exact c3 | exact c4); exact rfl; exact rfl)
 | ((with_reducible apply r_litq); exact rfl; exact rfl; exact rfl; exact rfl; exact rfl; exact rfl; exact rfl)
 | ((with_reducible apply (r_appendl (enc := stC) (l2 := [hexS (chainS h r) ++ r]))); exact rfl; exact rfl; exact inferInstance; exact rfl; exact rfl; exact (by show acc.length + 1 < _; omega); exact (by show (acc.length + 1) * _ ≤ _; omega); exact rfl)
 | ((with_reducible apply aw_seq))
 | ((with_reducible apply aw_region))
 | ((with_reducible apply aw_block))
 | ((with_reducible apply thn_normal))
 | ((with_reducible apply inb_normal))
 | ((with_reducible apply aw_skip))
 | ((with_reducible apply ao_nil))
 | ((with_reducible apply r_move); exact rfl; exact rfl)
 | ((with_reducible apply r_assign); exact rfl; exact rfl)
 | ((with_reducible apply r_gtr); exact rfl; exact rfl; exact rfl)
 | ((with_reducible apply r_eql); exact rfl; exact rfl; exact rfl)
 | ((with_reducible apply r_min); exact rfl; exact rfl; exact rfl)
 | (((with_reducible apply aw_cond); exact rfl) <;> intro hg <;> (first | (exact absurd hg (by decide)) | ((try simp only [decide_eq_true_eq, decide_eq_false_iff_not, Bool.not_eq_true', Bool.not_eq_false', Bool.not_true, Bool.not_false, Bool.not_not, Int.not_lt, Int.not_le, Nat.not_lt, Nat.not_le, gt_iff_lt, ge_iff_le, List.cons.injEq, and_true] at hg); first | (exact absurd trivial hg) | (exfalso; omega) | (have hT : True := hg; clear hT hg) | skip)))
 )
      rw [show acc.length + [hexS (chainS h r) ++ r].length = (acc ++ [hexS (chainS h r) ++ r]).length by simp]
      refine ⟨(chainS h r, left.extract n left.size, acc ++ [hexS (chainS h r) ++ r]), ?_, ?_, by refine weak_mk rfl ?_ ?_ <;> repeat (first | exact envW_nil | exact heapW_nil | refine envW_cons rfl rfl ?_ | refine heapW_cons rfl rfl rfl ?_)⟩
      · show (left.extract n left.size).size < left.size; omega
      · refine ⟨by show (left.extract n left.size).size ≤ _; omega, hcl, by show (acc ++ [_]).length + (left.extract n left.size).size ≤ _; rw [List.length_append, List.length_singleton]; omega, ?_⟩
        rw [e4]; simp
end Go.Proofs.Ythkjkhffljlidaa.Jo
/- The journal: whether a block continues it, in the program and in the reference. -/
namespace Go.Proofs.Ythkjkhffljlidaa.Jo
set_option linter.unusedVariables false
set_option linter.unusedSimpArgs false
open Go.RowKit Go.Proofs.Ythkjkhffljlidaa.Ev
variable {gl : List (Nat × List CV)}
def Cont (prev : Nat) (b : ByteArray) : Prop :=
  19 < b.size ∧ b.size ≤ 64 ∧ (numS (b.extract 0 16)).2 = 0 ∧ (byt b 16 = 46 ∨ byt b 16 = 43) ∧ byt b 17 = 48 + (b.size - 19) / 10 ∧ byt b 18 = 48 + (b.size - 19) % 10 ∧ (numS (b.extract 0 16)).1 = chainS prev (b.extract 16 b.size)
instance (prev : Nat) (b : ByteArray) : Decidable (Cont prev b) := by unfold Cont; infer_instance
def contS (prev : Nat) (b : ByteArray) : Option (Nat × Bool) := if Cont prev b then some ((numS (b.extract 0 16)).1, decide (byt b 16 = 46)) else none
def splV (prev : Nat) (b : ByteArray) : CV :=
  match contS prev b with
  | some (h, last) => .tup [U h, B8 (markB last).toNat, STR (b.extract 19 b.size), BO true]
  | none => .tup [U 0, B8 0, STR ⟨#[]⟩, BO false]
theorem byt_ext {b : ByteArray} {i k : Nat} (h : i + k < b.size) : byt (b.extract i b.size) k = byt b (i + k) := by
  unfold byt
  rw [ba_ext]
  have e : b.data.toList.take b.size = b.data.toList := List.take_of_length_le (by rw [ba_size]; omega)
  rw [e, List.getD_eq_getElem?_getD, List.getD_eq_getElem?_getD, List.getElem?_drop]
theorem numS_bd (s : ByteArray) : (numS s).1 < 2 ^ 64 := by
  unfold numS Sm.number
  split
  · decide
  split
  · decide
  · rename_i h1 h2
    cases hp : Sm.parse s.data.toList 0 with
    | none => decide
    | some n =>
      have := Sm.parse_lt _ _ _ hp
      have e : s.data.toList.length = 16 := by omega
      rw [e] at this
      have e2 : (0 + 1) * 16 ^ 16 = 2 ^ 64 := by decide
      show n < 2 ^ 64
      omega
theorem isDigit_con (c : Nat) (h : c < 256) : Con Try.prog gl 81 [B8 c] (BO (decide (48 ≤ c ∧ c ≤ 57))) := by
  refine con_of Try.func81 rfl (by kernel_rfl) rfl ?_
  simp only [Try.ntmps81, Try.results81, argEnv, ofC, of1, List.map]
  by_cases h1 : 48 ≤ c
  · by_cases h2 : c ≤ 57
    · rw [decide_eq_true ⟨h1, h2⟩]
      repeat' (first
 | ((with_reducible apply aw_seq))
 | ((with_reducible apply aw_region))
 | ((with_reducible apply thn_normal))
 | ((with_reducible apply aw_ret))
 | ((with_reducible apply ao_nil))
 | ((with_reducible apply r_move); exact rfl; exact rfl)
 | ((with_reducible apply r_assign); exact rfl; exact rfl)
 | ((with_reducible apply r_leq); exact rfl; exact rfl; exact rfl)
 | ((with_reducible apply r_geq); exact rfl; exact rfl; exact rfl)
 | ((with_reducible apply r_pick_t); exact rfl; exact rfl; exact rfl)
 | (((with_reducible apply r_guard); exact rfl; exact rfl; exact rfl; exact rfl) <;> intro hg <;> (first | (exact absurd hg (by decide)) | ((try simp only [decide_eq_true_eq, decide_eq_false_iff_not, Bool.not_eq_true', Bool.not_eq_false', Bool.not_true, Bool.not_false, Bool.not_not, Int.not_lt, Int.not_le, Nat.not_lt, Nat.not_le, gt_iff_lt, ge_iff_le, List.cons.injEq, and_true] at hg); first | (exact absurd trivial hg) | (exfalso; omega) | (have hT : True := hg; clear hT hg) | skip)))
 )
      all_goals exact ret_b rfl (by simp; omega)
    · rw [decide_eq_false (fun h => h2 h.2)]
      repeat' (first
 | ((with_reducible apply aw_seq))
 | ((with_reducible apply aw_region))
 | ((with_reducible apply thn_normal))
 | ((with_reducible apply aw_ret))
 | ((with_reducible apply ao_nil))
 | ((with_reducible apply r_move); exact rfl; exact rfl)
 | ((with_reducible apply r_assign); exact rfl; exact rfl)
 | ((with_reducible apply r_leq); exact rfl; exact rfl; exact rfl)
 | ((with_reducible apply r_geq); exact rfl; exact rfl; exact rfl)
 | ((with_reducible apply r_pick_t); exact rfl; exact rfl; exact rfl)
 | (((with_reducible apply r_guard); exact rfl; exact rfl; exact rfl; exact rfl) <;> intro hg <;> (first | (exact absurd hg (by decide)) | ((try simp only [decide_eq_true_eq, decide_eq_false_iff_not, Bool.not_eq_true', Bool.not_eq_false', Bool.not_true, Bool.not_false, Bool.not_not, Int.not_lt, Int.not_le, Nat.not_lt, Nat.not_le, gt_iff_lt, ge_iff_le, List.cons.injEq, and_true] at hg); first | (exact absurd trivial hg) | (exfalso; omega) | (have hT : True := hg; clear hT hg) | skip)))
 )
      all_goals exact ret_b rfl (by simp; omega)
  · rw [decide_eq_false (fun h => h1 h.1)]
    repeat' (first
 | ((with_reducible apply aw_seq))
 | ((with_reducible apply aw_region))
 | ((with_reducible apply thn_normal))
 | ((with_reducible apply aw_ret))
 | ((with_reducible apply ao_nil))
 | ((with_reducible apply r_move); exact rfl; exact rfl)
 | ((with_reducible apply r_assign); exact rfl; exact rfl)
 | ((with_reducible apply r_geq); exact rfl; exact rfl; exact rfl)
 | ((with_reducible apply r_pick_f); exact rfl; exact rfl; exact rfl)
 | (((with_reducible apply r_guard); exact rfl; exact rfl; exact rfl; exact rfl) <;> intro hg <;> (first | (exact absurd hg (by decide)) | ((try simp only [decide_eq_true_eq, decide_eq_false_iff_not, Bool.not_eq_true', Bool.not_eq_false', Bool.not_true, Bool.not_false, Bool.not_not, Int.not_lt, Int.not_le, Nat.not_lt, Nat.not_le, gt_iff_lt, ge_iff_le, List.cons.injEq, and_true] at hg); first | (exact absurd trivial hg) | (exfalso; omega) | (have hT : True := hg; clear hT hg) | skip)))
 )
    all_goals exact ret_b rfl (by simp)
theorem sub8 {c : Nat} (h1 : 48 ≤ c) (h2 : c ≤ 57) : IntKind.u8.wrap ((c : Int) - 48) = ((c - 48 : Nat) : Int) := by
  rw [show ((c : Int) - 48) = ((c - 48 : Nat) : Int) by omega]; exact conv8 (by omega)
theorem i64of {m : Nat} (h : m < 256) : IntKind.i64.wrap (m : Int) = (m : Int) := by
  simp [IntKind.wrap, IntKind.bits, IntKind.signed]; omega
theorem splV_none {prev : Nat} {b : ByteArray} (h : ¬ Cont prev b) : splV prev b = .tup [U 0, B8 0, STR ⟨#[]⟩, BO false] := by unfold splV contS; rw [if_neg h]
theorem splV_some {prev : Nat} {b : ByteArray} (h : Cont prev b) : splV prev b = .tup [U (numS (b.extract 0 16)).1, B8 (markB (decide (byt b 16 = 46))).toNat, STR (b.extract 19 b.size), BO true] := by unfold splV contS; rw [if_pos h]
theorem ext_ext {b : ByteArray} {i j : Nat} : (b.extract i b.size).extract j (b.extract i b.size).size = b.extract (i + j) b.size := by
  apply ba_eq
  have e : ∀ s : ByteArray, s.data.toList.take s.size = s.data.toList := fun s => List.take_of_length_le (by rw [ba_size]; omega)
  rw [ba_ext, e, ba_ext, e, ba_ext, e, List.drop_drop]
theorem split_con (prev : Nat) (hp : prev < 2 ^ 64) (b : ByteArray) (hb : b.size ≤ 1000000) : Con Try.prog gl 72 [STR b, U prev] (splV prev b) := by
  by_cases hs : b.size < 19
  · rw [splV_none (fun h => by have := h.1; omega)]
    refine con_of Try.func72 rfl (by kernel_rfl) rfl ?_
    simp only [Try.ntmps72, Try.results72, argEnv, ofC, of1, List.map]
    repeat' (first
 | ((with_reducible apply r_len_s); exact rfl; exact rfl)
 | ((with_reducible apply aw_seq))
 | ((with_reducible apply aw_region))
 | ((with_reducible apply thn_normal))
 | ((with_reducible apply thn_ret))
 | ((with_reducible apply aw_ret))
 | ((with_reducible apply ao_nil))
 | ((with_reducible apply r_move); exact rfl; exact rfl)
 | ((with_reducible apply r_assign); exact rfl; exact rfl)
 | ((with_reducible apply r_lss); exact rfl; exact rfl; exact rfl)
 | (((with_reducible apply aw_cond); exact rfl) <;> intro hg <;> (first | (exact absurd hg (by decide)) | ((try simp only [decide_eq_true_eq, decide_eq_false_iff_not, Bool.not_eq_true', Bool.not_eq_false', Bool.not_true, Bool.not_false, Bool.not_not, Int.not_lt, Int.not_le, Nat.not_lt, Nat.not_le, gt_iff_lt, ge_iff_le, List.cons.injEq, and_true] at hg); first | (exact absurd trivial hg) | (exfalso; omega) | (have hT : True := hg; clear hT hg) | skip)))
 )
    all_goals exact ret2 (.cons (.tmp rfl cl_c) (.cons (.tmp rfl cl_c) (.cons (.tmp rfl cl_c) (.cons (.tmp rfl cl_c) .nil))))
  have hz : (b.extract 0 16).size = 16 := by rw [ByteArray.size_extract]; omega
  have c0 := number_con (gl := gl) (b.extract 0 16) (by omega)
  have hnb := numS_bd (b.extract 0 16)
  have hC : Cont prev b ↔ Cont prev b := Iff.rfl
  have hS := splV_some (prev := prev) (b := b)
  have hN := splV_none (prev := prev) (b := b)
  unfold Cont at hC hS hN
  generalize numS (b.extract 0 16) = v at c0 hnb hS hN
  obtain ⟨q, e⟩ := v
  dsimp only at c0 hnb hS hN
  have hrs : (b.extract 16 b.size).size = b.size - 16 := by rw [ByteArray.size_extract]; omega
  by_cases he : e = 0
  rotate_left
  · rw [hN (fun h => he h.2.2.1)]
    refine con_of Try.func72 rfl (by kernel_rfl) rfl ?_
    simp only [Try.ntmps72, Try.results72, argEnv, ofC, of1, List.map]
    repeat' (first
 | ((with_reducible apply r_len_s); exact rfl; exact rfl)
 | ((with_reducible apply (r_call (f := 21))); exact rfl; exact rfl; exact c0; exact rfl; exact rfl)
 | ((with_reducible apply (r_cutTo 16)); exact rfl; exact rfl; exact rfl; exact (by omega); exact rfl)
 | ((with_reducible apply (r_cutFrom 16)); exact rfl; exact rfl; exact rfl; exact (by omega); exact rfl)
 | ((with_reducible apply aw_seq))
 | ((with_reducible apply aw_region))
 | ((with_reducible apply thn_normal))
 | ((with_reducible apply thn_ret))
 | ((with_reducible apply aw_skip))
 | ((with_reducible apply aw_ret))
 | ((with_reducible apply ao_nil))
 | ((with_reducible apply r_move); exact rfl; exact rfl)
 | ((with_reducible apply r_assign); exact rfl; exact rfl)
 | ((with_reducible apply r_lss); exact rfl; exact rfl; exact rfl)
 | ((with_reducible apply r_neq); exact rfl; exact rfl; exact rfl)
 | ((with_reducible apply r_pick_t); exact rfl; exact rfl; exact rfl)
 | ((with_reducible apply r_extract); exact rfl; exact rfl; exact rfl)
 | (((with_reducible apply r_guard); exact rfl; exact rfl; exact rfl; exact rfl) <;> intro hg <;> (first | (exact absurd hg (by decide)) | ((try simp only [decide_eq_true_eq, decide_eq_false_iff_not, Bool.not_eq_true', Bool.not_eq_false', Bool.not_true, Bool.not_false, Bool.not_not, Int.not_lt, Int.not_le, Nat.not_lt, Nat.not_le, gt_iff_lt, ge_iff_le, List.cons.injEq, and_true] at hg); first | (exact absurd trivial hg) | (exfalso; omega) | (have hT : True := hg; clear hT hg) | skip)))
 | ((with_reducible apply r_guard_none); exact rfl; exact rfl; exact rfl; exact rfl)
 | (((with_reducible apply aw_cond); exact rfl) <;> intro hg <;> (first | (exact absurd hg (by decide)) | ((try simp only [decide_eq_true_eq, decide_eq_false_iff_not, Bool.not_eq_true', Bool.not_eq_false', Bool.not_true, Bool.not_false, Bool.not_not, Int.not_lt, Int.not_le, Nat.not_lt, Nat.not_le, gt_iff_lt, ge_iff_le, List.cons.injEq, and_true] at hg); first | (exact absurd trivial hg) | (exfalso; omega) | (have hT : True := hg; clear hT hg) | skip)))
 )
    all_goals exact ret2 (.cons (.tmp rfl cl_c) (.cons (.tmp rfl cl_c) (.cons (.tmp rfl cl_c) (.cons (.tmp rfl cl_c) .nil))))
  subst he
  have f0 : byt (b.extract 16 b.size) 0 = byt b 16 := byt_ext (by omega)
  have f1 : byt (b.extract 16 b.size) 1 = byt b 17 := byt_ext (by omega)
  have f2 : byt (b.extract 16 b.size) 2 = byt b 18 := byt_ext (by omega)
  have g0 := byt_lt b 16
  have g1 := byt_lt b 17
  have g2 := byt_lt b 18
  have c1 := isDigit_con (gl := gl) (byt b 17) g1
  have c2 := isDigit_con (gl := gl) (byt b 18) g2
  by_cases hm : byt b 16 = 46 ∨ byt b 16 = 43
  rotate_left
  · rw [hN (fun h => hm h.2.2.2.1)]
    have hm1 : byt b 16 ≠ 46 := fun h => hm (.inl h)
    have hm2 : byt b 16 ≠ 43 := fun h => hm (.inr h)
    refine con_of Try.func72 rfl (by kernel_rfl) rfl ?_
    simp only [Try.ntmps72, Try.results72, argEnv, ofC, of1, List.map]
    repeat' (first
 | (rw [f0])
 | ((with_reducible apply r_len_s); exact rfl; exact rfl)
 | ((with_reducible apply (r_call (f := 21))); exact rfl; exact rfl; exact c0; exact rfl; exact rfl)
 | ((with_reducible apply (r_cutTo 16)); exact rfl; exact rfl; exact rfl; exact (by omega); exact rfl)
 | ((with_reducible apply (r_cutFrom 16)); exact rfl; exact rfl; exact rfl; exact (by omega); exact rfl)
 | ((with_reducible apply (r_index_n 0)); exact rfl; exact rfl; exact rfl; exact (by omega); exact rfl)
 | ((with_reducible apply aw_seq))
 | ((with_reducible apply aw_region))
 | ((with_reducible apply thn_normal))
 | ((with_reducible apply thn_ret))
 | ((with_reducible apply aw_skip))
 | ((with_reducible apply aw_ret))
 | ((with_reducible apply ao_nil))
 | ((with_reducible apply r_move); exact rfl; exact rfl)
 | ((with_reducible apply r_assign); exact rfl; exact rfl)
 | ((with_reducible apply r_lss); exact rfl; exact rfl; exact rfl)
 | ((with_reducible apply r_neq); exact rfl; exact rfl; exact rfl)
 | ((with_reducible apply r_pick_t); exact rfl; exact rfl; exact rfl)
 | ((with_reducible apply r_pick_f); exact rfl; exact rfl; exact rfl)
 | ((with_reducible apply r_extract); exact rfl; exact rfl; exact rfl)
 | (((with_reducible apply r_guard); exact rfl; exact rfl; exact rfl; exact rfl) <;> intro hg <;> (first | (exact absurd hg (by decide)) | ((try simp only [decide_eq_true_eq, decide_eq_false_iff_not, Bool.not_eq_true', Bool.not_eq_false', Bool.not_true, Bool.not_false, Bool.not_not, Int.not_lt, Int.not_le, Nat.not_lt, Nat.not_le, gt_iff_lt, ge_iff_le, List.cons.injEq, and_true] at hg); first | (exact absurd trivial hg) | (exfalso; omega) | (have hT : True := hg; clear hT hg) | skip)))
 | (((with_reducible apply aw_cond); exact rfl) <;> intro hg <;> (first | (exact absurd hg (by decide)) | ((try simp only [decide_eq_true_eq, decide_eq_false_iff_not, Bool.not_eq_true', Bool.not_eq_false', Bool.not_true, Bool.not_false, Bool.not_not, Int.not_lt, Int.not_le, Nat.not_lt, Nat.not_le, gt_iff_lt, ge_iff_le, List.cons.injEq, and_true] at hg); first | (exact absurd trivial hg) | (exfalso; omega) | (have hT : True := hg; clear hT hg) | skip)))
 )
    all_goals exact ret2 (.cons (.tmp rfl cl_c) (.cons (.tmp rfl cl_c) (.cons (.tmp rfl cl_c) (.cons (.tmp rfl cl_c) .nil))))
  have hmark : ((markB (decide (byt b 16 = 46))).toNat : Int) = ((byt b 16 : Nat) : Int) := by
    rcases hm with h | h <;> simp [h, markB]
  by_cases hd1 : 48 ≤ byt b 17 ∧ byt b 17 ≤ 57
  rotate_left
  · rw [hN (fun h => hd1 (by have := h.2.1; have := h.2.2.2.2.1; omega))]
    rw [decide_eq_false hd1] at c1
    refine con_of Try.func72 rfl (by kernel_rfl) rfl ?_
    simp only [Try.ntmps72, Try.results72, argEnv, ofC, of1, List.map]
    rcases hm with hm | hm
    all_goals
      repeat' (first
 | (rw [f0])
 | (rw [f1])
 | ((with_reducible apply r_len_s); exact rfl; exact rfl)
 | ((with_reducible apply (r_call (f := 21))); exact rfl; exact rfl; exact c0; exact rfl; exact rfl)
 | ((with_reducible apply (r_call (f := 81))); exact rfl; exact rfl; exact c1; exact rfl; exact rfl)
 | ((with_reducible apply (r_cutTo 16)); exact rfl; exact rfl; exact rfl; exact (by omega); exact rfl)
 | ((with_reducible apply (r_cutFrom 16)); exact rfl; exact rfl; exact rfl; exact (by omega); exact rfl)
 | ((with_reducible apply (r_index_n 0)); exact rfl; exact rfl; exact rfl; exact (by omega); exact rfl)
 | ((with_reducible apply (r_index_n 1)); exact rfl; exact rfl; exact rfl; exact (by omega); exact rfl)
 | ((with_reducible apply aw_seq))
 | ((with_reducible apply aw_region))
 | ((with_reducible apply thn_normal))
 | ((with_reducible apply thn_ret))
 | ((with_reducible apply aw_skip))
 | ((with_reducible apply aw_ret))
 | ((with_reducible apply ao_nil))
 | ((with_reducible apply r_move); exact rfl; exact rfl)
 | ((with_reducible apply r_assign); exact rfl; exact rfl)
 | ((with_reducible apply r_lss); exact rfl; exact rfl; exact rfl)
 | ((with_reducible apply r_neq); exact rfl; exact rfl; exact rfl)
 | ((with_reducible apply r_pick_t); exact rfl; exact rfl; exact rfl)
 | ((with_reducible apply r_pick_f); exact rfl; exact rfl; exact rfl)
 | ((with_reducible apply r_not); exact rfl; exact rfl)
 | ((with_reducible apply r_extract); exact rfl; exact rfl; exact rfl)
 | (((with_reducible apply r_guard); exact rfl; exact rfl; exact rfl; exact rfl) <;> intro hg <;> (first | (exact absurd hg (by decide)) | ((try simp only [decide_eq_true_eq, decide_eq_false_iff_not, Bool.not_eq_true', Bool.not_eq_false', Bool.not_true, Bool.not_false, Bool.not_not, Int.not_lt, Int.not_le, Nat.not_lt, Nat.not_le, gt_iff_lt, ge_iff_le, List.cons.injEq, and_true] at hg); first | (exact absurd trivial hg) | (exfalso; omega) | (have hT : True := hg; clear hT hg) | skip)))
 | (((with_reducible apply aw_cond); exact rfl) <;> intro hg <;> (first | (exact absurd hg (by decide)) | ((try simp only [decide_eq_true_eq, decide_eq_false_iff_not, Bool.not_eq_true', Bool.not_eq_false', Bool.not_true, Bool.not_false, Bool.not_not, Int.not_lt, Int.not_le, Nat.not_lt, Nat.not_le, gt_iff_lt, ge_iff_le, List.cons.injEq, and_true] at hg); first | (exact absurd trivial hg) | (exfalso; omega) | (have hT : True := hg; clear hT hg) | skip)))
 )
      all_goals exact ret2 (.cons (.tmp rfl cl_c) (.cons (.tmp rfl cl_c) (.cons (.tmp rfl cl_c) (.cons (.tmp rfl cl_c) .nil))))
  by_cases hd2 : 48 ≤ byt b 18 ∧ byt b 18 ≤ 57
  rotate_left
  · rw [hN (fun h => hd2 (by have := h.2.1; have := h.2.2.2.2.2.1; omega))]
    rw [decide_eq_false hd2] at c2
    rw [decide_eq_true hd1] at c1
    refine con_of Try.func72 rfl (by kernel_rfl) rfl ?_
    simp only [Try.ntmps72, Try.results72, argEnv, ofC, of1, List.map]
    rcases hm with hm | hm
    all_goals
      repeat' (first
 | (rw [f0])
 | (rw [f1])
 | (rw [f2])
 | ((with_reducible apply r_len_s); exact rfl; exact rfl)
 | ((with_reducible apply (r_call (f := 21))); exact rfl; exact rfl; exact c0; exact rfl; exact rfl)
 | ((with_reducible apply (r_call (f := 81))); exact rfl; exact rfl; (first | exact c1 | exact c2); exact rfl; exact rfl)
 | ((with_reducible apply (r_cutTo 16)); exact rfl; exact rfl; exact rfl; exact (by omega); exact rfl)
 | ((with_reducible apply (r_cutFrom 16)); exact rfl; exact rfl; exact rfl; exact (by omega); exact rfl)
 | ((with_reducible apply (r_index_n 0)); exact rfl; exact rfl; exact rfl; exact (by omega); exact rfl)
 | ((with_reducible apply (r_index_n 1)); exact rfl; exact rfl; exact rfl; exact (by omega); exact rfl)
 | ((with_reducible apply (r_index_n 2)); exact rfl; exact rfl; exact rfl; exact (by omega); exact rfl)
 | ((with_reducible apply aw_seq))
 | ((with_reducible apply aw_region))
 | ((with_reducible apply thn_normal))
 | ((with_reducible apply thn_ret))
 | ((with_reducible apply aw_skip))
 | ((with_reducible apply aw_ret))
 | ((with_reducible apply ao_nil))
 | ((with_reducible apply r_move); exact rfl; exact rfl)
 | ((with_reducible apply r_assign); exact rfl; exact rfl)
 | ((with_reducible apply r_lss); exact rfl; exact rfl; exact rfl)
 | ((with_reducible apply r_neq); exact rfl; exact rfl; exact rfl)
 | ((with_reducible apply r_pick_t); exact rfl; exact rfl; exact rfl)
 | ((with_reducible apply r_pick_f); exact rfl; exact rfl; exact rfl)
 | ((with_reducible apply r_not); exact rfl; exact rfl)
 | ((with_reducible apply r_extract); exact rfl; exact rfl; exact rfl)
 | (((with_reducible apply r_guard); exact rfl; exact rfl; exact rfl; exact rfl) <;> intro hg <;> (first | (exact absurd hg (by decide)) | ((try simp only [decide_eq_true_eq, decide_eq_false_iff_not, Bool.not_eq_true', Bool.not_eq_false', Bool.not_true, Bool.not_false, Bool.not_not, Int.not_lt, Int.not_le, Nat.not_lt, Nat.not_le, gt_iff_lt, ge_iff_le, List.cons.injEq, and_true] at hg); first | (exact absurd trivial hg) | (exfalso; omega) | (have hT : True := hg; clear hT hg) | skip)))
 | (((with_reducible apply aw_cond); exact rfl) <;> intro hg <;> (first | (exact absurd hg (by decide)) | ((try simp only [decide_eq_true_eq, decide_eq_false_iff_not, Bool.not_eq_true', Bool.not_eq_false', Bool.not_true, Bool.not_false, Bool.not_not, Int.not_lt, Int.not_le, Nat.not_lt, Nat.not_le, gt_iff_lt, ge_iff_le, List.cons.injEq, and_true] at hg); first | (exact absurd trivial hg) | (exfalso; omega) | (have hT : True := hg; clear hT hg) | skip)))
 )
      all_goals exact ret2 (.cons (.tmp rfl cl_c) (.cons (.tmp rfl cl_c) (.cons (.tmp rfl cl_c) (.cons (.tmp rfl cl_c) .nil))))
  rw [decide_eq_true hd1] at c1
  rw [decide_eq_true hd2] at c2
  have hs1 := sub8 hd1.1 hd1.2
  have hs2 := sub8 hd2.1 hd2.2
  have hv1 := i64of (m := byt b 17 - 48) (by omega)
  have hv2 := i64of (m := byt b 18 - 48) (by omega)
  have hps : ((b.extract 16 b.size).extract 3 (b.extract 16 b.size).size).size = b.size - 19 := by rw [ext_ext, ByteArray.size_extract]; omega
  obtain ⟨k, hk⟩ : ∃ k, k = (byt b 17 - 48) * 10 + (byt b 18 - 48) := ⟨_, rfl⟩
  have hki : ((byt b 17 - 48 : Nat) : Int) * 10 + ((byt b 18 - 48 : Nat) : Int) = (k : Int) := by rw [hk]; push_cast; rfl
  by_cases hlen : 1 ≤ k ∧ k ≤ 45 ∧ b.size - 19 = k
  rotate_left
  · rw [hN (fun h => hlen (by
      obtain ⟨a1, a2, _, _, a5, a6, _⟩ := h
      refine ⟨?_, ?_, ?_⟩ <;> omega))]
    refine con_of Try.func72 rfl (by kernel_rfl) rfl ?_
    simp only [Try.ntmps72, Try.results72, argEnv, ofC, of1, List.map]
    by_cases hk1 : 1 ≤ k
    all_goals by_cases hk2 : k ≤ 45
    all_goals rcases hm with hm | hm
    all_goals
      have hlen2 : 1 ≤ k → k ≤ 45 → ¬ b.size - 19 = k := fun x y z => hlen ⟨x, y, z⟩
      repeat' (first
 | (rw [hps])
 | (rw [hki])
 | (rw [f0])
 | (rw [f1])
 | (rw [f2])
 | ((with_reducible apply r_len_s); exact rfl; exact rfl)
 | ((with_reducible apply (r_call (f := 21))); exact rfl; exact rfl; exact c0; exact rfl; exact rfl)
 | ((with_reducible apply (r_call (f := 81))); exact rfl; exact rfl; (first | exact c1 | exact c2); exact rfl; exact rfl)
 | ((with_reducible apply (r_cutTo 16)); exact rfl; exact rfl; exact rfl; exact (by omega); exact rfl)
 | ((with_reducible apply (r_cutFrom 16)); exact rfl; exact rfl; exact rfl; exact (by omega); exact rfl)
 | ((with_reducible apply (r_cutFrom 3)); exact rfl; exact rfl; exact rfl; exact (by omega); exact rfl)
 | ((with_reducible apply (r_index_n 0)); exact rfl; exact rfl; exact rfl; exact (by omega); exact rfl)
 | ((with_reducible apply (r_index_n 1)); exact rfl; exact rfl; exact rfl; exact (by omega); exact rfl)
 | ((with_reducible apply (r_index_n 2)); exact rfl; exact rfl; exact rfl; exact (by omega); exact rfl)
 | ((with_reducible apply r_subv); exact rfl; exact rfl; (first | exact hs1 | exact hs2); exact rfl)
 | ((with_reducible apply r_conv); exact rfl; (first | exact hv1 | exact hv2); exact rfl)
 | ((with_reducible apply aw_seq))
 | ((with_reducible apply aw_region))
 | ((with_reducible apply thn_normal))
 | ((with_reducible apply thn_ret))
 | ((with_reducible apply aw_skip))
 | ((with_reducible apply aw_ret))
 | ((with_reducible apply ao_nil))
 | ((with_reducible apply r_move); exact rfl; exact rfl)
 | ((with_reducible apply r_assign); exact rfl; exact rfl)
 | ((with_reducible apply r_lss); exact rfl; exact rfl; exact rfl)
 | ((with_reducible apply r_gtr); exact rfl; exact rfl; exact rfl)
 | ((with_reducible apply r_neq); exact rfl; exact rfl; exact rfl)
 | ((with_reducible apply r_add); exact rfl; exact rfl; exact (by first | assumption | (unfold fits; omega)); exact rfl)
 | ((with_reducible apply r_mul); exact rfl; exact rfl; exact (by first | assumption | (unfold fits; omega)); exact rfl)
 | ((with_reducible apply r_pick_t); exact rfl; exact rfl; exact rfl)
 | ((with_reducible apply r_pick_f); exact rfl; exact rfl; exact rfl)
 | ((with_reducible apply r_not); exact rfl; exact rfl)
 | ((with_reducible apply r_extract); exact rfl; exact rfl; exact rfl)
 | (((with_reducible apply r_guard); exact rfl; exact rfl; exact rfl; exact rfl) <;> intro hg <;> (first | (exact absurd hg (by decide)) | ((try simp only [decide_eq_true_eq, decide_eq_false_iff_not, Bool.not_eq_true', Bool.not_eq_false', Bool.not_true, Bool.not_false, Bool.not_not, Int.not_lt, Int.not_le, Nat.not_lt, Nat.not_le, gt_iff_lt, ge_iff_le, List.cons.injEq, and_true] at hg); first | (exact absurd trivial hg) | (exfalso; omega) | (have hT : True := hg; clear hT hg) | skip)))
 | (((with_reducible apply aw_cond); exact rfl) <;> intro hg <;> (first | (exact absurd hg (by decide)) | ((try simp only [decide_eq_true_eq, decide_eq_false_iff_not, Bool.not_eq_true', Bool.not_eq_false', Bool.not_true, Bool.not_false, Bool.not_not, Int.not_lt, Int.not_le, Nat.not_lt, Nat.not_le, gt_iff_lt, ge_iff_le, List.cons.injEq, and_true] at hg); first | (exact absurd trivial hg) | (exfalso; omega) | (have hT : True := hg; clear hT hg) | skip)))
 | (refine aw_drawq ?_ ?_; (kernel_rfl))
 | ((with_reducible apply ds_nil))
 )
      all_goals exact ret2 (.cons (.tmp rfl cl_c) (.cons (.tmp rfl cl_c) (.cons (.tmp rfl cl_c) (.cons (.tmp rfl cl_c) .nil))))
  obtain ⟨hk1, hk2, hk3⟩ := hlen
  have c3 := chain_con (gl := gl) prev hp (b.extract 16 b.size) (by omega)
  have hcl := chainS_lt prev (b.extract 16 b.size)
  by_cases hh : q = chainS prev (b.extract 16 b.size)
  · rw [hS ⟨by omega, by omega, rfl, hm, by omega, by omega, hh⟩, hmark]
    have hex : (b.extract 16 b.size).extract 3 (b.extract 16 b.size).size = b.extract 19 b.size := ext_ext
    rw [← hh] at c3
    refine con_of Try.func72 rfl (by kernel_rfl) rfl ?_
    simp only [Try.ntmps72, Try.results72, argEnv, ofC, of1, List.map]
    rcases hm with hm | hm
    all_goals
      repeat' (first
 | (rw [hps])
 | (rw [hki])
 | (rw [f0])
 | (rw [f1])
 | (rw [f2])
 | ((with_reducible apply r_len_s); exact rfl; exact rfl)
 | ((with_reducible apply (r_call (f := 21))); exact rfl; exact rfl; exact c0; exact rfl; exact rfl)
 | ((with_reducible apply (r_call (f := 81))); exact rfl; exact rfl; (first | exact c1 | exact c2); exact rfl; exact rfl)
 | ((with_reducible apply (r_call (f := 41))); exact rfl; exact rfl; exact c3; exact rfl; exact rfl)
 | ((with_reducible apply (r_cutTo 16)); exact rfl; exact rfl; exact rfl; exact (by omega); exact rfl)
 | ((with_reducible apply (r_cutFrom 16)); exact rfl; exact rfl; exact rfl; exact (by omega); exact rfl)
 | ((with_reducible apply (r_cutFrom 3)); exact rfl; exact rfl; exact rfl; exact (by omega); exact rfl)
 | ((with_reducible apply (r_index_n 0)); exact rfl; exact rfl; exact rfl; exact (by omega); exact rfl)
 | ((with_reducible apply (r_index_n 1)); exact rfl; exact rfl; exact rfl; exact (by omega); exact rfl)
 | ((with_reducible apply (r_index_n 2)); exact rfl; exact rfl; exact rfl; exact (by omega); exact rfl)
 | ((with_reducible apply r_subv); exact rfl; exact rfl; (first | exact hs1 | exact hs2); exact rfl)
 | ((with_reducible apply r_conv); exact rfl; (first | exact hv1 | exact hv2); exact rfl)
 | ((with_reducible apply aw_seq))
 | ((with_reducible apply aw_region))
 | ((with_reducible apply thn_normal))
 | ((with_reducible apply aw_skip))
 | ((with_reducible apply aw_ret))
 | ((with_reducible apply ao_nil))
 | ((with_reducible apply r_move); exact rfl; exact rfl)
 | ((with_reducible apply r_assign); exact rfl; exact rfl)
 | ((with_reducible apply r_lss); exact rfl; exact rfl; exact rfl)
 | ((with_reducible apply r_gtr); exact rfl; exact rfl; exact rfl)
 | ((with_reducible apply r_neq); exact rfl; exact rfl; exact rfl)
 | ((with_reducible apply r_add); exact rfl; exact rfl; exact (by first | assumption | (unfold fits; omega)); exact rfl)
 | ((with_reducible apply r_mul); exact rfl; exact rfl; exact (by first | assumption | (unfold fits; omega)); exact rfl)
 | ((with_reducible apply r_pick_t); exact rfl; exact rfl; exact rfl)
 | ((with_reducible apply r_pick_f); exact rfl; exact rfl; exact rfl)
 | ((with_reducible apply r_not); exact rfl; exact rfl)
 | ((with_reducible apply r_extract); exact rfl; exact rfl; exact rfl)
 | (((with_reducible apply r_guard); exact rfl; exact rfl; exact rfl; exact rfl) <;> intro hg <;> (first | (exact absurd hg (by decide)) | ((try simp only [decide_eq_true_eq, decide_eq_false_iff_not, Bool.not_eq_true', Bool.not_eq_false', Bool.not_true, Bool.not_false, Bool.not_not, Int.not_lt, Int.not_le, Nat.not_lt, Nat.not_le, gt_iff_lt, ge_iff_le, List.cons.injEq, and_true] at hg); first | (exact absurd trivial hg) | (exfalso; omega) | (have hT : True := hg; clear hT hg) | skip)))
 | (((with_reducible apply aw_cond); exact rfl) <;> intro hg <;> (first | (exact absurd hg (by decide)) | ((try simp only [decide_eq_true_eq, decide_eq_false_iff_not, Bool.not_eq_true', Bool.not_eq_false', Bool.not_true, Bool.not_false, Bool.not_not, Int.not_lt, Int.not_le, Nat.not_lt, Nat.not_le, gt_iff_lt, ge_iff_le, List.cons.injEq, and_true] at hg); first | (exact absurd trivial hg) | (exfalso; omega) | (have hT : True := hg; clear hT hg) | skip)))
 | (refine aw_drawq ?_ ?_; (kernel_rfl))
 | ((with_reducible apply ds_nil))
 )
      all_goals exact ret2 (.cons (.tmp rfl cl_c) (.cons (.tmp rfl cl_c) (.cons (.tmp rfl (Or.inl (by rw [hex]))) (.cons (.tmp rfl cl_c) .nil))))
  · rw [hN (fun h => hh h.2.2.2.2.2.2)]
    refine con_of Try.func72 rfl (by kernel_rfl) rfl ?_
    simp only [Try.ntmps72, Try.results72, argEnv, ofC, of1, List.map]
    rcases hm with hm | hm
    all_goals
      repeat' (first
 | (rw [hps])
 | (rw [hki])
 | (rw [f0])
 | (rw [f1])
 | (rw [f2])
 | ((with_reducible apply r_len_s); exact rfl; exact rfl)
 | ((with_reducible apply (r_call (f := 21))); exact rfl; exact rfl; exact c0; exact rfl; exact rfl)
 | ((with_reducible apply (r_call (f := 81))); exact rfl; exact rfl; (first | exact c1 | exact c2); exact rfl; exact rfl)
 | ((with_reducible apply (r_call (f := 41))); exact rfl; exact rfl; exact c3; exact rfl; exact rfl)
 | ((with_reducible apply (r_cutTo 16)); exact rfl; exact rfl; exact rfl; exact (by omega); exact rfl)
 | ((with_reducible apply (r_cutFrom 16)); exact rfl; exact rfl; exact rfl; exact (by omega); exact rfl)
 | ((with_reducible apply (r_cutFrom 3)); exact rfl; exact rfl; exact rfl; exact (by omega); exact rfl)
 | ((with_reducible apply (r_index_n 0)); exact rfl; exact rfl; exact rfl; exact (by omega); exact rfl)
 | ((with_reducible apply (r_index_n 1)); exact rfl; exact rfl; exact rfl; exact (by omega); exact rfl)
 | ((with_reducible apply (r_index_n 2)); exact rfl; exact rfl; exact rfl; exact (by omega); exact rfl)
 | ((with_reducible apply r_subv); exact rfl; exact rfl; (first | exact hs1 | exact hs2); exact rfl)
 | ((with_reducible apply r_conv); exact rfl; (first | exact hv1 | exact hv2); exact rfl)
 | ((with_reducible apply aw_seq))
 | ((with_reducible apply aw_region))
 | ((with_reducible apply thn_normal))
 | ((with_reducible apply thn_ret))
 | ((with_reducible apply aw_skip))
 | ((with_reducible apply aw_ret))
 | ((with_reducible apply ao_nil))
 | ((with_reducible apply r_move); exact rfl; exact rfl)
 | ((with_reducible apply r_assign); exact rfl; exact rfl)
 | ((with_reducible apply r_lss); exact rfl; exact rfl; exact rfl)
 | ((with_reducible apply r_gtr); exact rfl; exact rfl; exact rfl)
 | ((with_reducible apply r_neq); exact rfl; exact rfl; exact rfl)
 | ((with_reducible apply r_add); exact rfl; exact rfl; exact (by first | assumption | (unfold fits; omega)); exact rfl)
 | ((with_reducible apply r_mul); exact rfl; exact rfl; exact (by first | assumption | (unfold fits; omega)); exact rfl)
 | ((with_reducible apply r_pick_t); exact rfl; exact rfl; exact rfl)
 | ((with_reducible apply r_pick_f); exact rfl; exact rfl; exact rfl)
 | ((with_reducible apply r_not); exact rfl; exact rfl)
 | ((with_reducible apply r_extract); exact rfl; exact rfl; exact rfl)
 | (((with_reducible apply r_guard); exact rfl; exact rfl; exact rfl; exact rfl) <;> intro hg <;> (first | (exact absurd hg (by decide)) | ((try simp only [decide_eq_true_eq, decide_eq_false_iff_not, Bool.not_eq_true', Bool.not_eq_false', Bool.not_true, Bool.not_false, Bool.not_not, Int.not_lt, Int.not_le, Nat.not_lt, Nat.not_le, gt_iff_lt, ge_iff_le, List.cons.injEq, and_true] at hg); first | (exact absurd trivial hg) | (exfalso; omega) | (have hT : True := hg; clear hT hg) | skip)))
 | (((with_reducible apply aw_cond); exact rfl) <;> intro hg <;> (first | (exact absurd hg (by decide)) | ((try simp only [decide_eq_true_eq, decide_eq_false_iff_not, Bool.not_eq_true', Bool.not_eq_false', Bool.not_true, Bool.not_false, Bool.not_not, Int.not_lt, Int.not_le, Nat.not_lt, Nat.not_le, gt_iff_lt, ge_iff_le, List.cons.injEq, and_true] at hg); first | (exact absurd trivial hg) | (exfalso; omega) | (have hT : True := hg; clear hT hg) | skip)))
 | (refine aw_drawq ?_ ?_; (kernel_rfl))
 | ((with_reducible apply ds_nil))
 )
      all_goals exact ret2 (.cons (.tmp rfl cl_c) (.cons (.tmp rfl cl_c) (.cons (.tmp rfl cl_c) (.cons (.tmp rfl cl_c) .nil))))
end Go.Proofs.Ythkjkhffljlidaa.Jo
/- The journal: whether a block continues it, in the reference. -/
namespace Go.Proofs.Ythkjkhffljlidaa.Jo
set_option linter.unusedVariables false
set_option linter.unusedSimpArgs false
open Go.RowKit Go.Proofs.Ythkjkhffljlidaa.Ev
variable {gl : List (Nat × List CV)}
section
variable {P : Program} {X : List Oper → St → Prop} {rest : List Oper} {d : Nat} {ty : TypeId} {pos : String} {af : Array Edge} {n : Nat} {env : List (Nat × AV)} {heap : List (Nat × Option AB)} {nx : Nat} {gl : List (Nat × List CV)}
theorem r_neqstr_v [W : Walk P X] {x y : Operand} {t t2 : TypeId} {a b : ByteArray} (v : Bool) (hx : St.ev ⟨n, env, heap, nx, gl⟩ x = some (.c (.v (.string a)))) (hy : St.ev ⟨n, env, heap, nx, gl⟩ y = some (.c (.v (.string b)))) (hv : (a.toList == b.toList) = v) (hd : Nat.blt d n = true) (h : X rest ⟨n, (d, .c (.v (.bool (!v)))) :: env, heap, nx, gl⟩) : X (⟨some d, .binOp .neq t x y t2, ty, pos, af, none⟩ :: rest) ⟨n, env, heap, nx, gl⟩ := by
  subst hv; exact r_neqstr hx hy hd h
end
theorem byt_get {s : ByteArray} {k : Nat} (h : k < s.data.toList.length) : byt s k = (s.data.toList[k]).toNat := by
  unfold byt
  rw [List.getD_eq_getElem?_getD, List.getElem?_eq_getElem h]; rfl
end Go.Proofs.Ythkjkhffljlidaa.Jo
/- The journal: the reference's reader, and the records of a stream. -/
namespace Go.Proofs.Ythkjkhffljlidaa.Jo
set_option linter.unusedVariables false
set_option linter.unusedSimpArgs false
open Go.RowKit Go.Proofs.Ythkjkhffljlidaa.Ev
variable {gl : List (Nat × List CV)}
end Go.Proofs.Ythkjkhffljlidaa.Jo
/- The disk in plain Lean: its state, and what each call does. -/
namespace Go.Proofs.Ythkjkhffljlidaa.Dk
set_option linter.unusedVariables false
set_option linter.unusedSimpArgs false
structure DS where
  blocks : List ByteArray
  pend : List (Int × ByteArray)
  down : Bool
  armed : Bool
  steps : Int
  mask : Int
def bitOf (m : Int) (k : Nat) : Bool := m / 2 ^ (k % 64) % 2 == 1
def settleGo (bit : Nat → Bool) : Nat → List (Int × ByteArray) → List ByteArray → List ByteArray
  | _, [], b => b
  | k, x :: r, b => settleGo bit (k + 1) r (if bit k then b.set x.1.toNat x.2 else b)
def DS.settle (s : DS) (bit : Nat → Bool) : DS := { s with blocks := settleGo bit 0 s.pend s.blocks, pend := [] }
def DS.crash (s : DS) (m : Int) : DS := { (s.settle (bitOf m)) with armed := false, steps := 0, mask := 0, down := true }
def DS.step (s : DS) : DS × Bool := if s.armed then (if s.steps = 0 then (s.crash s.mask, false) else ({ s with steps := s.steps - 1 }, true)) else (s, true)
def inB (s : DS) (n : Int) : Bool := decide (0 ≤ n) && decide (n < s.blocks.length)
def DS.write (s : DS) (n : Int) (t : ByteArray) : DS × Int :=
  if s.down then (s, 17) else if inB s n then (if 64 < t.size then (s, 4) else (if s.step.2 then ({ s.step.1 with pend := s.step.1.pend ++ [(n, t)] }, 0) else (s.step.1, 17))) else (s, 9)
def newest : List (Int × ByteArray) → Int → Option ByteArray
  | [], _ => none
  | x :: r, n => (newest r n).or (if x.1 = n then some x.2 else none)
def DS.read (s : DS) (n : Int) : ByteArray × Int :=
  if s.down then (ByteArray.empty, 17) else if inB s n then ((newest s.pend n).getD (s.blocks.getD n.toNat ByteArray.empty), 0) else (ByteArray.empty, 9)
def DS.flush (s : DS) : DS × Int := if s.down then (s, 17) else if s.step.2 then (s.step.1.settle (fun _ => true), 0) else (s.step.1, 17)
def DS.arm (s : DS) (n m : Int) : DS × Int := if s.down then (s, 17) else if 0 ≤ n ∧ n ≤ 1099511627776 then ({ s with armed := true, steps := n, mask := m }, 0) else (s, 9)
def DS.hit (s : DS) (m : Int) : DS × Int := if s.down then (s, 17) else (s.crash m, 0)
def DS.recover (s : DS) : DS × Int := if s.down then ({ s with down := false }, 0) else (s, 14)
def DS.new (n : Nat) : DS := ⟨List.replicate n ByteArray.empty, [], false, false, 0, 0⟩
structure Fine (s : DS) : Prop where
  len : 1 ≤ s.blocks.length ∧ s.blocks.length ≤ 4096
  text : ∀ x ∈ s.blocks, x.size ≤ 64
  pend : ∀ x ∈ s.pend, (∃ m : Nat, x.1 = (m : Int) ∧ m < s.blocks.length) ∧ x.2.size ≤ 64
  steps : 0 ≤ s.steps ∧ s.steps ≤ 1099511627776
  mask : 0 ≤ s.mask ∧ s.mask < 18446744073709551616
theorem settleGo_len (bit : Nat → Bool) : ∀ (p : List (Int × ByteArray)) (k : Nat) (b : List ByteArray), (settleGo bit k p b).length = b.length
  | [], _, _ => rfl
  | x :: r, k, b => by
    simp only [settleGo]
    rw [settleGo_len bit r]
    split <;> simp
theorem settleGo_mem (bit : Nat → Bool) : ∀ (p : List (Int × ByteArray)) (k : Nat) (b : List ByteArray) (Q : ByteArray → Prop), (∀ x ∈ p, Q x.2) → (∀ x ∈ b, Q x) → ∀ x ∈ settleGo bit k p b, Q x
  | [], _, b, Q, _, hb => hb
  | x :: r, k, b, Q, hp, hb => by
    simp only [settleGo]
    refine settleGo_mem bit r (k + 1) _ Q (fun y hy => hp y (List.mem_cons_of_mem _ hy)) ?_
    split
    · intro y hy
      rcases List.mem_or_eq_of_mem_set hy with h | h
      · exact hb y h
      · rw [h]; exact hp x List.mem_cons_self
    · exact hb
theorem settleGo_snoc (bit : Nat → Bool) : ∀ (p : List (Int × ByteArray)) (k : Nat) (b : List ByteArray) (x : Int × ByteArray), settleGo bit k (p ++ [x]) b = if bit (k + p.length) then (settleGo bit k p b).set x.1.toNat x.2 else settleGo bit k p b
  | [], k, b, x => by simp [settleGo]
  | y :: r, k, b, x => by
    simp only [List.cons_append, settleGo]
    rw [settleGo_snoc bit r (k + 1) _ x, List.length_cons, show k + 1 + r.length = k + (r.length + 1) from by omega]
theorem Fine.settle {s : DS} (h : Fine s) (bit : Nat → Bool) : Fine (s.settle bit) :=
  ⟨by show 1 ≤ (settleGo bit 0 s.pend s.blocks).length ∧ _; rw [settleGo_len]; exact ⟨h.len.1, by show (settleGo bit 0 s.pend s.blocks).length ≤ _; rw [settleGo_len]; exact h.len.2⟩,
   settleGo_mem bit s.pend 0 s.blocks _ (fun x hx => (h.pend x hx).2) h.text, by simp [DS.settle], h.steps, h.mask⟩
theorem Fine.crash {s : DS} (h : Fine s) (m : Int) : Fine (s.crash m) := by
  have := h.settle (bitOf m)
  exact ⟨this.len, this.text, this.pend, ⟨by simp [DS.crash], by simp [DS.crash]⟩, ⟨by simp [DS.crash], by simp [DS.crash]⟩⟩
theorem Fine.step {s : DS} (h : Fine s) : Fine s.step.1 := by
  unfold DS.step
  split
  · split
    · exact h.crash _
    · have := h.steps
      exact ⟨h.len, h.text, h.pend, ⟨by simp; omega, by simp; omega⟩, h.mask⟩
  · exact h
theorem step_blocks (s : DS) : s.step.1.blocks.length = s.blocks.length := by
  unfold DS.step
  split
  · split
    · simp [DS.crash, DS.settle, settleGo_len]
    · rfl
  · rfl
theorem inB_iff (s : DS) (n : Int) : inB s n = true ↔ ∃ m : Nat, n = (m : Int) ∧ m < s.blocks.length := by
  unfold inB
  simp only [Bool.and_eq_true, decide_eq_true_eq]
  constructor
  · rintro ⟨h1, h2⟩; exact ⟨n.toNat, by omega, by omega⟩
  · rintro ⟨m, rfl, h⟩; exact ⟨by omega, by omega⟩
theorem Fine.push {s : DS} (h : Fine s) {m : Nat} {t : ByteArray} (hm : m < s.blocks.length) (ht : t.size ≤ 64) : Fine { s with pend := s.pend ++ [((m : Int), t)] } :=
  ⟨h.len, h.text, fun x hx => by
    rcases List.mem_append.1 hx with hx | hx
    · exact h.pend x hx
    · simp at hx; subst hx; exact ⟨⟨m, rfl, hm⟩, ht⟩, h.steps, h.mask⟩
theorem Fine.new (n : Nat) (h1 : 1 ≤ n) (h2 : n ≤ 4096) : Fine (DS.new n) :=
  ⟨by simp [DS.new]; omega, fun x hx => by simp [DS.new] at hx; rw [hx.2]; decide, by simp [DS.new], by simp [DS.new], by simp [DS.new]⟩
theorem newest_snoc : ∀ (p : List (Int × ByteArray)) (x : Int × ByteArray) (n : Int), newest (p ++ [x]) n = if x.1 = n then some x.2 else newest p n
  | [], x, n => by simp [newest]
  | y :: r, x, n => by
    simp only [List.cons_append, newest]
    rw [newest_snoc r x n]
    split <;> simp
theorem newest_none {p : List (Int × ByteArray)} {n : Int} (h : ∀ x ∈ p, x.1 ≠ n) : newest p n = none := by
  induction p with
  | nil => rfl
  | cons y r ih =>
    simp only [newest]
    rw [ih (fun x hx => h x (List.mem_cons_of_mem _ hx)), if_neg (h y List.mem_cons_self)]
    rfl
end Go.Proofs.Ythkjkhffljlidaa.Dk
/- What a call leaves alone: all blocks but those of a set. Nothing here names a program. -/
namespace Go.Proofs.Ythkjkhffljlidaa.Kit
set_option linter.unusedVariables false
set_option linter.unusedSimpArgs false
open Go.RowKit
structure Keeps (S : Nat → Prop) (w w' : World) : Prop where
  os : w'.os = w.os
  tape : w'.tape = w.tape
  output : w'.output = w.output
  size : w.heap.size ≤ w'.heap.size
  block : ∀ k, k < w.heap.size → ¬ S k → w'.heap[k]? = w.heap[k]?
section
variable {S : Nat → Prop} {w w' w'' : World}
theorem Keeps.refl (S : Nat → Prop) (w : World) : Keeps S w w := ⟨rfl, rfl, rfl, Nat.le_refl _, fun _ _ _ => rfl⟩
theorem Keeps.trans {S' : Nat → Prop} (h : Keeps S w w') (h' : Keeps S' w' w'') (hs : ∀ k, k < w.heap.size → S' k → S k) : Keeps S w w'' :=
  ⟨h'.os.trans h.os, h'.tape.trans h.tape, h'.output.trans h.output, Nat.le_trans h.size h'.size, fun k hk hn => (h'.block k (Nat.lt_of_lt_of_le hk h.size) (fun hc => hn (hs k hk hc))).trans (h.block k hk hn)⟩
theorem Keeps.trans' (h : Keeps S w w') (h' : Keeps S w' w'') : Keeps S w w'' := h.trans h' (fun _ _ h => h)
theorem Keeps.of_below (h : Below w.heap.size w w') : Keeps S w w' := ⟨h.os, h.tape, h.output, h.size, fun k hk _ => h.block k hk⟩
theorem Keeps.below (h : Keeps S w w') {B : Nat} (hB : ∀ k, k < B → k < w.heap.size ∧ ¬ S k) : Below B w w' := ⟨h.os, h.tape, h.output, h.size, fun k hk => h.block k (hB k hk).1 (hB k hk).2⟩
theorem Keeps.mono {S' : Nat → Prop} (h : Keeps S w w') (hs : ∀ k, S k → S' k) : Keeps S' w w' := ⟨h.os, h.tape, h.output, h.size, fun k hk hn => h.block k hk (fun hc => hn (hs k hc))⟩
theorem Keeps.drew (h : Keeps S w w') : Keeps S w w'.drew := ⟨h.os, h.tape, h.output, h.size, h.block⟩
theorem Keeps.alloc (h : Keeps S w w') (o : Obj) : Keeps S w (w'.alloc o) :=
  h.trans' (Keeps.of_below ((Below.refl _ _).alloc (Nat.le_refl _) _))
theorem Keeps.setCell (h : Keeps S w w') {p : Addr} (hp : S p.block ∨ w.heap.size ≤ p.block) (u : Value) : Keeps S w (w'.setCell p u) :=
  ⟨h.os, h.tape, h.output, by simpa [World.setCell] using h.size, fun k hk hn => by
    rw [Below.heap_setCell w' p u k (by rintro rfl; rcases hp with hp | hp; exact hn hp; omega)]
    exact h.block k hk hn⟩
theorem Keeps.grown (h : Keeps S w w') {row : Option Nat} (hg : w'.grownBy w'' row) (hr : ∀ k, row = some k → S k ∨ w.heap.size ≤ k) : Keeps S w w'' :=
  ⟨hg.os.trans h.os, hg.tape.trans h.tape, hg.output.trans h.output, Nat.le_trans h.size hg.size, fun k hk hn => by
    rw [hg.block k (Nat.lt_of_lt_of_le hk h.size) (fun e => by rcases hr k e.symm with hc | hc; exact hn hc; omega)]
    exact h.block k hk hn⟩
theorem Keeps.turned (h : Keeps S w w') {b : Nat} (hg : w'.mapTurned w'' b) (hr : S b) : Keeps S w w'' :=
  h.grown hg.grown (fun k hk => Or.inl (by cases hk; exact hr))
end
section
variable {α : Type} {E : TypeId} {size : Nat} {enc : α → List Value} {w w' : World}
theorem Own.keeps {S : Nat → Prop} {B : Nat} {v : Value} {l : List α} (h : Own E size enc w B v l) (hk : Keeps S w w') (hn : ∀ k, v.ownBlock = some k → ¬ S k) : Own E size enc w' B v l := by
  have hlt := fun k hk => (World.ownsRow.lt h k hk).2
  obtain ⟨h1, h2⟩ := h
  refine ⟨h1, ?_⟩
  rcases h2 with hn' | ⟨g, cap, cur, rfl, hg, hh, r⟩
  · exact Or.inl hn'
  · exact Or.inr ⟨g, cap, cur, rfl, hg, by rw [hk.block g (hlt g rfl) (hn g rfl)]; exact hh, r⟩
theorem Sl.keeps {S : Nat → Prop} {v : Value} {l : List α} (h : Sl size enc w w.heap.size v l) (hk : Keeps S w w') (hn : ∀ k, v.ownBlock = some k → l ≠ [] → ¬ S k) : Sl size enc w' w'.heap.size v l :=
  (h.other (fun k h1 h2 h3 => hk.block k h3 (hn k h1 h2))).mono hk.size
theorem blk_keeps {S : Nat → Prop} {g : Nat} {o : Obj} (h : w.heap[g]? = some o) (hk : Keeps S w w') (hn : ¬ S g) : w'.heap[g]? = some o := by
  rw [hk.block g (Array.getElem?_eq_some_iff.1 h).1 hn]; exact h
end
end Go.Proofs.Ythkjkhffljlidaa.Kit
/- make([]T, n): a slice of the call's own that holds n zero elements. Nothing here names a program. -/
namespace Go.Proofs.Ythkjkhffljlidaa.Kit
set_option linter.unusedVariables false
set_option linter.unusedSimpArgs false
open Go.RowKit
section
variable {α : Type} {P : Program} {t E : TypeId} {size bytes : Nat} {enc : α → List Value}
theorem made_flat (z : Array Value) (z0 : α) (hz : z.toList = enc z0) (hs : z.size = size) (hpos : 0 < size) : ∀ n, (madeCells z (n * size)).toList = (List.replicate n z0).flatMap enc := by
  intro n
  have hl : (enc z0).length = size := by rw [← hz]; simpa using hs
  refine List.ext_getElem? fun i => ?_
  by_cases hi : i < n * size
  · have hq : i / size < n := (Nat.div_lt_iff_lt_mul hpos).2 hi
    have hr : i % size < size := Nat.mod_lt _ hpos
    have e : i / size * size + i % size = i := by rw [Nat.mul_comm]; exact Nat.div_add_mod i size
    have h2 := flat_get (enc := fun _ : Unit => enc z0) (fun _ => hl) (List.replicate n ()) (i / size) (i % size) () (by simp [hq]) hr
    rw [e] at h2
    have e3 : (List.replicate n ()).flatMap (fun _ : Unit => enc z0) = (List.replicate n z0).flatMap enc := by
      clear h2 hq hi
      induction n with
      | zero => rfl
      | succ n ih => rw [List.replicate_succ, List.replicate_succ, List.flatMap_cons, List.flatMap_cons, ih]
    rw [e3] at h2
    rw [h2, ← hz]
    simp [madeCells, hi, hs, hr]
  · have h1 : ((List.replicate n z0).flatMap enc).length = n * size := by
      clear hi
      induction n with
      | zero => simp
      | succ n ih => rw [List.replicate_succ, List.flatMap_cons, List.length_append, ih, hl, Nat.add_mul]; omega
    rw [List.getElem?_eq_none (by simp [madeCells]; omega), List.getElem?_eq_none (by omega)]
theorem wp_make (T : SlTy P t E size bytes enc) (z0 : α) (hz : ∀ i z, P.info? E = some i → i.zero = some z → z.cells.toList = enc z0)
    {ops : Array Oper} {rest : List Oper} {o : Oper} {a : Act} {Q : Exit → Act → World → Prop} (w : World)
    (hg : o.guard = none) (l c : Operand) (hop : o.op = Op.makeSlice t l c) (B n : Nat) (hl : a.eval l = .int .i64 (n : Int)) (hc : a.eval c = .int .i64 (n : Int)) (b2 : bytes * n ≤ 281474976710656) (b3 : n ≤ maxLen) (b4 : B ≤ w.heap.size) (H : Nat) (hH : w.heap.size = H)
    (hK : ∀ w', Own E size enc w' B (.slice (some ⟨H, 0, none⟩) n n) (List.replicate n z0) → Below w.heap.size w w' → H < w'.heap.size → wpList P ops Q rest (a.put o.dst (.slice (some ⟨H, 0, none⟩) n n)) w') :
    wpList P ops Q (o :: rest) a w := by
  subst hH
  obtain ⟨i, z, hi, hz0, hz1, hz2, hz3⟩ := T.info
  refine wpList_make_full w hg l c t hop B E i z size T.und hi hz0 hz1 .i64 .i64 (n : Int) (n : Int) n hl hc rfl rfl (by rw [hz2]; exact b2) b3 b4 ?_
  intro w' h1 h2
  refine hK w' ?_ ⟨h2.os, h2.tape, h2.output, h2.size, fun k hk => h2.block k hk (by simp)⟩ ?_
  · unfold Own
    rw [List.length_replicate, ← made_flat z.cells z0 (hz i z hi hz0) hz3 T.pos]
    exact h1
  · rcases h1.2 with ⟨h, _⟩ | ⟨g, cap, cur, hv, _, hh, _⟩
    · simp at h
    · simp only [Value.slice.injEq, Option.some.injEq, Addr.mk.injEq] at hv
      obtain ⟨⟨rfl, _, _⟩, _, _⟩ := hv
      exact (Array.getElem?_eq_some_iff.1 hh).1
end
end Go.Proofs.Ythkjkhffljlidaa.Kit
