/- JL3 JL4: texts laid together. -/
import Derived.Test.YthkjkhffljlidaaMrgX7
set_option maxRecDepth 100000
set_option maxHeartbeats 64000000
/- The law JournalRuns. -/
namespace Go.Proofs.Ythkjkhffljlidaa.Jo
set_option linter.unusedVariables false
set_option linter.unusedSimpArgs false
open Go.RowKit Go.Proofs.Ythkjkhffljlidaa.Ev Go.Proofs.Ythkjkhffljlidaa.Dk
variable {gl : List (Nat × List CV)}
theorem add_bd {t : JS} {g : List ByteArray} {u h i : Nat} (h1 : t.gr.length ≤ i) (h2 : ∀ x ∈ t.gr, x.length ≤ 40) (h3 : g.length ≤ 40) : (t.add g u h).gr.length ≤ i + 1 ∧ ∀ x ∈ (t.add g u h).gr, x.length ≤ 40 := by
  refine ⟨by show (t.gr ++ [g]).length ≤ _; simp; omega, fun x hx => ?_⟩
  have hx : x ∈ t.gr ++ [g] := hx
  rcases List.mem_append.1 hx with hx | hx
  · exact h2 x hx
  · rw [List.mem_singleton.1 hx]; exact h3
theorem ba_self (s : ByteArray) : (s.toList == s.toList) = true := by simp
theorem jruns_law (n : Int) (_ : fits n) (gs : List (List ByteArray)) (_ : (∀ g ∈ gs, (∀ x ∈ g, x.size ≤ maxLen) ∧ g.length ≤ maxLen) ∧ gs.length ≤ maxLen) : Con Try.prog gl 6 [I n, LG gs] T := by
  have ca := awake_con (gl := gl)
  have c0 := sized_con (gl := gl) n
  have c1 := small_con (gl := gl) gs
  by_cases hok : sizedS n = true ∧ smallS gs = true
  rotate_left
  · skip
    refine con_of Try.func6 rfl (by kernel_rfl) rfl ?_
    simp only [Try.ntmps6, Try.results6, argEnv, ofC, of1, List.map]
    cases hz : sizedS n with
    | false =>
      rw [hz] at c0
      repeat' (first
 | ((with_reducible apply (r_call (f := 15))); exact rfl; exact rfl; exact c0; exact rfl; exact rfl)
 | ((with_reducible apply (r_call (args := []) (f := 11))); exact rfl; exact rfl; exact ca; exact rfl; exact rfl)
 | ((with_reducible apply aw_seq))
 | ((with_reducible apply aw_region))
 | ((with_reducible apply thn_normal))
 | ((with_reducible apply thn_ret))
 | ((with_reducible apply aw_ret))
 | ((with_reducible apply ao_nil))
 | ((with_reducible apply r_move); exact rfl; exact rfl)
 | ((with_reducible apply r_assign); exact rfl; exact rfl)
 | ((with_reducible apply r_pick_t); exact rfl; exact rfl; exact rfl)
 | ((with_reducible apply r_not); exact rfl; exact rfl)
 | (((with_reducible apply r_guard); exact rfl; exact rfl; exact rfl; exact rfl) <;> intro hg <;> (first | (exact absurd hg (by decide)) | ((try simp only [decide_eq_true_eq, decide_eq_false_iff_not, Bool.not_eq_true', Bool.not_eq_false', Bool.not_true, Bool.not_false, Bool.not_not, Int.not_lt, Int.not_le, Nat.not_lt, Nat.not_le, gt_iff_lt, ge_iff_le, List.cons.injEq, and_true] at hg); first | (exact absurd trivial hg) | (exfalso; omega) | (have hT : True := hg; clear hT hg) | skip)))
 | (((with_reducible apply aw_cond); exact rfl) <;> intro hg <;> (first | (exact absurd hg (by decide)) | ((try simp only [decide_eq_true_eq, decide_eq_false_iff_not, Bool.not_eq_true', Bool.not_eq_false', Bool.not_true, Bool.not_false, Bool.not_not, Int.not_lt, Int.not_le, Nat.not_lt, Nat.not_le, gt_iff_lt, ge_iff_le, List.cons.injEq, and_true] at hg); first | (exact absurd trivial hg) | (exfalso; omega) | (have hT : True := hg; clear hT hg) | skip)))
 )
      all_goals exact ret_b rfl rfl
    | true =>
      have hs : smallS gs = false := by
        cases h : smallS gs with
        | false => rfl
        | true => exact absurd ⟨hz, h⟩ hok
      rw [hz] at c0
      rw [hs] at c1
      repeat' (first
 | ((with_reducible apply (r_call (f := 15))); exact rfl; exact rfl; exact c0; exact rfl; exact rfl)
 | ((with_reducible apply (r_call (f := 10))); exact rfl; exact rfl; exact c1; exact rfl; exact rfl)
 | ((with_reducible apply (r_call (args := []) (f := 11))); exact rfl; exact rfl; exact ca; exact rfl; exact rfl)
 | ((with_reducible apply aw_seq))
 | ((with_reducible apply aw_region))
 | ((with_reducible apply thn_normal))
 | ((with_reducible apply thn_ret))
 | ((with_reducible apply aw_ret))
 | ((with_reducible apply ao_nil))
 | ((with_reducible apply r_move); exact rfl; exact rfl)
 | ((with_reducible apply r_assign); exact rfl; exact rfl)
 | ((with_reducible apply r_pick_f); exact rfl; exact rfl; exact rfl)
 | ((with_reducible apply r_not); exact rfl; exact rfl)
 | (((with_reducible apply r_guard); exact rfl; exact rfl; exact rfl; exact rfl) <;> intro hg <;> (first | (exact absurd hg (by decide)) | ((try simp only [decide_eq_true_eq, decide_eq_false_iff_not, Bool.not_eq_true', Bool.not_eq_false', Bool.not_true, Bool.not_false, Bool.not_not, Int.not_lt, Int.not_le, Nat.not_lt, Nat.not_le, gt_iff_lt, ge_iff_le, List.cons.injEq, and_true] at hg); first | (exact absurd trivial hg) | (exfalso; omega) | (have hT : True := hg; clear hT hg) | skip)))
 | (((with_reducible apply aw_cond); exact rfl) <;> intro hg <;> (first | (exact absurd hg (by decide)) | ((try simp only [decide_eq_true_eq, decide_eq_false_iff_not, Bool.not_eq_true', Bool.not_eq_false', Bool.not_true, Bool.not_false, Bool.not_not, Int.not_lt, Int.not_le, Nat.not_lt, Nat.not_le, gt_iff_lt, ge_iff_le, List.cons.injEq, and_true] at hg); first | (exact absurd trivial hg) | (exfalso; omega) | (have hT : True := hg; clear hT hg) | skip)))
 )
      all_goals exact ret_b rfl rfl
  obtain ⟨hz, hs⟩ := hok
  rw [hz] at c0
  rw [hs] at c1
  obtain ⟨m, rfl, hm1, hm2⟩ := sized_get hz
  obtain ⟨hb1, hb2⟩ := small_bd hs
  refine con_of Try.func6 rfl (by kernel_rfl) rfl ?_
  simp only [Try.ntmps6, Try.results6, argEnv, ofC, of1, List.map]
  repeat' (first
 | ((with_reducible apply (r_call (f := 15))); exact rfl; exact rfl; exact c0; exact rfl; exact rfl)
 | ((with_reducible apply (r_call (f := 10))); exact rfl; exact rfl; exact c1; exact rfl; exact rfl)
 | ((with_reducible apply aw_seq))
 | ((with_reducible apply aw_region))
 | ((with_reducible apply thn_normal))
 | ((with_reducible apply aw_skip))
 | ((with_reducible apply ao_nil))
 | ((with_reducible apply r_move); exact rfl; exact rfl)
 | ((with_reducible apply r_assign); exact rfl; exact rfl)
 | ((with_reducible apply r_pick_f); exact rfl; exact rfl; exact rfl)
 | ((with_reducible apply r_not); exact rfl; exact rfl)
 | (((with_reducible apply r_guard); exact rfl; exact rfl; exact rfl; exact rfl) <;> intro hg <;> (first | (exact absurd hg (by decide)) | ((try simp only [decide_eq_true_eq, decide_eq_false_iff_not, Bool.not_eq_true', Bool.not_eq_false', Bool.not_true, Bool.not_false, Bool.not_not, Int.not_lt, Int.not_le, Nat.not_lt, Nat.not_le, gt_iff_lt, ge_iff_le, List.cons.injEq, and_true] at hg); first | (exact absurd trivial hg) | (exfalso; omega) | (have hT : True := hg; clear hT hg) | skip)))
 | (((with_reducible apply aw_cond); exact rfl) <;> intro hg <;> (first | (exact absurd hg (by decide)) | ((try simp only [decide_eq_true_eq, decide_eq_false_iff_not, Bool.not_eq_true', Bool.not_eq_false', Bool.not_true, Bool.not_false, Bool.not_not, Int.not_lt, Int.not_le, Nat.not_lt, Nat.not_le, gt_iff_lt, ge_iff_le, List.cons.injEq, and_true] at hg); first | (exact absurd trivial hg) | (exfalso; omega) | (have hT : True := hg; clear hT hg) | skip)))
 )
  refine r_callNE (open_law m ⟨by omega, by omega⟩) rfl ⟨.inl rfl, trivial⟩ rfl ?_
  rintro ⟨kd, kj⟩
  repeat' (first
 | ((with_reducible apply r_eqnilp); exact rfl; exact rfl; exact rfl)
 | ((with_reducible apply aw_seq))
 | ((with_reducible apply aw_region))
 | ((with_reducible apply aw_block))
 | ((with_reducible apply thn_normal))
 | ((with_reducible apply aw_skip))
 | ((with_reducible apply ao_nil))
 | ((with_reducible apply r_move); exact rfl; exact rfl)
 | ((with_reducible apply r_assign); exact rfl; exact rfl)
 | ((with_reducible apply r_store_pa); exact rfl; exact rfl; exact rfl; exact rfl; exact rfl; exact rfl)
 | ((with_reducible apply r_build); exact rfl; exact rfl; exact rfl)
 | ((with_reducible apply r_extract); exact rfl; exact rfl; exact rfl)
 | ((with_reducible apply r_alloc); exact rfl)
 | (((with_reducible apply aw_cond); exact rfl) <;> intro hg <;> (first | (exact absurd hg (by decide)) | ((try simp only [decide_eq_true_eq, decide_eq_false_iff_not, Bool.not_eq_true', Bool.not_eq_false', Bool.not_true, Bool.not_false, Bool.not_not, Int.not_lt, Int.not_le, Nat.not_lt, Nat.not_le, gt_iff_lt, ge_iff_le, List.cons.injEq, and_true] at hg); first | (exact absurd trivial hg) | (exfalso; omega) | (have hT : True := hg; clear hT hg) | skip)))
 )
  refine aw_nilC 1 0 1 rfl rfl rfl ?_
  refine aw_loopG (G := Nat × DS × JS) (fun ((i, d, t) : Nat × DS × JS) => i ≤ gs.length ∧ Inv m d t ∧ t.gr.length ≤ i ∧ ∀ x ∈ t.gr, x.length ≤ 40) (fun ((i, d, t) : Nat × DS × JS) => gs.length - i) (fun ((i, d, t) : Nat × DS × JS) => [(0, A m), (1, .c (LG gs)), (5, .ptr 0 0), (6, .c (ptrV kj 0)), (7, .ptr 1 0), (8, A i)]) (fun ((i, d, t) : Nat × DS × JS) => [(0, some (.obj (DJ d (5000 * i) kd kj t))), (1, some (.cells 58 [.c (LG t.gr), A t.used, .c (U t.head)]))]) 2 (0, DS.new m, J0) ?_ (by refine weak_mk rfl ?_ ?_ <;> repeat (first | exact envW_nil | exact heapW_nil | refine envW_cons rfl rfl ?_ | refine heapW_cons rfl rfl rfl ?_)) rfl ?_
  · exact ⟨Nat.zero_le _, Inv.new ⟨hm1, by omega⟩, Nat.zero_le _, fun x hx => by cases hx⟩
  rintro ⟨i, d, t⟩ hI
  try dsimp only at hI
  try dsimp only
  obtain ⟨h1, h2, h3, h4⟩ := hI
  have hu := h2.used
  have hhd := h2.head
  have hdl := h2.len
  have hfl := flatten_len t.gr 40 h4
  have hrl : t.recs.length ≤ 1000 := by show t.gr.flatten.length ≤ _; omega
  by_cases hi : i < gs.length
  rotate_left
  · obtain rfl : i = gs.length := by omega
    have co := (open_up (gl := gl) d (5000 * gs.length) kd h2.quiet.up h2.fine).left kj (jP kd t)
    rw [h2.openD] at co
    repeat' (first
 | ((with_reducible apply aw_seq))
 | ((with_reducible apply aw_region))
 | ((with_reducible apply thn_normal))
 | ((with_reducible apply thn_exit))
 | ((with_reducible apply inb_exit))
 | ((with_reducible apply aw_exit))
 | ((with_reducible apply ao_nil))
 | ((with_reducible apply r_move); exact rfl; exact rfl)
 | ((with_reducible apply r_lss); exact rfl; exact rfl; exact rfl)
 | ((with_reducible apply r_len_f); exact rfl; exact inferInstance; exact rfl)
 | (((with_reducible apply aw_cond); exact rfl) <;> intro hg <;> (first | (exact absurd hg (by decide)) | ((try simp only [decide_eq_true_eq, decide_eq_false_iff_not, Bool.not_eq_true', Bool.not_eq_false', Bool.not_true, Bool.not_false, Bool.not_not, Int.not_lt, Int.not_le, Nat.not_lt, Nat.not_le, gt_iff_lt, ge_iff_le, List.cons.injEq, and_true] at hg); first | (exact absurd trivial hg) | (exfalso; omega) | (have hT : True := hg; clear hT hg) | skip)))
 )
    refine r_callOE (f := 28) 0 co rfl rfl rfl rfl (fun kk => ?_)
    have d0 := ((groups_j (gl := gl) kd t).right ((dskP d (5000 * gs.length)).at kd) kk).left kj (jP kd t)
    have d1 := ((records_j (gl := gl) kd t (by omega)).right ((dskP d (5000 * gs.length)).at kd) kk).left kj (jP kd t)
    have d2 := ((head_j (gl := gl) kd t).right ((dskP d (5000 * gs.length)).at kd) kk).left kj (jP kd t)
    have d3 := (room_dj (gl := gl) d (5000 * gs.length) kd kk t (by omega) (by omega)).left kj (jP kd t)
    have f0 := (groups_j (gl := gl) kd t).right (DJ d (5000 * gs.length) kd kk t) kj
    have f1 := (records_j (gl := gl) kd t (by omega)).right (DJ d (5000 * gs.length) kd kk t) kj
    have f2 := (head_j (gl := gl) kd t).right (DJ d (5000 * gs.length) kd kk t) kj
    have d5 := same_con (gl := gl) t.recs t.recs (by omega) (by omega)
    rw [decide_eq_true rfl] at d5
    have f3 := (room_dj (gl := gl) d (5000 * gs.length) kd kj t (by omega) (by omega)).under kk (jP kd t)
    repeat' (first
 | ((with_reducible apply (r_callqO (f := 18) 0)); exact d3; exact rfl; exact rfl; exact rfl; exact rfl; exact rfl)
 | ((with_reducible apply (r_callqO (f := 18) 0)); exact f3; exact rfl; exact rfl; exact rfl; exact rfl; exact rfl)
 | ((with_reducible apply (r_callqO (f := 32) 0)); exact d0; exact rfl; exact rfl; exact rfl; exact rfl; exact rfl)
 | ((with_reducible apply (r_callqO (f := 32) 0)); exact f0; exact rfl; exact rfl; exact rfl; exact rfl; exact rfl)
 | ((with_reducible apply (r_callqO (f := 30) 0)); exact d1; exact rfl; exact rfl; exact rfl; exact rfl; exact rfl)
 | ((with_reducible apply (r_callqO (f := 30) 0)); exact f1; exact rfl; exact rfl; exact rfl; exact rfl; exact rfl)
 | ((with_reducible apply (r_callqO (f := 33) 0)); exact d2; exact rfl; exact rfl; exact rfl; exact rfl; exact rfl)
 | ((with_reducible apply (r_callqO (f := 33) 0)); exact f2; exact rfl; exact rfl; exact rfl; exact rfl; exact rfl)
 | ((with_reducible apply (r_call (f := 14))); exact rfl; exact rfl; exact d5; exact rfl; exact rfl)
 | ((with_reducible apply (r_call (args := []) (f := 11))); exact rfl; exact rfl; exact ca; exact rfl; exact rfl)
 | ((with_reducible apply aw_seq))
 | ((with_reducible apply aw_region))
 | ((with_reducible apply thn_normal))
 | ((with_reducible apply aw_ret))
 | ((with_reducible apply ao_nil))
 | ((with_reducible apply r_move); exact rfl; exact rfl)
 | ((with_reducible apply r_assign); exact rfl; exact rfl)
 | ((with_reducible apply r_eql); exact rfl; exact rfl; exact rfl)
 | ((with_reducible apply r_pick_t); exact rfl; exact rfl; exact rfl)
 | ((with_reducible apply r_extract); exact rfl; exact rfl; exact rfl)
 | (((with_reducible apply r_guard); exact rfl; exact rfl; exact rfl; exact rfl) <;> intro hg <;> (first | (exact absurd hg (by decide)) | ((try simp only [decide_eq_true_eq, decide_eq_false_iff_not, Bool.not_eq_true', Bool.not_eq_false', Bool.not_true, Bool.not_false, Bool.not_not, Int.not_lt, Int.not_le, Nat.not_lt, Nat.not_le, gt_iff_lt, ge_iff_le, List.cons.injEq, and_true] at hg); first | (exact absurd trivial hg) | (exfalso; omega) | (have hT : True := hg; clear hT hg) | skip)))
 )
    all_goals exact ret_b rfl (by simp)
  have hg := (hb2 gs[i] (List.getElem_mem hi)).1
  have ap := append_dj (gl := gl) d (5000 * i) kd kj t gs[i] (by omega) (by omega) (by omega) hhd (by omega) (by omega) (by omega)
  rw [show 5000 * i + 5000 = 5000 * (i + 1) by omega] at ap
  have ra := rappend_con (gl := gl) t gs[i] m (by omega) (by omega) (by omega) (by omega) hhd
  have hstep := h2.app gs[i]
  have hdn : (rappS t gs[i] m).2.1.length ≤ 600000 := by
    rcases hstep with ⟨_, _, e, _⟩ | ⟨_, _, e, _⟩
    · rw [e]; exact Nat.zero_le _
    · rw [e]; exact divS_len _ _
  have hI' : ∃ t' d' e l, appS t d gs[i] = (t', d', e) ∧ rappS t gs[i] m = (t', l, e) ∧ Inv m d' t' ∧ t'.gr.length ≤ i + 1 ∧ (∀ x ∈ t'.gr, x.length ≤ 40) ∧ ∀ k (hk : k < l.length), d'.read ((t.used + k : Nat) : Int) = (l[k], 0) := by
    rcases hstep with ⟨e1, e2, e3, e4, _⟩ | ⟨hc, hl, e1, e2⟩
    · refine ⟨t, d, _, [], e1, ?_, h2, by omega, h4, fun k hk => absurd hk (Nat.not_lt_zero _)⟩
      exact Prod.ext e2 (Prod.ext e3 rfl)
    · obtain ⟨b1, b2⟩ := add_bd (u := t.used + (divS t.head gs[i]).1.length) (h := (divS t.head gs[i]).2.1) h3 h4 hg
      have hi' := h2.add hc hl
      refine ⟨_, _, _, _, e2, e1, hi', b1, b2, fun k hk => ?_⟩
      have hl' : t.used + (divS t.head gs[i]).1.length ≤ d.blocks.length := by omega
      rw [read_eq hi'.quiet.up (t.used + k) (by rw [hi'.len]; omega), hi'.quiet.none]
      show (((putAt d.blocks t.used (divS t.head gs[i]).1).getD (t.used + k) ByteArray.empty), (0 : Int)) = _
      rw [List.getD_eq_getElem?_getD, putAt_get hl' hk]
      rfl
  obtain ⟨t', d', e, l, w1, w2, w3, w4, w5, w6⟩ := hI'
  rw [w1] at ap
  rw [w2] at ra hdn
  dsimp only at ap ra hdn
  have hu' := w3.used
  have hdl' := w3.len
  have hfl' := flatten_len t'.gr 40 w5
  have hrl' : t'.recs.length ≤ 1000 := by show t'.gr.flatten.length ≤ _; omega
  have d0 := (groups_j (gl := gl) kd t').right ((dskP d' (5000 * (i + 1))).at kd) kj
  have d1 := (records_j (gl := gl) kd t' (by omega)).right ((dskP d' (5000 * (i + 1))).at kd) kj
  have d2 := (head_j (gl := gl) kd t').right ((dskP d' (5000 * (i + 1))).at kd) kj
  have d3 := room_dj (gl := gl) d' (5000 * (i + 1)) kd kj t' (by omega) (by omega)
  rw [hdl'] at d3
  have d4 := rrecords_con (gl := gl) t'.gr (by omega) (fun i hi => by have := w5 t'.gr[i] (List.getElem_mem hi); omega)
  have d5 := same_con (gl := gl) t'.recs t'.gr.flatten (by omega) (by show t'.recs.length ≤ _; omega)
  rw [decide_eq_true (show t'.recs = t'.gr.flatten from rfl)] at d5
  clear w1 w2 hstep h2
  repeat' (first
 | (refine aw_drawV [2] [0, 1, 2, 3, 4, 5, 6, 7, 8] [9, 10] 4 _ ?_ rfl rfl ?_; (decide +kernel); (simp only [pk, List.drop_succ_cons, List.drop_zero, List.map_cons, List.map_nil, List.cons_append, List.nil_append]))
 | ((with_reducible apply ds_nilV2))
 | ((with_reducible apply ds_nilV1))
 | ((with_reducible apply ds_nilV))
 | ((with_reducible apply d4_nil); (decide +kernel))
 | (first | (refine d4_step [11] (by decide +kernel) rfl ?_) | (refine d4_step [12] (by decide +kernel) rfl ?_) | (refine d4_step [13] (by decide +kernel) rfl ?_) | (refine d4_step [14] (by decide +kernel) rfl ?_) | (refine d4_step [11, 12] (by decide +kernel) rfl ?_) | (refine d4_step [11, 13] (by decide +kernel) rfl ?_) | (refine d4_step [11, 14] (by decide +kernel) rfl ?_) | (refine d4_step [12, 13] (by decide +kernel) rfl ?_) | (refine d4_step [12, 14] (by decide +kernel) rfl ?_) | (refine d4_step [13, 14] (by decide +kernel) rfl ?_) | (refine d4_step [11, 12, 13] (by decide +kernel) rfl ?_) | (refine d4_step [11, 12, 14] (by decide +kernel) rfl ?_) | (refine d4_step [11, 13, 14] (by decide +kernel) rfl ?_) | (refine d4_step [12, 13, 14] (by decide +kernel) rfl ?_))
 | ((with_reducible refine List.forall_mem_cons.2 ⟨?_, ?_⟩))
 | ((with_reducible exact d4_none))
 | ((with_reducible apply d4_a); exact rfl; exact inferInstance; exact rfl)
 | ((with_reducible apply d4_pa); exact rfl; exact inferInstance; exact rfl; exact rfl; exact rfl; exact rfl; exact rfl; exact rfl; exact rfl; exact rfl)
 | ((with_reducible apply d4_p); exact rfl; exact inferInstance; exact rfl; exact rfl; exact rfl; exact rfl; exact rfl; exact rfl; exact rfl; exact rfl)
 | ((with_reducible apply d4_q); exact rfl; (simp only [pk, List.drop_succ_cons, List.drop_zero]))
 | ((with_reducible apply (r_callO (f := 17) 0)); exact ap; exact rfl; exact rfl; exact rfl; exact rfl)
 | ((with_reducible apply (r_call (f := 34))); exact rfl; exact rfl; exact ra; exact rfl; exact rfl)
 | ((with_reducible apply (r_callqO (f := 18) 0)); exact d3; exact rfl; exact rfl; exact rfl; exact rfl; exact rfl)
 | ((with_reducible apply (r_callqO (f := 32) 0)); exact d0; exact rfl; exact rfl; exact rfl; exact rfl; exact rfl)
 | ((with_reducible apply (r_callqO (f := 30) 0)); exact d1; exact rfl; exact rfl; exact rfl; exact rfl; exact rfl)
 | ((with_reducible apply (r_callqO (f := 33) 0)); exact d2; exact rfl; exact rfl; exact rfl; exact rfl; exact rfl)
 | ((with_reducible apply (r_call (f := 31))); exact rfl; exact rfl; exact d4; exact rfl; exact rfl)
 | ((with_reducible apply (r_call (f := 14))); exact rfl; exact rfl; exact d5; exact rfl; exact rfl)
 | ((with_reducible apply aw_seq))
 | ((with_reducible apply aw_region))
 | ((with_reducible apply aw_block))
 | ((with_reducible apply thn_normal))
 | ((with_reducible apply aw_skip))
 | ((with_reducible apply ao_nil))
 | ((with_reducible apply r_move); exact rfl; exact rfl)
 | ((with_reducible apply r_assign); exact rfl; exact rfl)
 | ((with_reducible apply r_field_p); exact rfl; exact rfl)
 | ((with_reducible apply r_load_p); exact rfl; exact rfl; exact rfl; exact rfl)
 | ((with_reducible apply r_load_pa); exact rfl; exact rfl; exact rfl; exact rfl; exact rfl)
 | ((with_reducible apply r_lss); exact rfl; exact rfl; exact rfl)
 | ((with_reducible apply r_neq); exact rfl; exact rfl; exact rfl)
 | ((with_reducible apply r_sub); exact rfl; exact rfl; exact (by first | assumption | (unfold fits; omega)); exact rfl)
 | ((with_reducible apply r_pick_f); exact rfl; exact rfl; exact rfl)
 | ((with_reducible apply r_not); exact rfl; exact rfl)
 | ((with_reducible apply r_len_f); exact rfl; exact inferInstance; exact rfl)
 | ((with_reducible apply r_index_f); exact rfl; exact inferInstance; exact rfl; exact rfl; (first | assumption | omega); exact rfl)
 | ((with_reducible apply r_load_f0); exact rfl; exact inferInstance; exact List.getElem?_eq_getElem (by first | assumption | omega); exact rfl; exact rfl)
 | ((with_reducible apply r_store_pa); exact rfl; exact rfl; exact rfl; exact rfl; exact rfl; exact rfl)
 | ((with_reducible apply r_extract); exact rfl; exact rfl; exact rfl)
 | (((with_reducible apply aw_cond); exact rfl) <;> intro hg <;> (first | (exact absurd hg (by decide)) | ((try simp only [decide_eq_true_eq, decide_eq_false_iff_not, Bool.not_eq_true', Bool.not_eq_false', Bool.not_true, Bool.not_false, Bool.not_not, Int.not_lt, Int.not_le, Nat.not_lt, Nat.not_le, gt_iff_lt, ge_iff_le, List.cons.injEq, and_true] at hg); first | (exact absurd trivial hg) | (exfalso; omega) | (have hT : True := hg; clear hT hg) | skip)))
 | (refine aw_drawq ?_ ?_; (kernel_rfl))
 | ((with_reducible apply ds_nil))
 | (((with_reducible apply rd_guard); exact rfl; exact rfl; exact rfl) <;> intro hg <;> (first | (exact absurd hg (by decide)) | ((try rw [hg]); (try simp only [decide_eq_true_eq, decide_eq_false_iff_not, Bool.not_eq_true', Bool.not_eq_false', Bool.not_true, Bool.not_false, Bool.not_not, Int.not_lt, Int.not_le, Nat.not_lt, Nat.not_le, gt_iff_lt, ge_iff_le, List.cons.injEq, and_true] at hg); first | (exact absurd trivial hg) | (exfalso; omega) | (have hT : True := hg; clear hT hg) | skip)))
 )
  refine aw_loopG (G := Nat) (fun (k : Nat) => k ≤ l.length) (fun (k : Nat) => l.length - k) (fun (k : Nat) => [(0, A m), (1, .c (LG gs)), (5, .ptr 0 0), (6, .c (ptrV kj 0)), (7, .ptr 1 0), (8, A i), (10, A t.used), (12, .c (LT l)), (14, A k)]) (fun (k : Nat) => [(0, some (.obj (DJ d' (5000 * (i + 1)) kd kj t'))), (1, some (.cells 58 [.c (LG t'.gr), A t'.used, .c (U t'.head)]))]) 3 0 ?_ (by refine weak_mk rfl ?_ ?_ <;> repeat (first | exact envW_nil | exact heapW_nil | refine envW_cons rfl rfl ?_ | refine heapW_cons rfl rfl rfl ?_)) rfl ?_
  · exact Nat.zero_le _
  rintro k hI
  try dsimp only at hI
  try dsimp only
  by_cases hk : k < l.length
  · have cr := ((dsk_read (gl := gl) d' (5000 * (i + 1)) ((t.used + k : Nat) : Int)).at0 kd).left kj (jP kd t')
    rw [w6 k hk] at cr
    have e1 : ((t.used : Nat) : Int) + (k : Int) = ((t.used + k : Nat) : Int) := by push_cast; rfl
    have hs := ba_self l[k]
    repeat' (first
 | (rw [e1])
 | ((with_reducible apply (r_callqO (f := 20) 0)); exact cr; exact rfl; exact rfl; exact rfl; exact rfl; exact rfl)
 | ((with_reducible apply r_neqstr_v); exact rfl; exact rfl; exact hs; exact rfl)
 | ((with_reducible apply aw_seq))
 | ((with_reducible apply aw_region))
 | ((with_reducible apply aw_block))
 | ((with_reducible apply thn_normal))
 | ((with_reducible apply inb_normal))
 | ((with_reducible apply aw_skip))
 | ((with_reducible apply ao_nil))
 | ((with_reducible apply r_move); exact rfl; exact rfl)
 | ((with_reducible apply r_assign); exact rfl; exact rfl)
 | ((with_reducible apply r_lss); exact rfl; exact rfl; exact rfl)
 | ((with_reducible apply r_neq); exact rfl; exact rfl; exact rfl)
 | ((with_reducible apply r_add); exact rfl; exact rfl; exact (by first | assumption | (unfold fits; omega)); exact rfl)
 | ((with_reducible apply r_pick_f); exact rfl; exact rfl; exact rfl)
 | ((with_reducible apply r_len_f); exact rfl; exact inferInstance; exact rfl)
 | ((with_reducible apply r_index_f); exact rfl; exact inferInstance; exact rfl; exact rfl; (first | assumption | omega); exact rfl)
 | ((with_reducible apply r_load_f0); exact rfl; exact inferInstance; exact List.getElem?_eq_getElem (by first | assumption | omega); exact rfl; exact rfl)
 | ((with_reducible apply r_extract); exact rfl; exact rfl; exact rfl)
 | (((with_reducible apply r_guard); exact rfl; exact rfl; exact rfl; exact rfl) <;> intro hg <;> (first | (exact absurd hg (by decide)) | ((try simp only [decide_eq_true_eq, decide_eq_false_iff_not, Bool.not_eq_true', Bool.not_eq_false', Bool.not_true, Bool.not_false, Bool.not_not, Int.not_lt, Int.not_le, Nat.not_lt, Nat.not_le, gt_iff_lt, ge_iff_le, List.cons.injEq, and_true] at hg); first | (exact absurd trivial hg) | (exfalso; omega) | (have hT : True := hg; clear hT hg) | skip)))
 | (((with_reducible apply aw_cond); exact rfl) <;> intro hg <;> (first | (exact absurd hg (by decide)) | ((try simp only [decide_eq_true_eq, decide_eq_false_iff_not, Bool.not_eq_true', Bool.not_eq_false', Bool.not_true, Bool.not_false, Bool.not_not, Int.not_lt, Int.not_le, Nat.not_lt, Nat.not_le, gt_iff_lt, ge_iff_le, List.cons.injEq, and_true] at hg); first | (exact absurd trivial hg) | (exfalso; omega) | (have hT : True := hg; clear hT hg) | skip)))
 )
    refine ⟨k + 1, ?_, ?_, by refine weak_mk rfl ?_ ?_ <;> repeat (first | exact envW_nil | exact heapW_nil | refine envW_cons rfl rfl ?_ | refine heapW_cons rfl rfl rfl ?_)⟩
    · show _ - (k + 1) < _ - k; omega
    · exact hk
  · skip
    repeat' (first
 | ((with_reducible apply aw_seq))
 | ((with_reducible apply aw_region))
 | ((with_reducible apply thn_normal))
 | ((with_reducible apply thn_exit))
 | ((with_reducible apply inb_normal))
 | ((with_reducible apply inb_exit))
 | ((with_reducible apply aw_exit))
 | ((with_reducible apply ao_nil))
 | ((with_reducible apply r_move); exact rfl; exact rfl)
 | ((with_reducible apply r_assign); exact rfl; exact rfl)
 | ((with_reducible apply r_lss); exact rfl; exact rfl; exact rfl)
 | ((with_reducible apply r_add); exact rfl; exact rfl; exact (by first | assumption | (unfold fits; omega)); exact rfl)
 | ((with_reducible apply r_len_f); exact rfl; exact inferInstance; exact rfl)
 | (((with_reducible apply aw_cond); exact rfl) <;> intro hg <;> (first | (exact absurd hg (by decide)) | ((try simp only [decide_eq_true_eq, decide_eq_false_iff_not, Bool.not_eq_true', Bool.not_eq_false', Bool.not_true, Bool.not_false, Bool.not_not, Int.not_lt, Int.not_le, Nat.not_lt, Nat.not_le, gt_iff_lt, ge_iff_le, List.cons.injEq, and_true] at hg); first | (exact absurd trivial hg) | (exfalso; omega) | (have hT : True := hg; clear hT hg) | skip)))
 )
    refine ⟨(i + 1, d', t'), ?_, ?_, by refine weak_mk rfl ?_ ?_ <;> repeat (first | exact envW_nil | exact heapW_nil | refine envW_cons rfl rfl ?_ | refine heapW_cons rfl rfl rfl ?_)⟩
    · show _ - (i + 1) < _ - i; omega
    · exact ⟨hi, w3, w4, w5⟩
end Go.Proofs.Ythkjkhffljlidaa.Jo
/- The law JournalRefuses. -/
namespace Go.Proofs.Ythkjkhffljlidaa.Jo
set_option linter.unusedVariables false
set_option linter.unusedSimpArgs false
open Go.RowKit Go.Proofs.Ythkjkhffljlidaa.Ev Go.Proofs.Ythkjkhffljlidaa.Dk
variable {gl : List (Nat × List CV)}
abbrev NIL : CV := .v (.pointer none)
theorem open_nil : Con Try.prog gl 28 [NIL] (.tup [NIL, I 1]) := by
  refine con_of Try.func28 rfl (by kernel_rfl) rfl ?_
  simp only [Try.ntmps28, Try.results28, argEnv, ofC, of1, List.map]
  repeat' (first
 | ((with_reducible apply r_eqnil0); exact rfl; exact rfl; exact rfl)
 | ((with_reducible apply aw_seq))
 | ((with_reducible apply aw_region))
 | ((with_reducible apply thn_normal))
 | ((with_reducible apply thn_ret))
 | ((with_reducible apply aw_ret))
 | ((with_reducible apply ao_nil))
 | ((with_reducible apply r_move); exact rfl; exact rfl)
 | ((with_reducible apply r_assign); exact rfl; exact rfl)
 | (((with_reducible apply aw_cond); exact rfl) <;> intro hg <;> (first | (exact absurd hg (by decide)) | ((try simp only [decide_eq_true_eq, decide_eq_false_iff_not, Bool.not_eq_true', Bool.not_eq_false', Bool.not_true, Bool.not_false, Bool.not_not, Int.not_lt, Int.not_le, Nat.not_lt, Nat.not_le, gt_iff_lt, ge_iff_le, List.cons.injEq, and_true] at hg); first | (exact absurd trivial hg) | (exfalso; omega) | (have hT : True := hg; clear hT hg) | skip)))
 )
  all_goals exact ret2 (.cons (.tmp rfl cl_c) (.cons (.tmp rfl cl_c) .nil))
theorem append_nil (g : List ByteArray) : Con Try.prog gl 17 [NIL, LT g] (I 1) := by
  refine con_of Try.func17 rfl (by kernel_rfl) rfl ?_
  simp only [Try.ntmps17, Try.results17, argEnv, ofC, of1, List.map]
  repeat' (first
 | ((with_reducible apply r_eqnil0); exact rfl; exact rfl; exact rfl)
 | ((with_reducible apply aw_seq))
 | ((with_reducible apply aw_region))
 | ((with_reducible apply thn_normal))
 | ((with_reducible apply thn_ret))
 | ((with_reducible apply aw_ret))
 | ((with_reducible apply ao_nil))
 | ((with_reducible apply r_move); exact rfl; exact rfl)
 | ((with_reducible apply r_assign); exact rfl; exact rfl)
 | (((with_reducible apply aw_cond); exact rfl) <;> intro hg <;> (first | (exact absurd hg (by decide)) | ((try simp only [decide_eq_true_eq, decide_eq_false_iff_not, Bool.not_eq_true', Bool.not_eq_false', Bool.not_true, Bool.not_false, Bool.not_not, Int.not_lt, Int.not_le, Nat.not_lt, Nat.not_le, gt_iff_lt, ge_iff_le, List.cons.injEq, and_true] at hg); first | (exact absurd trivial hg) | (exfalso; omega) | (have hT : True := hg; clear hT hg) | skip)))
 )
  all_goals exact ret1 (.tmp rfl cl_c)
theorem records_nil : Con Try.prog gl 30 [NIL] (LT []) := by
  refine con_of Try.func30 rfl (by kernel_rfl) rfl ?_
  simp only [Try.ntmps30, Try.results30, argEnv, ofC, of1, List.map]
  repeat' (first
 | ((with_reducible apply r_eqnil0); exact rfl; exact rfl; exact rfl)
 | ((with_reducible apply aw_seq))
 | ((with_reducible apply aw_region))
 | ((with_reducible apply thn_normal))
 | ((with_reducible apply thn_ret))
 | ((with_reducible apply aw_ret))
 | ((with_reducible apply ao_nil))
 | ((with_reducible apply r_move); exact rfl; exact rfl)
 | ((with_reducible apply r_assign); exact rfl; exact rfl)
 | (((with_reducible apply aw_cond); exact rfl) <;> intro hg <;> (first | (exact absurd hg (by decide)) | ((try simp only [decide_eq_true_eq, decide_eq_false_iff_not, Bool.not_eq_true', Bool.not_eq_false', Bool.not_true, Bool.not_false, Bool.not_not, Int.not_lt, Int.not_le, Nat.not_lt, Nat.not_le, gt_iff_lt, ge_iff_le, List.cons.injEq, and_true] at hg); first | (exact absurd trivial hg) | (exfalso; omega) | (have hT : True := hg; clear hT hg) | skip)))
 )
  all_goals exact ret1 (.tmp rfl cl_none)
theorem groups_nil : Con Try.prog gl 32 [NIL] (I 0) := by
  refine con_of Try.func32 rfl (by kernel_rfl) rfl ?_
  simp only [Try.ntmps32, Try.results32, argEnv, ofC, of1, List.map]
  repeat' (first
 | ((with_reducible apply r_eqnil0); exact rfl; exact rfl; exact rfl)
 | ((with_reducible apply aw_seq))
 | ((with_reducible apply aw_region))
 | ((with_reducible apply thn_normal))
 | ((with_reducible apply thn_ret))
 | ((with_reducible apply aw_ret))
 | ((with_reducible apply ao_nil))
 | ((with_reducible apply r_move); exact rfl; exact rfl)
 | ((with_reducible apply r_assign); exact rfl; exact rfl)
 | (((with_reducible apply aw_cond); exact rfl) <;> intro hg <;> (first | (exact absurd hg (by decide)) | ((try simp only [decide_eq_true_eq, decide_eq_false_iff_not, Bool.not_eq_true', Bool.not_eq_false', Bool.not_true, Bool.not_false, Bool.not_not, Int.not_lt, Int.not_le, Nat.not_lt, Nat.not_le, gt_iff_lt, ge_iff_le, List.cons.injEq, and_true] at hg); first | (exact absurd trivial hg) | (exfalso; omega) | (have hT : True := hg; clear hT hg) | skip)))
 )
  all_goals exact ret1 (.tmp rfl cl_c)
theorem room_nil : Con Try.prog gl 18 [NIL] (I 0) := by
  refine con_of Try.func18 rfl (by kernel_rfl) rfl ?_
  simp only [Try.ntmps18, Try.results18, argEnv, ofC, of1, List.map]
  repeat' (first
 | ((with_reducible apply r_eqnil0); exact rfl; exact rfl; exact rfl)
 | ((with_reducible apply aw_seq))
 | ((with_reducible apply aw_region))
 | ((with_reducible apply thn_normal))
 | ((with_reducible apply thn_ret))
 | ((with_reducible apply aw_ret))
 | ((with_reducible apply ao_nil))
 | ((with_reducible apply r_move); exact rfl; exact rfl)
 | ((with_reducible apply r_assign); exact rfl; exact rfl)
 | (((with_reducible apply aw_cond); exact rfl) <;> intro hg <;> (first | (exact absurd hg (by decide)) | ((try simp only [decide_eq_true_eq, decide_eq_false_iff_not, Bool.not_eq_true', Bool.not_eq_false', Bool.not_true, Bool.not_false, Bool.not_not, Int.not_lt, Int.not_le, Nat.not_lt, Nat.not_le, gt_iff_lt, ge_iff_le, List.cons.injEq, and_true] at hg); first | (exact absurd trivial hg) | (exfalso; omega) | (have hT : True := hg; clear hT hg) | skip)))
 )
  all_goals exact ret1 (.tmp rfl cl_c)
theorem head_nil : Con Try.prog gl 33 [NIL] (U 0) := by
  refine con_of Try.func33 rfl (by kernel_rfl) rfl ?_
  simp only [Try.ntmps33, Try.results33, argEnv, ofC, of1, List.map]
  repeat' (first
 | ((with_reducible apply r_eqnil0); exact rfl; exact rfl; exact rfl)
 | ((with_reducible apply aw_seq))
 | ((with_reducible apply aw_region))
 | ((with_reducible apply thn_normal))
 | ((with_reducible apply thn_ret))
 | ((with_reducible apply aw_ret))
 | ((with_reducible apply ao_nil))
 | ((with_reducible apply r_move); exact rfl; exact rfl)
 | ((with_reducible apply r_assign); exact rfl; exact rfl)
 | (((with_reducible apply aw_cond); exact rfl) <;> intro hg <;> (first | (exact absurd hg (by decide)) | ((try simp only [decide_eq_true_eq, decide_eq_false_iff_not, Bool.not_eq_true', Bool.not_eq_false', Bool.not_true, Bool.not_false, Bool.not_not, Int.not_lt, Int.not_le, Nat.not_lt, Nat.not_le, gt_iff_lt, ge_iff_le, List.cons.injEq, and_true] at hg); first | (exact absurd trivial hg) | (exfalso; omega) | (have hT : True := hg; clear hT hg) | skip)))
 )
  all_goals exact ret1 (.tmp rfl cl_c)
theorem jrefuses_law (n : Int) (_ : fits n) (gs : List (List ByteArray)) (_ : (∀ g ∈ gs, (∀ x ∈ g, x.size ≤ maxLen) ∧ g.length ≤ maxLen) ∧ gs.length ≤ maxLen) (g : List ByteArray) (_ : (∀ x ∈ g, x.size ≤ maxLen) ∧ g.length ≤ maxLen) : Con Try.prog gl 7 [I n, LG gs, LT g] T := by
  have ca := awake_con (gl := gl)
  have c0 := sized_con (gl := gl) n
  have c1 := small_con (gl := gl) gs
  have c2 := small_con (gl := gl) [g]
  by_cases hok : sizedS n = true ∧ smallS gs = true ∧ smallS [g] = true
  rotate_left
  · skip
    refine con_of Try.func7 rfl (by kernel_rfl) rfl ?_
    simp only [Try.ntmps7, Try.results7, argEnv, ofC, of1, List.map]
    cases hz : sizedS n
    all_goals rw [hz] at c0
    all_goals cases hs : smallS gs
    all_goals rw [hs] at c1
    all_goals cases hg : smallS [g]
    all_goals rw [hg] at c2
    all_goals try simp only [hz, hs, hg, and_self, and_true, true_and, and_false, false_and, not_true_eq_false, Bool.false_eq_true, not_false_eq_true] at hok
    all_goals
      repeat' (first
 | ((with_reducible apply (r_call (f := 15))); exact rfl; exact rfl; exact c0; exact rfl; exact rfl)
 | ((with_reducible apply (r_call (f := 10))); exact rfl; exact rfl; (first | exact c1 | exact c2); exact rfl; exact rfl)
 | ((with_reducible apply r_litq); exact rfl; exact rfl; exact rfl; exact rfl; exact rfl; exact rfl; exact rfl)
 | ((with_reducible apply (r_call (args := []) (f := 11))); exact rfl; exact rfl; exact ca; exact rfl; exact rfl)
 | ((with_reducible apply aw_seq))
 | ((with_reducible apply aw_region))
 | ((with_reducible apply thn_normal))
 | ((with_reducible apply thn_ret))
 | ((with_reducible apply aw_ret))
 | ((with_reducible apply ao_nil))
 | ((with_reducible apply r_move); exact rfl; exact rfl)
 | ((with_reducible apply r_assign); exact rfl; exact rfl)
 | ((with_reducible apply r_pick_t); exact rfl; exact rfl; exact rfl)
 | ((with_reducible apply r_pick_f); exact rfl; exact rfl; exact rfl)
 | ((with_reducible apply r_not); exact rfl; exact rfl)
 | (((with_reducible apply r_guard); exact rfl; exact rfl; exact rfl; exact rfl) <;> intro hg <;> (first | (exact absurd hg (by decide)) | ((try simp only [decide_eq_true_eq, decide_eq_false_iff_not, Bool.not_eq_true', Bool.not_eq_false', Bool.not_true, Bool.not_false, Bool.not_not, Int.not_lt, Int.not_le, Nat.not_lt, Nat.not_le, gt_iff_lt, ge_iff_le, List.cons.injEq, and_true] at hg); first | (exact absurd trivial hg) | (exfalso; omega) | (have hT : True := hg; clear hT hg) | skip)))
 | (((with_reducible apply aw_cond); exact rfl) <;> intro hg <;> (first | (exact absurd hg (by decide)) | ((try simp only [decide_eq_true_eq, decide_eq_false_iff_not, Bool.not_eq_true', Bool.not_eq_false', Bool.not_true, Bool.not_false, Bool.not_not, Int.not_lt, Int.not_le, Nat.not_lt, Nat.not_le, gt_iff_lt, ge_iff_le, List.cons.injEq, and_true] at hg); first | (exact absurd trivial hg) | (exfalso; omega) | (have hT : True := hg; clear hT hg) | skip)))
 )
      all_goals exact ret_b rfl rfl
  obtain ⟨hz, hs, hgs⟩ := hok
  rw [hz] at c0
  rw [hs] at c1
  rw [hgs] at c2
  obtain ⟨m, rfl, hm1, hm2⟩ := sized_get hz
  obtain ⟨hb1, hb2⟩ := small_bd hs
  have hgl := ((small_bd hgs).2 g (List.mem_singleton.2 rfl)).1
  have n0 := open_nil (gl := gl)
  have n1 := append_nil (gl := gl) g
  have n2 := records_nil (gl := gl)
  have n3 := groups_nil (gl := gl)
  have n4 := room_nil (gl := gl)
  have n5 := head_nil (gl := gl)
  refine con_of Try.func7 rfl (by kernel_rfl) rfl ?_
  simp only [Try.ntmps7, Try.results7, argEnv, ofC, of1, List.map]
  repeat' (first
 | ((with_reducible apply (r_call (f := 15))); exact rfl; exact rfl; exact c0; exact rfl; exact rfl)
 | ((with_reducible apply (r_call (f := 10))); exact rfl; exact rfl; (first | exact c1 | exact c2); exact rfl; exact rfl)
 | ((with_reducible apply r_litq); exact rfl; exact rfl; exact rfl; exact rfl; exact rfl; exact rfl; exact rfl)
 | ((with_reducible apply (r_call (f := 28))); exact rfl; exact rfl; exact n0; exact rfl; exact rfl)
 | ((with_reducible apply r_neqnil0); exact rfl; exact rfl; exact rfl)
 | ((with_reducible apply (r_call (f := 17))); exact rfl; exact rfl; exact n1; exact rfl; exact rfl)
 | ((with_reducible apply (r_call (f := 30))); exact rfl; exact rfl; exact n2; exact rfl; exact rfl)
 | ((with_reducible apply (r_call (f := 32))); exact rfl; exact rfl; exact n3; exact rfl; exact rfl)
 | ((with_reducible apply (r_call (f := 18))); exact rfl; exact rfl; exact n4; exact rfl; exact rfl)
 | ((with_reducible apply (r_call (f := 33))); exact rfl; exact rfl; exact n5; exact rfl; exact rfl)
 | ((with_reducible apply aw_seq))
 | ((with_reducible apply aw_region))
 | ((with_reducible apply thn_normal))
 | ((with_reducible apply aw_skip))
 | ((with_reducible apply ao_nil))
 | ((with_reducible apply r_move); exact rfl; exact rfl)
 | ((with_reducible apply r_assign); exact rfl; exact rfl)
 | ((with_reducible apply r_neq); exact rfl; exact rfl; exact rfl)
 | ((with_reducible apply r_pick_f); exact rfl; exact rfl; exact rfl)
 | ((with_reducible apply r_not); exact rfl; exact rfl)
 | ((with_reducible apply r_len_f); exact rfl; exact inferInstance; exact rfl)
 | ((with_reducible apply r_extract); exact rfl; exact rfl; exact rfl)
 | (((with_reducible apply r_guard); exact rfl; exact rfl; exact rfl; exact rfl) <;> intro hg <;> (first | (exact absurd hg (by decide)) | ((try simp only [decide_eq_true_eq, decide_eq_false_iff_not, Bool.not_eq_true', Bool.not_eq_false', Bool.not_true, Bool.not_false, Bool.not_not, Int.not_lt, Int.not_le, Nat.not_lt, Nat.not_le, gt_iff_lt, ge_iff_le, List.cons.injEq, and_true] at hg); first | (exact absurd trivial hg) | (exfalso; omega) | (have hT : True := hg; clear hT hg) | skip)))
 | (((with_reducible apply aw_cond); exact rfl) <;> intro hg <;> (first | (exact absurd hg (by decide)) | ((try simp only [decide_eq_true_eq, decide_eq_false_iff_not, Bool.not_eq_true', Bool.not_eq_false', Bool.not_true, Bool.not_false, Bool.not_not, Int.not_lt, Int.not_le, Nat.not_lt, Nat.not_le, gt_iff_lt, ge_iff_le, List.cons.injEq, and_true] at hg); first | (exact absurd trivial hg) | (exfalso; omega) | (have hT : True := hg; clear hT hg) | skip)))
 )
  refine r_callNE (open_law m ⟨by omega, by omega⟩) rfl ⟨.inl rfl, trivial⟩ rfl ?_
  rintro ⟨kd, kj⟩
  clear n0 n1 n2 n3 n4 n5 c0 c1 c2
  repeat' (first
 | ((with_reducible apply r_eqnilp); exact rfl; exact rfl; exact rfl)
 | ((with_reducible apply aw_seq))
 | ((with_reducible apply aw_region))
 | ((with_reducible apply aw_block))
 | ((with_reducible apply thn_normal))
 | ((with_reducible apply aw_skip))
 | ((with_reducible apply ao_nil))
 | ((with_reducible apply r_move); exact rfl; exact rfl)
 | ((with_reducible apply r_assign); exact rfl; exact rfl)
 | ((with_reducible apply r_extract); exact rfl; exact rfl; exact rfl)
 | (((with_reducible apply aw_cond); exact rfl) <;> intro hg <;> (first | (exact absurd hg (by decide)) | ((try simp only [decide_eq_true_eq, decide_eq_false_iff_not, Bool.not_eq_true', Bool.not_eq_false', Bool.not_true, Bool.not_false, Bool.not_not, Int.not_lt, Int.not_le, Nat.not_lt, Nat.not_le, gt_iff_lt, ge_iff_le, List.cons.injEq, and_true] at hg); first | (exact absurd trivial hg) | (exfalso; omega) | (have hT : True := hg; clear hT hg) | skip)))
 )
  refine aw_loopG (G := Nat × DS × JS) (fun ((i, d, t) : Nat × DS × JS) => i ≤ gs.length ∧ Inv m d t ∧ t.gr.length ≤ i ∧ ∀ x ∈ t.gr, x.length ≤ 40) (fun ((i, d, t) : Nat × DS × JS) => gs.length - i) (fun ((i, d, t) : Nat × DS × JS) => [(1, .c (LG gs)), (2, .c (LT g)), (10, .ptr 0 0), (11, .c (ptrV kj 0)), (12, A i)]) (fun ((i, d, t) : Nat × DS × JS) => [(0, some (.obj (DJ d (5000 * i) kd kj t)))]) 1 (0, DS.new m, J0) ?_ (by refine weak_mk rfl ?_ ?_ <;> repeat (first | exact envW_nil | exact heapW_nil | refine envW_cons rfl rfl ?_ | refine heapW_cons rfl rfl rfl ?_)) rfl ?_
  · exact ⟨Nat.zero_le _, Inv.new ⟨hm1, by omega⟩, Nat.zero_le _, fun x hx => by cases hx⟩
  rintro ⟨i, d, t⟩ hI
  try dsimp only at hI
  try dsimp only
  obtain ⟨h1, h2, h3, h4⟩ := hI
  have hu := h2.used
  have hhd := h2.head
  have hdl := h2.len
  have hfl := flatten_len t.gr 40 h4
  have hrl : t.recs.length ≤ 1000 := by show t.gr.flatten.length ≤ _; omega
  by_cases hi : i < gs.length
  · have hg := (hb2 gs[i] (List.getElem_mem hi)).1
    have ap := append_dj (gl := gl) d (5000 * i) kd kj t gs[i] (by omega) (by omega) (by omega) hhd (by omega) (by omega) (by omega)
    rw [show 5000 * i + 5000 = 5000 * (i + 1) by omega] at ap
    have hI' : ∃ t' d' e, appS t d gs[i] = (t', d', e) ∧ Inv m d' t' ∧ t'.gr.length ≤ i + 1 ∧ (∀ x ∈ t'.gr, x.length ≤ 40) := by
      rcases h2.app gs[i] with ⟨e1, _⟩ | ⟨hc, hl, _, e2⟩
      · exact ⟨t, d, _, e1, h2, by omega, h4⟩
      · obtain ⟨b1, b2⟩ := add_bd (u := t.used + (divS t.head gs[i]).1.length) (h := (divS t.head gs[i]).2.1) h3 h4 hg
        exact ⟨_, _, _, e2, h2.add hc hl, b1, b2⟩
    obtain ⟨t', d', e, w1, w3, w4, w5⟩ := hI'
    rw [w1] at ap
    dsimp only at ap
    clear w1 h2
    repeat' (first
 | ((with_reducible apply (r_callO (f := 17) 0)); exact ap; exact rfl; exact rfl; exact rfl; exact rfl)
 | ((with_reducible apply aw_seq))
 | ((with_reducible apply aw_region))
 | ((with_reducible apply aw_block))
 | ((with_reducible apply thn_normal))
 | ((with_reducible apply inb_normal))
 | ((with_reducible apply aw_skip))
 | ((with_reducible apply ao_nil))
 | ((with_reducible apply r_move); exact rfl; exact rfl)
 | ((with_reducible apply r_assign); exact rfl; exact rfl)
 | ((with_reducible apply r_lss); exact rfl; exact rfl; exact rfl)
 | ((with_reducible apply r_add); exact rfl; exact rfl; exact (by first | assumption | (unfold fits; omega)); exact rfl)
 | ((with_reducible apply r_len_f); exact rfl; exact inferInstance; exact rfl)
 | ((with_reducible apply r_index_f); exact rfl; exact inferInstance; exact rfl; exact rfl; (first | assumption | omega); exact rfl)
 | ((with_reducible apply r_load_f0); exact rfl; exact inferInstance; exact List.getElem?_eq_getElem (by first | assumption | omega); exact rfl; exact rfl)
 | (((with_reducible apply aw_cond); exact rfl) <;> intro hg <;> (first | (exact absurd hg (by decide)) | ((try simp only [decide_eq_true_eq, decide_eq_false_iff_not, Bool.not_eq_true', Bool.not_eq_false', Bool.not_true, Bool.not_false, Bool.not_not, Int.not_lt, Int.not_le, Nat.not_lt, Nat.not_le, gt_iff_lt, ge_iff_le, List.cons.injEq, and_true] at hg); first | (exact absurd trivial hg) | (exfalso; omega) | (have hT : True := hg; clear hT hg) | skip)))
 )
    refine ⟨(i + 1, d', t'), ?_, ?_, by refine weak_mk rfl ?_ ?_ <;> repeat (first | exact envW_nil | exact heapW_nil | refine envW_cons rfl rfl ?_ | refine heapW_cons rfl rfl rfl ?_)⟩
    · show _ - (i + 1) < _ - i; omega
    · exact ⟨hi, w3, w4, w5⟩
  obtain rfl : i = gs.length := by omega
  obtain ⟨c, hc⟩ : ∃ c, c = 5000 * gs.length := ⟨_, rfl⟩
  rw [← hc]
  have r0 := (groups_j (gl := gl) kd t).right ((dskP d c).at kd) kj
  have r1 := (records_j (gl := gl) kd t (by omega)).right ((dskP d c).at kd) kj
  have r2 := (head_j (gl := gl) kd t).right ((dskP d c).at kd) kj
  have r3 := room_dj (gl := gl) d c kd kj t (by omega) (by omega)
  rw [hdl] at r3
  have ap := append_dj (gl := gl) d c kd kj t g (by omega) (by omega) (by omega) hhd (by omega) (by omega) (by omega)
  have bc := blocks_con (gl := gl) t.head hhd g (by omega)
  have hbl := divS_len t.head g
  have hbe := divS_e (h := t.head) (g := g)
  have hst := h2.app g
  have d5 := same_con (gl := gl) t.recs t.recs (by omega) (by omega)
  rw [decide_eq_true rfl] at d5
  rcases hst with ⟨e1, _, _, _, e5⟩ | ⟨hcg, hl, _, e2⟩
  · rw [e1] at ap
    dsimp only at ap
    have s0 := (groups_j (gl := gl) kd t).right ((dskP d (c + 5000)).at kd) kj
    have s1 := (records_j (gl := gl) kd t (by omega)).right ((dskP d (c + 5000)).at kd) kj
    have s2 := (head_j (gl := gl) kd t).right ((dskP d (c + 5000)).at kd) kj
    have s3 := room_dj (gl := gl) d (c + 5000) kd kj t (by omega) (by omega)
    rw [hdl] at s3
    rcases e5 with ⟨q1, q2⟩ | ⟨q1, q2, q3⟩
    · rw [q1, ← hbe] at ap
      rw [← hbe] at q2
      generalize divS t.head g = v at ap bc hbl q2 hbe
      obtain ⟨l, h', e⟩ := v
      dsimp only at ap bc hbl q2 hbe
      clear e1 q1 hbe
      repeat' (first
 | ((with_reducible apply (r_callqO (f := 18) 0)); exact r3; exact rfl; exact rfl; exact rfl; exact rfl; exact rfl)
 | ((with_reducible apply (r_callqO (f := 18) 0)); exact s3; exact rfl; exact rfl; exact rfl; exact rfl; exact rfl)
 | ((with_reducible apply (r_callqO (f := 32) 0)); exact r0; exact rfl; exact rfl; exact rfl; exact rfl; exact rfl)
 | ((with_reducible apply (r_callqO (f := 32) 0)); exact s0; exact rfl; exact rfl; exact rfl; exact rfl; exact rfl)
 | ((with_reducible apply (r_callqO (f := 30) 0)); exact r1; exact rfl; exact rfl; exact rfl; exact rfl; exact rfl)
 | ((with_reducible apply (r_callqO (f := 30) 0)); exact s1; exact rfl; exact rfl; exact rfl; exact rfl; exact rfl)
 | ((with_reducible apply (r_callqO (f := 33) 0)); exact r2; exact rfl; exact rfl; exact rfl; exact rfl; exact rfl)
 | ((with_reducible apply (r_callqO (f := 33) 0)); exact s2; exact rfl; exact rfl; exact rfl; exact rfl; exact rfl)
 | ((with_reducible apply (r_callO (f := 17) 0)); exact ap; exact rfl; exact rfl; exact rfl; exact rfl)
 | ((with_reducible apply (r_call (f := 12))); exact rfl; exact rfl; exact bc; exact rfl; exact rfl)
 | ((with_reducible apply (r_call (f := 14))); exact rfl; exact rfl; exact d5; exact rfl; exact rfl)
 | ((with_reducible apply (r_call (args := []) (f := 11))); exact rfl; exact rfl; exact ca; exact rfl; exact rfl)
 | ((with_reducible apply aw_seq))
 | ((with_reducible apply aw_region))
 | ((with_reducible apply thn_normal))
 | ((with_reducible apply thn_ret))
 | ((with_reducible apply thn_exit))
 | ((with_reducible apply inb_exit))
 | ((with_reducible apply aw_exit))
 | ((with_reducible apply aw_ret))
 | ((with_reducible apply ao_nil))
 | ((with_reducible apply r_move); exact rfl; exact rfl)
 | ((with_reducible apply r_assign); exact rfl; exact rfl)
 | ((with_reducible apply r_lss); exact rfl; exact rfl; exact rfl)
 | ((with_reducible apply r_eql); exact rfl; exact rfl; exact rfl)
 | ((with_reducible apply r_neq); exact rfl; exact rfl; exact rfl)
 | ((with_reducible apply r_pick_t); exact rfl; exact rfl; exact rfl)
 | ((with_reducible apply r_len_f); exact rfl; exact inferInstance; exact rfl)
 | ((with_reducible apply r_extract); exact rfl; exact rfl; exact rfl)
 | (((with_reducible apply r_guard); exact rfl; exact rfl; exact rfl; exact rfl) <;> intro hg <;> (first | (exact absurd hg (by decide)) | ((try simp only [decide_eq_true_eq, decide_eq_false_iff_not, Bool.not_eq_true', Bool.not_eq_false', Bool.not_true, Bool.not_false, Bool.not_not, Int.not_lt, Int.not_le, Nat.not_lt, Nat.not_le, gt_iff_lt, ge_iff_le, List.cons.injEq, and_true] at hg); first | (exact absurd trivial hg) | (exfalso; omega) | (have hT : True := hg; clear hT hg) | skip)))
 | (((with_reducible apply aw_cond); exact rfl) <;> intro hg <;> (first | (exact absurd hg (by decide)) | ((try simp only [decide_eq_true_eq, decide_eq_false_iff_not, Bool.not_eq_true', Bool.not_eq_false', Bool.not_true, Bool.not_false, Bool.not_not, Int.not_lt, Int.not_le, Nat.not_lt, Nat.not_le, gt_iff_lt, ge_iff_le, List.cons.injEq, and_true] at hg); first | (exact absurd trivial hg) | (exfalso; omega) | (have hT : True := hg; clear hT hg) | skip)))
 )
      all_goals exact ret_b rfl (by simp)
    · rw [q1] at ap
      rw [← hbe] at q2
      generalize divS t.head g = v at ap bc hbl q2 q3 hbe
      obtain ⟨l, h', e⟩ := v
      dsimp only at ap bc hbl q2 q3 hbe
      subst q2
      clear e1 q1 hbe
      repeat' (first
 | ((with_reducible apply (r_callqO (f := 18) 0)); exact r3; exact rfl; exact rfl; exact rfl; exact rfl; exact rfl)
 | ((with_reducible apply (r_callqO (f := 18) 0)); exact s3; exact rfl; exact rfl; exact rfl; exact rfl; exact rfl)
 | ((with_reducible apply (r_callqO (f := 32) 0)); exact r0; exact rfl; exact rfl; exact rfl; exact rfl; exact rfl)
 | ((with_reducible apply (r_callqO (f := 32) 0)); exact s0; exact rfl; exact rfl; exact rfl; exact rfl; exact rfl)
 | ((with_reducible apply (r_callqO (f := 30) 0)); exact r1; exact rfl; exact rfl; exact rfl; exact rfl; exact rfl)
 | ((with_reducible apply (r_callqO (f := 30) 0)); exact s1; exact rfl; exact rfl; exact rfl; exact rfl; exact rfl)
 | ((with_reducible apply (r_callqO (f := 33) 0)); exact r2; exact rfl; exact rfl; exact rfl; exact rfl; exact rfl)
 | ((with_reducible apply (r_callqO (f := 33) 0)); exact s2; exact rfl; exact rfl; exact rfl; exact rfl; exact rfl)
 | ((with_reducible apply (r_callO (f := 17) 0)); exact ap; exact rfl; exact rfl; exact rfl; exact rfl)
 | ((with_reducible apply (r_call (f := 12))); exact rfl; exact rfl; exact bc; exact rfl; exact rfl)
 | ((with_reducible apply (r_call (f := 14))); exact rfl; exact rfl; exact d5; exact rfl; exact rfl)
 | ((with_reducible apply (r_call (args := []) (f := 11))); exact rfl; exact rfl; exact ca; exact rfl; exact rfl)
 | ((with_reducible apply aw_seq))
 | ((with_reducible apply aw_region))
 | ((with_reducible apply thn_normal))
 | ((with_reducible apply thn_ret))
 | ((with_reducible apply thn_exit))
 | ((with_reducible apply inb_exit))
 | ((with_reducible apply aw_skip))
 | ((with_reducible apply aw_exit))
 | ((with_reducible apply aw_ret))
 | ((with_reducible apply ao_nil))
 | ((with_reducible apply r_move); exact rfl; exact rfl)
 | ((with_reducible apply r_assign); exact rfl; exact rfl)
 | ((with_reducible apply r_lss); exact rfl; exact rfl; exact rfl)
 | ((with_reducible apply r_gtr); exact rfl; exact rfl; exact rfl)
 | ((with_reducible apply r_eql); exact rfl; exact rfl; exact rfl)
 | ((with_reducible apply r_neq); exact rfl; exact rfl; exact rfl)
 | ((with_reducible apply r_pick_t); exact rfl; exact rfl; exact rfl)
 | ((with_reducible apply r_len_f); exact rfl; exact inferInstance; exact rfl)
 | ((with_reducible apply r_extract); exact rfl; exact rfl; exact rfl)
 | (((with_reducible apply r_guard); exact rfl; exact rfl; exact rfl; exact rfl) <;> intro hg <;> (first | (exact absurd hg (by decide)) | ((try simp only [decide_eq_true_eq, decide_eq_false_iff_not, Bool.not_eq_true', Bool.not_eq_false', Bool.not_true, Bool.not_false, Bool.not_not, Int.not_lt, Int.not_le, Nat.not_lt, Nat.not_le, gt_iff_lt, ge_iff_le, List.cons.injEq, and_true] at hg); first | (exact absurd trivial hg) | (exfalso; omega) | (have hT : True := hg; clear hT hg) | skip)))
 | (((with_reducible apply aw_cond); exact rfl) <;> intro hg <;> (first | (exact absurd hg (by decide)) | ((try simp only [decide_eq_true_eq, decide_eq_false_iff_not, Bool.not_eq_true', Bool.not_eq_false', Bool.not_true, Bool.not_false, Bool.not_not, Int.not_lt, Int.not_le, Nat.not_lt, Nat.not_le, gt_iff_lt, ge_iff_le, List.cons.injEq, and_true] at hg); first | (exact absurd trivial hg) | (exfalso; omega) | (have hT : True := hg; clear hT hg) | skip)))
 )
      all_goals exact ret_b rfl (by simp)
  · have hi' := h2.add hcg hl
    rw [e2] at ap
    dsimp only at ap
    have hdl' : (putAt d.blocks t.used (divS t.head g).1).length = m := hi'.len
    have s0 := (groups_j (gl := gl) kd (t.add g (t.used + (divS t.head g).1.length) (divS t.head g).2.1)).right ((dskP { d with blocks := putAt d.blocks t.used (divS t.head g).1 } (c + 5000)).at kd) kj
    have s3 := room_dj (gl := gl) { d with blocks := putAt d.blocks t.used (divS t.head g).1 } (c + 5000) kd kj (t.add g (t.used + (divS t.head g).1.length) (divS t.head g).2.1) (by show (putAt _ _ _).length ≤ _; omega) (by show t.used + _ ≤ _; omega)
    have s3 : OCon Try.prog gl 18 [.c (ptrV kj 0)] (DJ { d with blocks := putAt d.blocks t.used (divS t.head g).1 } (c + 5000) kd kj (t.add g (t.used + (divS t.head g).1.length) (divS t.head g).2.1)) (I (((putAt d.blocks t.used (divS t.head g).1).length : Int) - ((t.used + (divS t.head g).1.length : Nat) : Int))) (DJ { d with blocks := putAt d.blocks t.used (divS t.head g).1 } (c + 5000) kd kj (t.add g (t.used + (divS t.head g).1.length) (divS t.head g).2.1)) := s3
    have s0 : OCon Try.prog gl 32 [.c (ptrV kj 0)] (DJ { d with blocks := putAt d.blocks t.used (divS t.head g).1 } (c + 5000) kd kj (t.add g (t.used + (divS t.head g).1.length) (divS t.head g).2.1)) (I ((t.gr.length + 1 : Nat) : Int)) (DJ { d with blocks := putAt d.blocks t.used (divS t.head g).1 } (c + 5000) kd kj (t.add g (t.used + (divS t.head g).1.length) (divS t.head g).2.1)) := by
      have e : (t.add g (t.used + (divS t.head g).1.length) (divS t.head g).2.1).gr.length = t.gr.length + 1 := by show (t.gr ++ [g]).length = _; simp
      rw [← e]; exact s0
    rw [hdl'] at s3
    have q2 := hbe.trans hcg
    generalize hX : (DJ { d with blocks := putAt d.blocks t.used (divS t.head g).1 } (c + 5000) kd kj (t.add g (t.used + (divS t.head g).1.length) (divS t.head g).2.1)) = X at ap s0 s3
    clear hX
    generalize divS t.head g = v at ap bc hbl q2 hbe s3 hl
    obtain ⟨l, h', e⟩ := v
    dsimp only at ap bc hbl q2 hbe s3 hl
    subst q2
    clear e2 hbe hi' hdl'
    repeat' (first
 | ((with_reducible apply (r_callqO (f := 18) 0)); exact r3; exact rfl; exact rfl; exact rfl; exact rfl; exact rfl)
 | ((with_reducible apply (r_callqO (f := 18) 0)); exact s3; exact rfl; exact rfl; exact rfl; exact rfl; exact rfl)
 | ((with_reducible apply (r_callqO (f := 32) 0)); exact r0; exact rfl; exact rfl; exact rfl; exact rfl; exact rfl)
 | ((with_reducible apply (r_callqO (f := 32) 0)); exact s0; exact rfl; exact rfl; exact rfl; exact rfl; exact rfl)
 | ((with_reducible apply (r_callqO (f := 30) 0)); exact r1; exact rfl; exact rfl; exact rfl; exact rfl; exact rfl)
 | ((with_reducible apply (r_callqO (f := 33) 0)); exact r2; exact rfl; exact rfl; exact rfl; exact rfl; exact rfl)
 | ((with_reducible apply (r_callO (f := 17) 0)); exact ap; exact rfl; exact rfl; exact rfl; exact rfl)
 | ((with_reducible apply (r_call (f := 12))); exact rfl; exact rfl; exact bc; exact rfl; exact rfl)
 | ((with_reducible apply (r_call (args := []) (f := 11))); exact rfl; exact rfl; exact ca; exact rfl; exact rfl)
 | ((with_reducible apply aw_seq))
 | ((with_reducible apply aw_region))
 | ((with_reducible apply thn_normal))
 | ((with_reducible apply thn_exit))
 | ((with_reducible apply inb_exit))
 | ((with_reducible apply aw_skip))
 | ((with_reducible apply aw_exit))
 | ((with_reducible apply aw_ret))
 | ((with_reducible apply ao_nil))
 | ((with_reducible apply r_move); exact rfl; exact rfl)
 | ((with_reducible apply r_assign); exact rfl; exact rfl)
 | ((with_reducible apply r_lss); exact rfl; exact rfl; exact rfl)
 | ((with_reducible apply r_gtr); exact rfl; exact rfl; exact rfl)
 | ((with_reducible apply r_eql); exact rfl; exact rfl; exact rfl)
 | ((with_reducible apply r_neq); exact rfl; exact rfl; exact rfl)
 | ((with_reducible apply r_add); exact rfl; exact rfl; exact (by first | assumption | (unfold fits; omega)); exact rfl)
 | ((with_reducible apply r_sub); exact rfl; exact rfl; exact (by first | assumption | (unfold fits; omega)); exact rfl)
 | ((with_reducible apply r_pick_t); exact rfl; exact rfl; exact rfl)
 | ((with_reducible apply r_len_f); exact rfl; exact inferInstance; exact rfl)
 | ((with_reducible apply r_extract); exact rfl; exact rfl; exact rfl)
 | (((with_reducible apply r_guard); exact rfl; exact rfl; exact rfl; exact rfl) <;> intro hg <;> (first | (exact absurd hg (by decide)) | ((try simp only [decide_eq_true_eq, decide_eq_false_iff_not, Bool.not_eq_true', Bool.not_eq_false', Bool.not_true, Bool.not_false, Bool.not_not, Int.not_lt, Int.not_le, Nat.not_lt, Nat.not_le, gt_iff_lt, ge_iff_le, List.cons.injEq, and_true] at hg); first | (exact absurd trivial hg) | (exfalso; omega) | (have hT : True := hg; clear hT hg) | skip)))
 | (((with_reducible apply aw_cond); exact rfl) <;> intro hg <;> (first | (exact absurd hg (by decide)) | ((try simp only [decide_eq_true_eq, decide_eq_false_iff_not, Bool.not_eq_true', Bool.not_eq_false', Bool.not_true, Bool.not_false, Bool.not_not, Int.not_lt, Int.not_le, Nat.not_lt, Nat.not_le, gt_iff_lt, ge_iff_le, List.cons.injEq, and_true] at hg); first | (exact absurd trivial hg) | (exfalso; omega) | (have hT : True := hg; clear hT hg) | skip)))
 )
    all_goals exact ret_b rfl (by simp; try omega)
end Go.Proofs.Ythkjkhffljlidaa.Jo
