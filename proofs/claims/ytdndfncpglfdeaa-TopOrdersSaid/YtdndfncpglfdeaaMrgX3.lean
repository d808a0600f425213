/- TH: texts laid together. -/
import Derived.Test.YtdndfncpglfdeaaMrgX2
import Derived.Test.YtdndfncpglfdeaaMrgE5
set_option maxRecDepth 100000
set_option maxHeartbeats 64000000
/- Boards for orders: serve, Counts, Best. -/
namespace Go.Proofs.Ytdndfncpglfdeaa.To
set_option linter.unusedVariables false
set_option linter.unusedSimpArgs false
open Go.RowKit Go.Proofs.Ytdndfncpglfdeaa.Ev
variable {gl : List (Nat × List CV)}
theorem cntL_zero0 (n B : Nat) : cntL (fun _ => none) n B = List.replicate n 0 := by
  apply List.ext_getElem?
  intro j
  by_cases hj2 : j < n
  · rw [cntL_get _ _ hj2, List.getElem?_replicate, if_pos hj2, cnt_none (fun b h => by cases h)]; rfl
  · rw [List.getElem?_eq_none (by rw [cntL_len]; omega), List.getElem?_eq_none (by simp; omega)]
theorem cntL_more {F : List (List Bool)} {B first k : Nat} {g g2 : Asg} (h : More F B first k g g2) {n : Nat} (hk : k < n) : (cntL g n B).set k ((cnt g k B : Int) + 1) = cntL g2 n B := by
  apply List.ext_getElem?
  intro j
  rw [List.getElem?_set]
  by_cases hj : k = j
  · subst hj
    rw [if_pos rfl, if_pos (by rw [cntL_len]; exact hk), cntL_get _ _ hk, h.cnt k, if_pos rfl]; rfl
  · rw [if_neg hj]
    by_cases hj2 : j < n
    · rw [cntL_get _ _ hj2, cntL_get _ _ hj2, h.cnt j, if_neg (Ne.symm hj)]; rfl
    · rw [List.getElem?_eq_none (by rw [cntL_len]; omega), List.getElem?_eq_none (by rw [cntL_len]; omega)]
theorem most_nonneg {F : List (List Bool)} {most : List Int} (hm : MostA F most) : ∀ j, j < F.length → 0 ≤ (fun i => most.getD i 0) j := fun j hj => by
  have := hm.len
  show 0 ≤ most.getD j 0
  rw [getD_get (by omega)]
  exact (hm.bd j (by omega)).1
theorem serve_con (F : List (List Bool)) (B : Nat) (most : List Int) (h : Tab F B) (hm : MostA F most) : NConE (Γ := {g // Srv F B (fun i => most.getD i 0) F.length g}) Try.prog gl 17 [LLB F, LI most] (fun γ => [.c (LI (cntL γ.1 F.length B)), .p]) (fun γ => matP F γ.1 ((0 : Nat) : Int)) := by
  have hn := h.n
  have hb5 := h.b
  have hml := hm.len
  have hm0 := most_nonneg hm
  refine nconE_of (t1 := 4) (t2 := 5) (r1 := fun γ : {g // Srv F B (fun i => most.getD i 0) F.length g} => .c (LI (cntL γ.1 F.length B))) (r2 := fun _ => .p) Try.func17 rfl Try.results17 (by kernel_rfl) rfl ?_
  simp only [Try.ntmps17, argEnv, ofC, of1]
  repeat' (first
 | ((with_reducible apply r_makemap); exact rfl)
 | ((with_reducible apply r_make (enc := intC) (0 : Int) F.length); exact inferInstance; exact rfl; exact rfl; exact rfl; exact rfl; exact rfl; omega; omega; exact rfl)
 | ((with_reducible apply aw_seq))
 | ((with_reducible apply aw_region))
 | ((with_reducible apply aw_block))
 | ((with_reducible apply thn_normal))
 | ((with_reducible apply ao_nil))
 | ((with_reducible apply r_move); exact rfl; exact rfl)
 | ((with_reducible apply r_assign); exact rfl; exact rfl)
 | ((with_reducible apply r_box_a); exact rfl; exact rfl)
 | ((with_reducible apply r_len_f); exact rfl; exact inferInstance; exact rfl)
 | ((with_reducible apply r_build); exact rfl; exact rfl; exact rfl)
 )
  refine aw_mclose (F := F) (to := fun _ => none) (first := ((0 : Nat) : Int)) 1 0 rfl rfl rfl ?_
  rw [← cntL_zero0 F.length B]
  refine aw_loopG (G := Nat × Asg) (fun ((k, g) : Nat × Asg) => k ≤ F.length ∧ Srv F B (fun i => most.getD i 0) k g) (fun ((k, g) : Nat × Asg) => F.length - k) (fun ((k, g) : Nat × Asg) => [(0, .c (LLB F)), (1, .c (LI most)), (6, .ptr 1 0), (7, .vec 2 F.length), (17, A F.length), (18, A k)]) (fun ((k, g) : Nat × Asg) => [(1, some (.obj (matP F g ((0 : Nat) : Int)))), (2, some (.vec 3 1 ((cntL g F.length B).flatMap intC)))]) 3 (0, fun _ => none) ?_ (by refine weak_mk rfl ?_ ?_ <;> repeat (first | exact envW_nil | exact heapW_nil | refine envW_cons rfl rfl ?_ | refine heapW_cons rfl rfl rfl ?_)) rfl ?_
  · exact ⟨Nat.zero_le _, srv_start hm0⟩
  rintro ⟨k, g⟩ hI
  dsimp only at hI ⊢
  obtain ⟨hk, hS⟩ := hI
  by_cases hkl : k < F.length
  · skip
    repeat' (first
 | ((with_reducible apply aw_seq))
 | ((with_reducible apply aw_region))
 | ((with_reducible apply aw_block))
 | ((with_reducible apply thn_normal))
 | ((with_reducible apply aw_skip))
 | ((with_reducible apply ao_nil))
 | ((with_reducible apply r_move); exact rfl; exact rfl)
 | ((with_reducible apply r_assign); exact rfl; exact rfl)
 | ((with_reducible apply r_lss); exact rfl; exact rfl; exact rfl)
 | (((with_reducible apply aw_cond); exact rfl) <;> intro hg <;> (first | (exact absurd hg (by decide)) | ((try simp only [decide_eq_true_eq, decide_eq_false_iff_not, Bool.not_eq_true', Bool.not_eq_false', Bool.not_true, Bool.not_false, Bool.not_not, Int.not_lt, Int.not_le, Nat.not_lt, Nat.not_le, gt_iff_lt, ge_iff_le, List.cons.injEq, and_true] at hg); first | (exact absurd trivial hg) | (exfalso; omega) | (have hT : True := hg; clear hT hg) | skip)))
 )
    refine aw_loopG (G := Asg) (fun (g : Asg) => SrvI F B (fun i => most.getD i 0) k g) (fun (g : Asg) => (most.getD k 0).toNat - cnt g k B) (fun (g : Asg) => [(0, .c (LLB F)), (1, .c (LI most)), (6, .ptr 1 0), (7, .vec 2 F.length), (8, A k), (17, A F.length), (18, A k)]) (fun (g : Asg) => [(1, some (.obj (matP F g ((0 : Nat) : Int)))), (2, some (.vec 3 1 ((cntL g F.length B).flatMap intC)))]) 3 g ?_ (by refine weak_mk rfl ?_ ?_ <;> repeat (first | exact envW_nil | exact heapW_nil | refine envW_cons rfl rfl ?_ | refine heapW_cons rfl rfl rfl ?_)) rfl ?_
    · exact hS.begin
    clear hS
    clear g
    intro g hS
    have hcl := cntL_len g F.length B
    have hkc : k < (cntL g F.length B).length := by rw [hcl]; exact hkl
    have hgk := cntL_getI g B hkl hkc
    have hmk : k < most.length := by omega
    have hmd := getD_get hmk
    have hle := hS.le k hkl
    have hle : (cnt g k B : Int) ≤ most.getD k 0 := hle
    rw [hmd] at hle
    by_cases hc : (cnt g k B : Int) < most[k]
    · have hext := extend_con (gl := gl) F B h g hS.ok 0 k hkl (Nat.zero_le _)
      repeat' (first
 | (refine aw_drawt 12 ?_ ?_; (kernel_rfl); (simp only [List.take_succ_cons, List.take_zero, List.drop_succ_cons, List.drop_zero]))
 | ((with_reducible apply aw_seq))
 | ((with_reducible apply r_move); exact rfl; exact rfl)
 | ((with_reducible apply r_lss); exact rfl; exact rfl; exact rfl)
 | ((with_reducible apply r_index_f); exact rfl; exact inferInstance; exact rfl; exact rfl; (first | assumption | omega); exact rfl)
 | ((with_reducible apply r_load_f0); exact rfl; exact inferInstance; exact List.getElem?_eq_getElem (by first | assumption | omega); exact rfl; exact rfl)
 | ((with_reducible apply r_index_vf); exact rfl; exact rfl; exact inferInstance; (first | exact rfl | assumption | omega); exact rfl; exact rfl; (first | assumption | omega); exact rfl)
 | ((with_reducible apply r_load_vf0); exact rfl; exact rfl; exact inferInstance; (first | exact rfl | assumption | omega); exact List.getElem?_eq_getElem (by first | assumption | omega); exact rfl; exact rfl)
 | (((with_reducible apply r_guard); exact rfl; exact rfl; exact rfl; exact rfl) <;> intro hg <;> (first | (exact absurd hg (by decide)) | ((try simp only [decide_eq_true_eq, decide_eq_false_iff_not, Bool.not_eq_true', Bool.not_eq_false', Bool.not_true, Bool.not_false, Bool.not_not, Int.not_lt, Int.not_le, Nat.not_lt, Nat.not_le, gt_iff_lt, ge_iff_le, List.cons.injEq, and_true] at hg); first | (exact absurd trivial hg) | (exfalso; omega) | (have hT : True := hg; clear hT hg) | skip)))
 | ((with_reducible apply ds_nil))
 | (((with_reducible apply rd_guard); exact rfl; exact rfl; exact rfl) <;> intro hg <;> (first | (exact absurd hg (by decide)) | ((try rw [hg]); (try simp only [decide_eq_true_eq, decide_eq_false_iff_not, Bool.not_eq_true', Bool.not_eq_false', Bool.not_true, Bool.not_false, Bool.not_not, Int.not_lt, Int.not_le, Nat.not_lt, Nat.not_le, gt_iff_lt, ge_iff_le, List.cons.injEq, and_true] at hg); first | (exact absurd trivial hg) | (exfalso; omega) | (have hT : True := hg; clear hT hg) | skip)))
 )
      refine r_callOE (f := 26) 1 hext rfl rfl rfl rfl ?_
      rintro ⟨⟨rb, g2⟩, hE⟩
      dsimp only
      cases rb with
      | true =>
        rcases hE with ⟨_, hE⟩ | ⟨hE, _⟩
        rotate_left
        · cases hE
        have hE : More F B 0 k g g2 := hE
        have hS2 := hS.more (by show (cnt g k B : Int) < most.getD k 0; rw [hmd]; exact hc) hE
        have hset := cntL_more hE hkl
        have hcn := cnt_le g k B
        repeat' (first
 | ((with_reducible apply (r_store_v (enc := intC) (k := k) (l := cntL g F.length B) ((cnt g k B : Int) + 1))); exact rfl; exact rfl; exact inferInstance; exact hcl; exact hkc; exact rfl; exact rfl; exact rfl; (rw [hgk]; exact rfl))
 | ((with_reducible apply aw_region))
 | ((with_reducible apply aw_block))
 | ((with_reducible apply thn_normal))
 | ((with_reducible apply inb_normal))
 | ((with_reducible apply aw_skip))
 | ((with_reducible apply ao_nil))
 | ((with_reducible apply r_move); exact rfl; exact rfl)
 | ((with_reducible apply r_add); exact rfl; exact rfl; exact (by first | assumption | (unfold fits; omega)); exact rfl)
 | ((with_reducible apply r_pick_t); exact rfl; exact rfl; exact rfl)
 | ((with_reducible apply r_index_vf); exact rfl; exact rfl; exact inferInstance; (first | exact rfl | assumption | omega); exact rfl; exact rfl; (first | assumption | omega); exact rfl)
 | ((with_reducible apply r_load_vf0); exact rfl; exact rfl; exact inferInstance; (first | exact rfl | assumption | omega); exact List.getElem?_eq_getElem (by first | assumption | omega); exact rfl; exact rfl)
 | (((with_reducible apply aw_cond); exact rfl) <;> intro hg <;> (first | (exact absurd hg (by decide)) | ((try simp only [decide_eq_true_eq, decide_eq_false_iff_not, Bool.not_eq_true', Bool.not_eq_false', Bool.not_true, Bool.not_false, Bool.not_not, Int.not_lt, Int.not_le, Nat.not_lt, Nat.not_le, gt_iff_lt, ge_iff_le, List.cons.injEq, and_true] at hg); first | (exact absurd trivial hg) | (exfalso; omega) | (have hT : True := hg; clear hT hg) | skip)))
 )
        rw [hset]
        refine ⟨g2, ?_, ?_, by refine weak_mk rfl ?_ ?_ <;> repeat (first | exact envW_nil | exact heapW_nil | refine envW_cons rfl rfl ?_ | refine heapW_cons rfl rfl rfl ?_)⟩
        · have h1 := hE.cnt k
          rw [if_pos rfl] at h1
          show (most.getD k 0).toNat - cnt g2 k B < (most.getD k 0).toNat - cnt g k B
          rw [hmd]; omega
        · exact hS2
      | false =>
        rcases hE with ⟨hE, _⟩ | ⟨_, hE, hst⟩
        · cases hE
        have hE : g2 = g := hE
        subst hE
        have hL := hS.done (lex_stuck hst hS.own)
        repeat' (first
 | ((with_reducible apply aw_region))
 | ((with_reducible apply thn_normal))
 | ((with_reducible apply thn_exit))
 | ((with_reducible apply inb_normal))
 | ((with_reducible apply inb_exit))
 | ((with_reducible apply aw_exit))
 | ((with_reducible apply ao_nil))
 | ((with_reducible apply r_move); exact rfl; exact rfl)
 | ((with_reducible apply r_add); exact rfl; exact rfl; exact (by first | assumption | (unfold fits; omega)); exact rfl)
 | ((with_reducible apply r_pick_t); exact rfl; exact rfl; exact rfl)
 | (((with_reducible apply aw_cond); exact rfl) <;> intro hg <;> (first | (exact absurd hg (by decide)) | ((try simp only [decide_eq_true_eq, decide_eq_false_iff_not, Bool.not_eq_true', Bool.not_eq_false', Bool.not_true, Bool.not_false, Bool.not_not, Int.not_lt, Int.not_le, Nat.not_lt, Nat.not_le, gt_iff_lt, ge_iff_le, List.cons.injEq, and_true] at hg); first | (exact absurd trivial hg) | (exfalso; omega) | (have hT : True := hg; clear hT hg) | skip)))
 )
        refine ⟨(k + 1, g2), ?_, ?_, by refine weak_mk rfl ?_ ?_ <;> repeat (first | exact envW_nil | exact heapW_nil | refine envW_cons rfl rfl ?_ | refine heapW_cons rfl rfl rfl ?_)⟩
        · show F.length - (k + 1) < F.length - k; omega
        · exact ⟨by show k + 1 ≤ _; omega, hL⟩
    · have hL := hS.done (lex_full hkl (by show most.getD k 0 ≤ _; rw [hmd]; omega))
      repeat' (first
 | (refine aw_drawt 12 ?_ ?_; (kernel_rfl); (simp only [List.take_succ_cons, List.take_zero, List.drop_succ_cons, List.drop_zero]))
 | ((with_reducible apply aw_seq))
 | ((with_reducible apply aw_region))
 | ((with_reducible apply thn_normal))
 | ((with_reducible apply thn_exit))
 | ((with_reducible apply inb_normal))
 | ((with_reducible apply inb_exit))
 | ((with_reducible apply aw_exit))
 | ((with_reducible apply ao_nil))
 | ((with_reducible apply r_move); exact rfl; exact rfl)
 | ((with_reducible apply r_lss); exact rfl; exact rfl; exact rfl)
 | ((with_reducible apply r_add); exact rfl; exact rfl; exact (by first | assumption | (unfold fits; omega)); exact rfl)
 | ((with_reducible apply r_pick_f); exact rfl; exact rfl; exact rfl)
 | ((with_reducible apply r_index_f); exact rfl; exact inferInstance; exact rfl; exact rfl; (first | assumption | omega); exact rfl)
 | ((with_reducible apply r_load_f0); exact rfl; exact inferInstance; exact List.getElem?_eq_getElem (by first | assumption | omega); exact rfl; exact rfl)
 | ((with_reducible apply r_index_vf); exact rfl; exact rfl; exact inferInstance; (first | exact rfl | assumption | omega); exact rfl; exact rfl; (first | assumption | omega); exact rfl)
 | ((with_reducible apply r_load_vf0); exact rfl; exact rfl; exact inferInstance; (first | exact rfl | assumption | omega); exact List.getElem?_eq_getElem (by first | assumption | omega); exact rfl; exact rfl)
 | (((with_reducible apply r_guard); exact rfl; exact rfl; exact rfl; exact rfl) <;> intro hg <;> (first | (exact absurd hg (by decide)) | ((try simp only [decide_eq_true_eq, decide_eq_false_iff_not, Bool.not_eq_true', Bool.not_eq_false', Bool.not_true, Bool.not_false, Bool.not_not, Int.not_lt, Int.not_le, Nat.not_lt, Nat.not_le, gt_iff_lt, ge_iff_le, List.cons.injEq, and_true] at hg); first | (exact absurd trivial hg) | (exfalso; omega) | (have hT : True := hg; clear hT hg) | skip)))
 | (((with_reducible apply aw_cond); exact rfl) <;> intro hg <;> (first | (exact absurd hg (by decide)) | ((try simp only [decide_eq_true_eq, decide_eq_false_iff_not, Bool.not_eq_true', Bool.not_eq_false', Bool.not_true, Bool.not_false, Bool.not_not, Int.not_lt, Int.not_le, Nat.not_lt, Nat.not_le, gt_iff_lt, ge_iff_le, List.cons.injEq, and_true] at hg); first | (exact absurd trivial hg) | (exfalso; omega) | (have hT : True := hg; clear hT hg) | skip)))
 | ((with_reducible apply ds_nil))
 | (((with_reducible apply rd_guard); exact rfl; exact rfl; exact rfl) <;> intro hg <;> (first | (exact absurd hg (by decide)) | ((try rw [hg]); (try simp only [decide_eq_true_eq, decide_eq_false_iff_not, Bool.not_eq_true', Bool.not_eq_false', Bool.not_true, Bool.not_false, Bool.not_not, Int.not_lt, Int.not_le, Nat.not_lt, Nat.not_le, gt_iff_lt, ge_iff_le, List.cons.injEq, and_true] at hg); first | (exact absurd trivial hg) | (exfalso; omega) | (have hT : True := hg; clear hT hg) | skip)))
 )
      all_goals
        refine ⟨(k + 1, g), ?_, ?_, by refine weak_mk rfl ?_ ?_ <;> repeat (first | exact envW_nil | exact heapW_nil | refine envW_cons rfl rfl ?_ | refine heapW_cons rfl rfl rfl ?_)⟩
        · show F.length - (k + 1) < F.length - k; omega
        · exact ⟨by show k + 1 ≤ _; omega, hL⟩
  obtain rfl : k = F.length := by omega
  repeat' (first
 | ((with_reducible apply aw_seq))
 | ((with_reducible apply aw_region))
 | ((with_reducible apply thn_normal))
 | ((with_reducible apply thn_exit))
 | ((with_reducible apply inb_exit))
 | ((with_reducible apply aw_exit))
 | ((with_reducible apply aw_ret))
 | ((with_reducible apply ao_nil))
 | ((with_reducible apply r_move); exact rfl; exact rfl)
 | ((with_reducible apply r_assign); exact rfl; exact rfl)
 | ((with_reducible apply r_lss); exact rfl; exact rfl; exact rfl)
 | (((with_reducible apply aw_cond); exact rfl) <;> intro hg <;> (first | (exact absurd hg (by decide)) | ((try simp only [decide_eq_true_eq, decide_eq_false_iff_not, Bool.not_eq_true', Bool.not_eq_false', Bool.not_true, Bool.not_false, Bool.not_not, Int.not_lt, Int.not_le, Nat.not_lt, Nat.not_le, gt_iff_lt, ge_iff_le, List.cons.injEq, and_true] at hg); first | (exact absurd trivial hg) | (exfalso; omega) | (have hT : True := hg; clear hT hg) | skip)))
 )
  exact ⟨.inr rfl, ⟨g, hS⟩, 1, _, _, rfl, rfl, rfl, cl_vec rfl (by rw [flat_len EncL.len, cntL_len]), rfl⟩
theorem countsF_con (F : List (List Bool)) (B : Nat) (most : List Int) (h : Tab F B) (hm : MostA F most) : ConE (Γ := {c // CountsA F B most c}) Try.prog gl 8 [LLB F, LI most] (fun γ => .tup [LI γ.1, I 0]) := by
  have c1 := check_con (gl := gl) F B most h hm
  refine conE_of Try.func8 rfl (by kernel_rfl) rfl ?_
  simp only [Try.ntmps8, Try.results8, argEnv, ofC, of1]
  repeat' (first
 | ((with_reducible apply (r_call (f := 16))); exact rfl; exact rfl; exact c1; exact rfl; exact rfl)
 | ((with_reducible apply aw_seq))
 | ((with_reducible apply aw_region))
 | ((with_reducible apply thn_normal))
 | ((with_reducible apply aw_skip))
 | ((with_reducible apply ao_nil))
 | ((with_reducible apply r_move); exact rfl; exact rfl)
 | ((with_reducible apply r_assign); exact rfl; exact rfl)
 | ((with_reducible apply r_neq); exact rfl; exact rfl; exact rfl)
 | (((with_reducible apply aw_cond); exact rfl) <;> intro hg <;> (first | (exact absurd hg (by decide)) | ((try simp only [decide_eq_true_eq, decide_eq_false_iff_not, Bool.not_eq_true', Bool.not_eq_false', Bool.not_true, Bool.not_false, Bool.not_not, Int.not_lt, Int.not_le, Nat.not_lt, Nat.not_le, gt_iff_lt, ge_iff_le, List.cons.injEq, and_true] at hg); first | (exact absurd trivial hg) | (exfalso; omega) | (have hT : True := hg; clear hT hg) | skip)))
 )
  refine r_callNE (serve_con F B most h hm) rfl ⟨.inl rfl, .inl rfl, trivial⟩ rfl ?_
  rintro ⟨g, hS⟩
  repeat' (first
 | ((with_reducible apply aw_seq))
 | ((with_reducible apply aw_region))
 | ((with_reducible apply thn_normal))
 | ((with_reducible apply aw_ret))
 | ((with_reducible apply ao_nil))
 | ((with_reducible apply r_move); exact rfl; exact rfl)
 | ((with_reducible apply r_assign); exact rfl; exact rfl)
 | ((with_reducible apply r_extract); exact rfl; exact rfl; exact rfl)
 )
  exact ⟨⟨cntL g F.length B, g, hS, rfl⟩, ret2 (.cons (.tmp rfl cl_c) (.cons (.tmp rfl cl_c) .nil))⟩
def nz (l : List Int) : Nat := l.countP (fun x => decide (x ≠ 0))
theorem nz_set : ∀ {l : List Int} {i : Nat} (h : i < l.length), l[i] ≠ 0 → nz (l.set i 0) < nz l
  | [], i, h, _ => absurd h (Nat.not_lt_zero _)
  | x :: l, 0, _, h0 => by
    have h0 : x ≠ 0 := h0
    show nz (0 :: l) < nz (x :: l)
    unfold nz
    rw [List.countP_cons_of_neg (by simp), List.countP_cons_of_pos (by simpa using h0)]
    exact Nat.lt_succ_self _
  | x :: l, i + 1, h, h0 => by
    have := nz_set (l := l) (i := i) (by simpa using h) (by simpa using h0)
    show nz (x :: l.set i 0) < nz (x :: l)
    unfold nz at this ⊢
    by_cases hx : x ≠ 0
    · rw [List.countP_cons_of_pos (by simpa using hx), List.countP_cons_of_pos (by simpa using hx)]; omega
    · rw [List.countP_cons_of_neg (by simpa using hx), List.countP_cons_of_neg (by simpa using hx)]; omega
structure LessA (F : List (List Bool)) (B : Nat) (least most ms : List Int) (g : Asg) : Prop where
  m : MostA F ms
  le : ∀ i, i < F.length → ms.getD i 0 ≤ most.getD i 0
  srv : Srv F B (fun i => ms.getD i 0) F.length g
  first : ∃ g0, Srv F B (fun i => most.getD i 0) F.length g0 ∧ (g = g0 ∨ ¬ Filled F.length B least g0)
theorem unf_false {F : List (List Bool)} {B : Nat} {least : List Int} {g : Asg} (h : (unfS (cntL g F.length B) least).2 = false) : Filled F.length B least g := fun i hi => by
  unfold unfS at h
  rw [cntL_len] at h
  cases hs : shortS (cntL g F.length B) least F.length with
  | some j => rw [hs] at h; cases h
  | none =>
    have h1 := short_none hs i hi
    have h2 : (cntL g F.length B).getD i 0 = (cnt g i B : Int) := by rw [List.getD_eq_getElem?_getD, cntL_get _ _ hi]; rfl
    rw [h2] at h1
    omega
theorem unf_true {F : List (List Bool)} {B : Nat} {least : List Int} {g : Asg} (h : (unfS (cntL g F.length B) least).2 = true) : ∃ i : Nat, i < F.length ∧ (unfS (cntL g F.length B) least).1 = (i : Int) ∧ 0 < cnt g i B ∧ (cnt g i B : Int) < least.getD i 0 := by
  unfold unfS at h ⊢
  rw [cntL_len] at h ⊢
  cases hs : shortS (cntL g F.length B) least F.length with
  | none => rw [hs] at h; cases h
  | some j =>
    obtain ⟨h1, h2, h3⟩ := short_some hs
    have h4 : (cntL g F.length B).getD j 0 = (cnt g j B : Int) := by rw [List.getD_eq_getElem?_getD, cntL_get _ _ h1]; rfl
    rw [h4] at h2 h3
    exact ⟨j, h1, rfl, by omega, h3⟩
structure LeastA (F : List (List Bool)) (least most : List Int) : Prop where
  len : least.length = F.length
  bd : ∀ (i : Nat) (h : i < least.length) (h2 : i < most.length), 0 ≤ least[i] ∧ least[i] ≤ most[i]
theorem best_con (F : List (List Bool)) (B : Nat) (least most : List Int) (h : Tab F B) (hm : MostA F most) (hl : LeastA F least most) : ConE (Γ := {b // BestA F B least most b}) Try.prog gl 9 [LLB F, LI least, LI most] (fun γ => .tup [LI γ.1, I 0]) := by
  have hn := h.n
  have hb5 := h.b
  have hml := hm.len
  have hll := hl.len
  have hpos := h.pos
  have c1 := checkTable_con (gl := gl) F B h
  have hmne : most.flatMap intC ≠ [] := fun e => by
    have := congrArg List.length e
    rw [flat_len EncL.len] at this
    have : most.length * 1 = 0 := this
    omega
  refine conE_of Try.func9 rfl (by kernel_rfl) rfl ?_
  simp only [Try.ntmps9, Try.results9, argEnv, ofC, of1]
  repeat' (first
 | ((with_reducible apply (r_call (f := 18))); exact rfl; exact rfl; exact c1; exact rfl; exact rfl)
 | ((with_reducible apply aw_seq))
 | ((with_reducible apply aw_region))
 | ((with_reducible apply aw_block))
 | ((with_reducible apply thn_normal))
 | ((with_reducible apply aw_skip))
 | ((with_reducible apply ao_nil))
 | ((with_reducible apply r_move); exact rfl; exact rfl)
 | ((with_reducible apply r_assign); exact rfl; exact rfl)
 | ((with_reducible apply r_neq); exact rfl; exact rfl; exact rfl)
 | ((with_reducible apply r_pick_f); exact rfl; exact rfl; exact rfl)
 | ((with_reducible apply r_len_f); exact rfl; exact inferInstance; exact rfl)
 | (((with_reducible apply r_guard); exact rfl; exact rfl; exact rfl; exact rfl) <;> intro hg <;> (first | (exact absurd hg (by decide)) | ((try simp only [decide_eq_true_eq, decide_eq_false_iff_not, Bool.not_eq_true', Bool.not_eq_false', Bool.not_true, Bool.not_false, Bool.not_not, Int.not_lt, Int.not_le, Nat.not_lt, Nat.not_le, gt_iff_lt, ge_iff_le, List.cons.injEq, and_true] at hg); first | (exact absurd trivial hg) | (exfalso; omega) | (have hT : True := hg; clear hT hg) | skip)))
 | (((with_reducible apply aw_cond); exact rfl) <;> intro hg <;> (first | (exact absurd hg (by decide)) | ((try simp only [decide_eq_true_eq, decide_eq_false_iff_not, Bool.not_eq_true', Bool.not_eq_false', Bool.not_true, Bool.not_false, Bool.not_not, Int.not_lt, Int.not_le, Nat.not_lt, Nat.not_le, gt_iff_lt, ge_iff_le, List.cons.injEq, and_true] at hg); first | (exact absurd trivial hg) | (exfalso; omega) | (have hT : True := hg; clear hT hg) | skip)))
 )
  refine aw_loopG (G := Nat) (fun (j : Nat) => j ≤ F.length) (fun (j : Nat) => F.length - j) (fun (j : Nat) => [(0, .c (LLB F)), (1, .c (LI least)), (2, .c (LI most)), (32, A F.length), (33, A j)]) (fun (j : Nat) => []) 0 0 ?_ (by refine weak_mk rfl ?_ ?_ <;> repeat (first | exact envW_nil | exact heapW_nil | refine envW_cons rfl rfl ?_ | refine heapW_cons rfl rfl rfl ?_)) rfl ?_
  · exact Nat.zero_le _
  rintro j hI
  try dsimp only at hI
  try dsimp only
  by_cases hj : j < F.length
  · have hr := hm.bd j (by omega)
    have hr2 := hl.bd j (by omega) (by omega)
    repeat' (first
 | ((with_reducible apply aw_seq))
 | ((with_reducible apply aw_region))
 | ((with_reducible apply aw_block))
 | ((with_reducible apply thn_normal))
 | ((with_reducible apply inb_normal))
 | ((with_reducible apply aw_skip))
 | ((with_reducible apply ao_nil))
 | ((with_reducible apply r_move); exact rfl; exact rfl)
 | ((with_reducible apply r_assign); exact rfl; exact rfl)
 | ((with_reducible apply r_lss); exact rfl; exact rfl; exact rfl)
 | ((with_reducible apply r_gtr); exact rfl; exact rfl; exact rfl)
 | ((with_reducible apply r_add); exact rfl; exact rfl; exact (by first | assumption | (unfold fits; omega)); exact rfl)
 | ((with_reducible apply r_pick_f); exact rfl; exact rfl; exact rfl)
 | ((with_reducible apply r_index_f); exact rfl; exact inferInstance; exact rfl; exact rfl; (first | assumption | omega); exact rfl)
 | ((with_reducible apply r_load_f0); exact rfl; exact inferInstance; exact List.getElem?_eq_getElem (by first | assumption | omega); exact rfl; exact rfl)
 | (((with_reducible apply aw_cond); exact rfl) <;> intro hg <;> (first | (exact absurd hg (by decide)) | ((try simp only [decide_eq_true_eq, decide_eq_false_iff_not, Bool.not_eq_true', Bool.not_eq_false', Bool.not_true, Bool.not_false, Bool.not_not, Int.not_lt, Int.not_le, Nat.not_lt, Nat.not_le, gt_iff_lt, ge_iff_le, List.cons.injEq, and_true] at hg); first | (exact absurd trivial hg) | (exfalso; omega) | (have hT : True := hg; clear hT hg) | skip)))
 | (refine aw_drawq ?_ ?_; (kernel_rfl))
 | ((with_reducible apply ds_nil))
 | (((with_reducible apply rd_guard); exact rfl; exact rfl; exact rfl) <;> intro hg <;> (first | (exact absurd hg (by decide)) | ((try rw [hg]); (try simp only [decide_eq_true_eq, decide_eq_false_iff_not, Bool.not_eq_true', Bool.not_eq_false', Bool.not_true, Bool.not_false, Bool.not_not, Int.not_lt, Int.not_le, Nat.not_lt, Nat.not_le, gt_iff_lt, ge_iff_le, List.cons.injEq, and_true] at hg); first | (exact absurd trivial hg) | (exfalso; omega) | (have hT : True := hg; clear hT hg) | skip)))
 )
    all_goals first | (exfalso; omega) | skip
    all_goals
      refine ⟨j + 1, ?_, ?_, by refine weak_mk rfl ?_ ?_ <;> repeat (first | exact envW_nil | exact heapW_nil | refine envW_cons rfl rfl ?_ | refine heapW_cons rfl rfl rfl ?_)⟩
      · omega
      · omega
  repeat' (first
 | ((with_reducible apply (r_in Try.func19 rfl Try.results19 (by kernel_rfl) Try.ntmps19)); exact rfl; exact rfl; exact rfl; exact rfl)
 | ((with_reducible apply back_ret); exact rfl)
 | ((with_reducible apply r_eqnil); exact rfl; exact rfl; exact rfl; intro nb hnb; obtain rfl : nb = false := hnb hmne)
 | ((with_reducible apply (r_appendl (enc := intC) (l := []) (l2 := most))); exact rfl; exact rfl; exact inferInstance; exact rfl; exact rfl; exact (by omega); exact (by omega); exact rfl)
 | ((with_reducible apply aw_seq))
 | ((with_reducible apply aw_region))
 | ((with_reducible apply thn_normal))
 | ((with_reducible apply thn_exit))
 | ((with_reducible apply inb_exit))
 | ((with_reducible apply aw_skip))
 | ((with_reducible apply aw_exit))
 | ((with_reducible apply aw_ret))
 | ((with_reducible apply ao_nil))
 | ((with_reducible apply r_move); exact rfl; exact rfl)
 | ((with_reducible apply r_assign); exact rfl; exact rfl)
 | ((with_reducible apply r_lss); exact rfl; exact rfl; exact rfl)
 | (((with_reducible apply aw_cond); exact rfl) <;> intro hg <;> (first | (exact absurd hg (by decide)) | ((try simp only [decide_eq_true_eq, decide_eq_false_iff_not, Bool.not_eq_true', Bool.not_eq_false', Bool.not_true, Bool.not_false, Bool.not_not, Int.not_lt, Int.not_le, Nat.not_lt, Nat.not_le, gt_iff_lt, ge_iff_le, List.cons.injEq, and_true] at hg); first | (exact absurd trivial hg) | (exfalso; omega) | (have hT : True := hg; clear hT hg) | skip)))
 | ((with_reducible apply r_lit0); exact rfl)
 )
  rw [Nat.zero_add most.length, List.nil_append, hml]
  refine r_in2 Try.func17 rfl Try.results17 (by kernel_rfl) Try.ntmps17 rfl rfl rfl rfl ?_
  have hm0 := most_nonneg hm
  repeat' (first
 | ((with_reducible apply r_makemap); exact rfl)
 | ((with_reducible apply r_make (enc := intC) (0 : Int) F.length); exact inferInstance; exact rfl; exact rfl; exact rfl; exact rfl; exact rfl; omega; omega; exact rfl)
 | ((with_reducible apply aw_seq))
 | ((with_reducible apply aw_region))
 | ((with_reducible apply aw_block))
 | ((with_reducible apply thn_normal))
 | ((with_reducible apply ao_nil))
 | ((with_reducible apply r_move); exact rfl; exact rfl)
 | ((with_reducible apply r_assign); exact rfl; exact rfl)
 | ((with_reducible apply r_box_a); exact rfl; exact rfl)
 | ((with_reducible apply r_len_f); exact rfl; exact inferInstance; exact rfl)
 | ((with_reducible apply r_build); exact rfl; exact rfl; exact rfl)
 )
  refine aw_mclose (F := F) (to := fun _ => none) (first := ((0 : Nat) : Int)) 2 1 rfl rfl rfl ?_
  rw [← cntL_zero0 F.length B]
  refine aw_loopG (G := Nat × Asg) (fun ((k, g) : Nat × Asg) => k ≤ F.length ∧ Srv F B (fun i => most.getD i 0) k g) (fun ((k, g) : Nat × Asg) => F.length - k) (fun ((k, g) : Nat × Asg) => [(0, .c (LLB F)), (1, .vec 0 F.length), (6, .ptr 2 0), (7, .vec 3 F.length), (17, A F.length), (18, A k)]) (fun ((k, g) : Nat × Asg) => [(0, some (.vec 3 1 (most.flatMap intC))), (2, some (.obj (matP F g ((0 : Nat) : Int)))), (3, some (.vec 3 1 ((cntL g F.length B).flatMap intC)))]) 4 (0, fun _ => none) ?_ (by refine weak_mk rfl ?_ ?_ <;> repeat (first | exact envW_nil | exact heapW_nil | refine envW_cons rfl rfl ?_ | refine heapW_cons rfl rfl rfl ?_)) rfl ?_
  · exact ⟨Nat.zero_le _, srv_start hm0⟩
  rintro ⟨k, g⟩ hI
  dsimp only at hI ⊢
  obtain ⟨hk, hS⟩ := hI
  by_cases hkl : k < F.length
  · skip
    repeat' (first
 | ((with_reducible apply aw_seq))
 | ((with_reducible apply aw_region))
 | ((with_reducible apply aw_block))
 | ((with_reducible apply thn_normal))
 | ((with_reducible apply aw_skip))
 | ((with_reducible apply ao_nil))
 | ((with_reducible apply r_move); exact rfl; exact rfl)
 | ((with_reducible apply r_assign); exact rfl; exact rfl)
 | ((with_reducible apply r_lss); exact rfl; exact rfl; exact rfl)
 | (((with_reducible apply aw_cond); exact rfl) <;> intro hg <;> (first | (exact absurd hg (by decide)) | ((try simp only [decide_eq_true_eq, decide_eq_false_iff_not, Bool.not_eq_true', Bool.not_eq_false', Bool.not_true, Bool.not_false, Bool.not_not, Int.not_lt, Int.not_le, Nat.not_lt, Nat.not_le, gt_iff_lt, ge_iff_le, List.cons.injEq, and_true] at hg); first | (exact absurd trivial hg) | (exfalso; omega) | (have hT : True := hg; clear hT hg) | skip)))
 )
    refine aw_loopG (G := Asg) (fun (g : Asg) => SrvI F B (fun i => most.getD i 0) k g) (fun (g : Asg) => (most.getD k 0).toNat - cnt g k B) (fun (g : Asg) => [(0, .c (LLB F)), (1, .vec 0 F.length), (6, .ptr 2 0), (7, .vec 3 F.length), (8, A k), (17, A F.length), (18, A k)]) (fun (g : Asg) => [(0, some (.vec 3 1 (most.flatMap intC))), (2, some (.obj (matP F g ((0 : Nat) : Int)))), (3, some (.vec 3 1 ((cntL g F.length B).flatMap intC)))]) 4 g ?_ (by refine weak_mk rfl ?_ ?_ <;> repeat (first | exact envW_nil | exact heapW_nil | refine envW_cons rfl rfl ?_ | refine heapW_cons rfl rfl rfl ?_)) rfl ?_
    · exact hS.begin
    clear hS
    clear g
    intro g hS
    have hcl := cntL_len g F.length B
    have hkc : k < (cntL g F.length B).length := by rw [hcl]; exact hkl
    have hgk := cntL_getI g B hkl hkc
    have hmk : k < most.length := by omega
    have hmd := getD_get hmk
    have hle := hS.le k hkl
    have hle : (cnt g k B : Int) ≤ most.getD k 0 := hle
    rw [hmd] at hle
    by_cases hc : (cnt g k B : Int) < most[k]
    · have hext := extend_con (gl := gl) F B h g hS.ok 0 k hkl (Nat.zero_le _)
      repeat' (first
 | (refine aw_drawt 12 ?_ ?_; (kernel_rfl); (simp only [List.take_succ_cons, List.take_zero, List.drop_succ_cons, List.drop_zero]))
 | ((with_reducible apply aw_seq))
 | ((with_reducible apply r_move); exact rfl; exact rfl)
 | ((with_reducible apply r_lss); exact rfl; exact rfl; exact rfl)
 | ((with_reducible apply r_index_vf); exact rfl; exact rfl; exact inferInstance; (first | exact rfl | assumption | omega); exact rfl; exact rfl; (first | assumption | omega); exact rfl)
 | ((with_reducible apply r_load_vf0); exact rfl; exact rfl; exact inferInstance; (first | exact rfl | assumption | omega); exact List.getElem?_eq_getElem (by first | assumption | omega); exact rfl; exact rfl)
 | (((with_reducible apply r_guard); exact rfl; exact rfl; exact rfl; exact rfl) <;> intro hg <;> (first | (exact absurd hg (by decide)) | ((try simp only [decide_eq_true_eq, decide_eq_false_iff_not, Bool.not_eq_true', Bool.not_eq_false', Bool.not_true, Bool.not_false, Bool.not_not, Int.not_lt, Int.not_le, Nat.not_lt, Nat.not_le, gt_iff_lt, ge_iff_le, List.cons.injEq, and_true] at hg); first | (exact absurd trivial hg) | (exfalso; omega) | (have hT : True := hg; clear hT hg) | skip)))
 | ((with_reducible apply ds_nil))
 | (((with_reducible apply rd_guard); exact rfl; exact rfl; exact rfl) <;> intro hg <;> (first | (exact absurd hg (by decide)) | ((try rw [hg]); (try simp only [decide_eq_true_eq, decide_eq_false_iff_not, Bool.not_eq_true', Bool.not_eq_false', Bool.not_true, Bool.not_false, Bool.not_not, Int.not_lt, Int.not_le, Nat.not_lt, Nat.not_le, gt_iff_lt, ge_iff_le, List.cons.injEq, and_true] at hg); first | (exact absurd trivial hg) | (exfalso; omega) | (have hT : True := hg; clear hT hg) | skip)))
 )
      refine r_callOE (f := 26) 2 hext rfl rfl rfl rfl ?_
      rintro ⟨⟨rb, g2⟩, hE⟩
      dsimp only
      cases rb with
      | true =>
        rcases hE with ⟨_, hE⟩ | ⟨hE, _⟩
        rotate_left
        · cases hE
        have hE : More F B 0 k g g2 := hE
        have hS2 := hS.more (by show (cnt g k B : Int) < most.getD k 0; rw [hmd]; exact hc) hE
        have hset := cntL_more hE hkl
        have hcn := cnt_le g k B
        repeat' (first
 | ((with_reducible apply (r_store_v (enc := intC) (k := k) (l := cntL g F.length B) ((cnt g k B : Int) + 1))); exact rfl; exact rfl; exact inferInstance; exact hcl; exact hkc; exact rfl; exact rfl; exact rfl; (rw [hgk]; exact rfl))
 | ((with_reducible apply aw_region))
 | ((with_reducible apply aw_block))
 | ((with_reducible apply thn_normal))
 | ((with_reducible apply inb_normal))
 | ((with_reducible apply aw_skip))
 | ((with_reducible apply ao_nil))
 | ((with_reducible apply r_move); exact rfl; exact rfl)
 | ((with_reducible apply r_add); exact rfl; exact rfl; exact (by first | assumption | (unfold fits; omega)); exact rfl)
 | ((with_reducible apply r_pick_t); exact rfl; exact rfl; exact rfl)
 | ((with_reducible apply r_index_vf); exact rfl; exact rfl; exact inferInstance; (first | exact rfl | assumption | omega); exact rfl; exact rfl; (first | assumption | omega); exact rfl)
 | ((with_reducible apply r_load_vf0); exact rfl; exact rfl; exact inferInstance; (first | exact rfl | assumption | omega); exact List.getElem?_eq_getElem (by first | assumption | omega); exact rfl; exact rfl)
 | (((with_reducible apply aw_cond); exact rfl) <;> intro hg <;> (first | (exact absurd hg (by decide)) | ((try simp only [decide_eq_true_eq, decide_eq_false_iff_not, Bool.not_eq_true', Bool.not_eq_false', Bool.not_true, Bool.not_false, Bool.not_not, Int.not_lt, Int.not_le, Nat.not_lt, Nat.not_le, gt_iff_lt, ge_iff_le, List.cons.injEq, and_true] at hg); first | (exact absurd trivial hg) | (exfalso; omega) | (have hT : True := hg; clear hT hg) | skip)))
 )
        rw [hset]
        refine ⟨g2, ?_, ?_, by refine weak_mk rfl ?_ ?_ <;> repeat (first | exact envW_nil | exact heapW_nil | refine envW_cons rfl rfl ?_ | refine heapW_cons rfl rfl rfl ?_)⟩
        · have h1 := hE.cnt k
          rw [if_pos rfl] at h1
          show (most.getD k 0).toNat - cnt g2 k B < (most.getD k 0).toNat - cnt g k B
          rw [hmd]; omega
        · exact hS2
      | false =>
        rcases hE with ⟨hE, _⟩ | ⟨_, hE, hst⟩
        · cases hE
        have hE : g2 = g := hE
        subst hE
        have hL := hS.done (lex_stuck hst hS.own)
        repeat' (first
 | ((with_reducible apply aw_region))
 | ((with_reducible apply thn_normal))
 | ((with_reducible apply thn_exit))
 | ((with_reducible apply inb_normal))
 | ((with_reducible apply inb_exit))
 | ((with_reducible apply aw_exit))
 | ((with_reducible apply ao_nil))
 | ((with_reducible apply r_move); exact rfl; exact rfl)
 | ((with_reducible apply r_add); exact rfl; exact rfl; exact (by first | assumption | (unfold fits; omega)); exact rfl)
 | ((with_reducible apply r_pick_t); exact rfl; exact rfl; exact rfl)
 | (((with_reducible apply aw_cond); exact rfl) <;> intro hg <;> (first | (exact absurd hg (by decide)) | ((try simp only [decide_eq_true_eq, decide_eq_false_iff_not, Bool.not_eq_true', Bool.not_eq_false', Bool.not_true, Bool.not_false, Bool.not_not, Int.not_lt, Int.not_le, Nat.not_lt, Nat.not_le, gt_iff_lt, ge_iff_le, List.cons.injEq, and_true] at hg); first | (exact absurd trivial hg) | (exfalso; omega) | (have hT : True := hg; clear hT hg) | skip)))
 )
        refine ⟨(k + 1, g2), ?_, ?_, by refine weak_mk rfl ?_ ?_ <;> repeat (first | exact envW_nil | exact heapW_nil | refine envW_cons rfl rfl ?_ | refine heapW_cons rfl rfl rfl ?_)⟩
        · show F.length - (k + 1) < F.length - k; omega
        · exact ⟨by show k + 1 ≤ _; omega, hL⟩
    · have hL := hS.done (lex_full hkl (by show most.getD k 0 ≤ _; rw [hmd]; omega))
      repeat' (first
 | (refine aw_drawt 12 ?_ ?_; (kernel_rfl); (simp only [List.take_succ_cons, List.take_zero, List.drop_succ_cons, List.drop_zero]))
 | ((with_reducible apply aw_seq))
 | ((with_reducible apply aw_region))
 | ((with_reducible apply thn_normal))
 | ((with_reducible apply thn_exit))
 | ((with_reducible apply inb_normal))
 | ((with_reducible apply inb_exit))
 | ((with_reducible apply aw_exit))
 | ((with_reducible apply ao_nil))
 | ((with_reducible apply r_move); exact rfl; exact rfl)
 | ((with_reducible apply r_lss); exact rfl; exact rfl; exact rfl)
 | ((with_reducible apply r_add); exact rfl; exact rfl; exact (by first | assumption | (unfold fits; omega)); exact rfl)
 | ((with_reducible apply r_pick_f); exact rfl; exact rfl; exact rfl)
 | ((with_reducible apply r_index_vf); exact rfl; exact rfl; exact inferInstance; (first | exact rfl | assumption | omega); exact rfl; exact rfl; (first | assumption | omega); exact rfl)
 | ((with_reducible apply r_load_vf0); exact rfl; exact rfl; exact inferInstance; (first | exact rfl | assumption | omega); exact List.getElem?_eq_getElem (by first | assumption | omega); exact rfl; exact rfl)
 | (((with_reducible apply r_guard); exact rfl; exact rfl; exact rfl; exact rfl) <;> intro hg <;> (first | (exact absurd hg (by decide)) | ((try simp only [decide_eq_true_eq, decide_eq_false_iff_not, Bool.not_eq_true', Bool.not_eq_false', Bool.not_true, Bool.not_false, Bool.not_not, Int.not_lt, Int.not_le, Nat.not_lt, Nat.not_le, gt_iff_lt, ge_iff_le, List.cons.injEq, and_true] at hg); first | (exact absurd trivial hg) | (exfalso; omega) | (have hT : True := hg; clear hT hg) | skip)))
 | (((with_reducible apply aw_cond); exact rfl) <;> intro hg <;> (first | (exact absurd hg (by decide)) | ((try simp only [decide_eq_true_eq, decide_eq_false_iff_not, Bool.not_eq_true', Bool.not_eq_false', Bool.not_true, Bool.not_false, Bool.not_not, Int.not_lt, Int.not_le, Nat.not_lt, Nat.not_le, gt_iff_lt, ge_iff_le, List.cons.injEq, and_true] at hg); first | (exact absurd trivial hg) | (exfalso; omega) | (have hT : True := hg; clear hT hg) | skip)))
 | ((with_reducible apply ds_nil))
 | (((with_reducible apply rd_guard); exact rfl; exact rfl; exact rfl) <;> intro hg <;> (first | (exact absurd hg (by decide)) | ((try rw [hg]); (try simp only [decide_eq_true_eq, decide_eq_false_iff_not, Bool.not_eq_true', Bool.not_eq_false', Bool.not_true, Bool.not_false, Bool.not_not, Int.not_lt, Int.not_le, Nat.not_lt, Nat.not_le, gt_iff_lt, ge_iff_le, List.cons.injEq, and_true] at hg); first | (exact absurd trivial hg) | (exfalso; omega) | (have hT : True := hg; clear hT hg) | skip)))
 )
      all_goals
        refine ⟨(k + 1, g), ?_, ?_, by refine weak_mk rfl ?_ ?_ <;> repeat (first | exact envW_nil | exact heapW_nil | refine envW_cons rfl rfl ?_ | refine heapW_cons rfl rfl rfl ?_)⟩
        · show F.length - (k + 1) < F.length - k; omega
        · exact ⟨by show k + 1 ≤ _; omega, hL⟩
  obtain rfl : k = F.length := by omega
  repeat' (first
 | ((with_reducible apply aw_seq))
 | ((with_reducible apply aw_region))
 | ((with_reducible apply thn_normal))
 | ((with_reducible apply thn_exit))
 | ((with_reducible apply inb_exit))
 | ((with_reducible apply aw_exit))
 | ((with_reducible apply aw_ret))
 | ((with_reducible apply ao_nil))
 | ((with_reducible apply r_move); exact rfl; exact rfl)
 | ((with_reducible apply r_assign); exact rfl; exact rfl)
 | ((with_reducible apply r_lss); exact rfl; exact rfl; exact rfl)
 | (((with_reducible apply aw_cond); exact rfl) <;> intro hg <;> (first | (exact absurd hg (by decide)) | ((try simp only [decide_eq_true_eq, decide_eq_false_iff_not, Bool.not_eq_true', Bool.not_eq_false', Bool.not_true, Bool.not_false, Bool.not_not, Int.not_lt, Int.not_le, Nat.not_lt, Nat.not_le, gt_iff_lt, ge_iff_le, List.cons.injEq, and_true] at hg); first | (exact absurd trivial hg) | (exfalso; omega) | (have hT : True := hg; clear hT hg) | skip)))
 )
  refine back2_ret (.inr rfl) rfl rfl ?_
  have cu := unfilled_con (gl := gl) (cntL g F.length B) least (by rw [cntL_len]; omega) (by rw [cntL_len]; omega)
  repeat' (first
 | ((with_reducible apply (r_callv (f := 20))); exact cu; exact rfl; exact cl_cons (cl_vec rfl (by rw [flat_len EncL.len, cntL_len])) (cl_cons cl_c cl_nil); exact rfl; exact rfl)
 | ((with_reducible apply aw_seq))
 | ((with_reducible apply aw_region))
 | ((with_reducible apply aw_block))
 | ((with_reducible apply thn_normal))
 | ((with_reducible apply ao_nil))
 | ((with_reducible apply r_move); exact rfl; exact rfl)
 | ((with_reducible apply r_assign); exact rfl; exact rfl)
 | ((with_reducible apply r_extract); exact rfl; exact rfl; exact rfl)
 )
  refine aw_loopRG (G := List Int × Asg) (fun ((ms, g) : List Int × Asg) => LessA F B least most ms g) (fun ((ms, g) : List Int × Asg) => nz ms) (fun ((ms, g) : List Int × Asg) => [(0, .c (LLB F)), (1, .c (LI least)), (2, .vec 0 F.length), (10, .vec 5 F.length), (11, .ptr 4 0), (12, A (unfS (cntL g F.length B) least).1), (13, .c (BO (unfS (cntL g F.length B) least).2))]) (fun ((ms, g) : List Int × Asg) => [(0, some (.vec 3 1 (ms.flatMap intC))), (4, some (.obj (matP F g ((0 : Nat) : Int)))), (5, some (.vec 3 1 ((cntL g F.length B).flatMap intC)))]) 6 (most, g) ?_ [(4, 2), (5, 3)] (by refine ren_mk [(4, 2), (5, 3)] rfl rfl rfl ?_ ?_ <;> repeat (first | exact envR_nil | exact heapR_nil | refine envR_cons rfl rfl ?_ | refine heapR_cons rfl rfl rfl ?_)) ?_
  · exact ⟨hm, fun _ _ => Int.le_refl _, hS, g, hS, .inl rfl⟩
  clear hS hk cu hm0 g
  rintro ⟨ms, g⟩ hI
  dsimp only at hI ⊢
  have hm' := hI.m
  have hml' := hm'.len
  cases hu : (unfS (cntL g F.length B) least).2 with
  | false =>
    have hfil := unf_false hu
    have her := earliest_con (gl := gl) F B h g hI.srv.ok
    repeat' (first
 | ((with_reducible apply aw_seq))
 | ((with_reducible apply aw_region))
 | ((with_reducible apply thn_normal))
 | ((with_reducible apply thn_exit))
 | ((with_reducible apply inb_exit))
 | ((with_reducible apply aw_exit))
 | ((with_reducible apply ao_nil))
 | ((with_reducible apply r_move); exact rfl; exact rfl)
 | (((with_reducible apply aw_cond); exact rfl) <;> intro hg <;> (first | (exact absurd hg (by decide)) | ((try simp only [decide_eq_true_eq, decide_eq_false_iff_not, Bool.not_eq_true', Bool.not_eq_false', Bool.not_true, Bool.not_false, Bool.not_not, Int.not_lt, Int.not_le, Nat.not_lt, Nat.not_le, gt_iff_lt, ge_iff_le, List.cons.injEq, and_true] at hg); first | (exact absurd trivial hg) | (exfalso; omega) | (have hT : True := hg; clear hT hg) | skip)))
 )
    refine r_callOE (f := 21) 4 her rfl rfl rfl rfl ?_
    rintro ⟨f, hf⟩
    repeat' (first
 | ((with_reducible apply thn_normal))
 | ((with_reducible apply aw_ret))
 | ((with_reducible apply ao_nil))
 | ((with_reducible apply r_assign); exact rfl; exact rfl)
 )
    obtain ⟨g0, hg0, hgg⟩ := hI.first
    refine ⟨⟨listA f B, f, g0, hg0, hf.ok, fun i hi => by rw [hf.cnt i]; exact hfil i hi, fun i hi => ?_, fun hF i => ?_, rfl⟩, ret2 (.cons (.tmp rfl cl_c) (.cons (.tmp rfl cl_c) .nil))⟩
    · rw [hf.cnt i]
      have h1 := hI.srv.le i hi
      have h2 := hI.le i hi
      have h1 : (cnt g i B : Int) ≤ ms.getD i 0 := h1
      omega
    · rcases hgg with rfl | hgg
      · exact hf.cnt i
      · exact absurd hF hgg
  | true =>
    obtain ⟨i, hi1, hi2, hi3, hi4⟩ := unf_true hu
    have hin : i < ms.length := by omega
    have hms : ms[i] ≠ 0 := by
      have h1 := hI.srv.le i hi1
      have h1 : (cnt g i B : Int) ≤ ms.getD i 0 := h1
      rw [getD_get hin] at h1
      omega
    have hnz := nz_set hin hms
    have hm2 : MostA F (ms.set i 0) := ⟨by rw [List.length_set]; exact hml', fun j hj => by
      rw [List.getElem_set]
      split
      · decide
      · exact hm'.bd j (by rw [List.length_set] at hj; exact hj)⟩
    have hle2 : ∀ j, j < F.length → (ms.set i 0).getD j 0 ≤ most.getD j 0 := fun j hj => by
      have h1 := hI.le j hj
      by_cases e : i = j
      · subst e
        rw [getD_set_eq (by omega)]
        have := most_nonneg hm i hi1
        exact this
      · rw [getD_set_ne e]; exact h1
    obtain ⟨g0, hg0, hgg⟩ := hI.first
    have hnf : ¬ Filled F.length B least g0 := fun hF => by
      rcases hgg with rfl | hgg
      · rcases hF i hi1 with e | e <;> omega
      · exact hgg hF
    have hm0 := most_nonneg hm2
    clear hI hgg hms hi3 hi4
    rw [hi2]
    repeat' (first
 | ((with_reducible apply (r_store_v (enc := intC) (k := i) (l := ms) (0 : Int))); exact rfl; exact rfl; exact inferInstance; exact hml'; exact (by omega); exact rfl; exact rfl; exact rfl; exact rfl)
 | ((with_reducible apply aw_seq))
 | ((with_reducible apply aw_region))
 | ((with_reducible apply aw_block))
 | ((with_reducible apply thn_normal))
 | ((with_reducible apply aw_skip))
 | ((with_reducible apply ao_nil))
 | ((with_reducible apply r_move); exact rfl; exact rfl)
 | ((with_reducible apply r_index_vf); exact rfl; exact rfl; exact inferInstance; (first | exact rfl | assumption | omega); exact rfl; exact rfl; (first | assumption | omega); exact rfl)
 | (((with_reducible apply aw_cond); exact rfl) <;> intro hg <;> (first | (exact absurd hg (by decide)) | ((try simp only [decide_eq_true_eq, decide_eq_false_iff_not, Bool.not_eq_true', Bool.not_eq_false', Bool.not_true, Bool.not_false, Bool.not_not, Int.not_lt, Int.not_le, Nat.not_lt, Nat.not_le, gt_iff_lt, ge_iff_le, List.cons.injEq, and_true] at hg); first | (exact absurd trivial hg) | (exfalso; omega) | (have hT : True := hg; clear hT hg) | skip)))
 )
    generalize hms2 : ms.set i 0 = m2 at hm2 hle2 hm0 hnz ⊢
    have hml2 := hm2.len
    refine r_in2 Try.func17 rfl Try.results17 (by kernel_rfl) Try.ntmps17 rfl rfl rfl rfl ?_
    clear hu hi2
    repeat' (first
 | ((with_reducible apply r_makemap); exact rfl)
 | ((with_reducible apply r_make (enc := intC) (0 : Int) F.length); exact inferInstance; exact rfl; exact rfl; exact rfl; exact rfl; exact rfl; omega; omega; exact rfl)
 | ((with_reducible apply aw_seq))
 | ((with_reducible apply aw_region))
 | ((with_reducible apply aw_block))
 | ((with_reducible apply thn_normal))
 | ((with_reducible apply ao_nil))
 | ((with_reducible apply r_move); exact rfl; exact rfl)
 | ((with_reducible apply r_assign); exact rfl; exact rfl)
 | ((with_reducible apply r_box_a); exact rfl; exact rfl)
 | ((with_reducible apply r_len_f); exact rfl; exact inferInstance; exact rfl)
 | ((with_reducible apply r_build); exact rfl; exact rfl; exact rfl)
 )
    refine aw_mclose (F := F) (to := fun _ => none) (first := ((0 : Nat) : Int)) 7 6 rfl rfl rfl ?_
    rw [← cntL_zero0 F.length B]
    refine aw_loopG (G := Nat × Asg) (fun ((k, g) : Nat × Asg) => k ≤ F.length ∧ Srv F B (fun i => m2.getD i 0) k g) (fun ((k, g) : Nat × Asg) => F.length - k) (fun ((k, g) : Nat × Asg) => [(0, .c (LLB F)), (1, .vec 0 F.length), (6, .ptr 7 0), (7, .vec 8 F.length), (17, A F.length), (18, A k)]) (fun ((k, g) : Nat × Asg) => [(0, some (.vec 3 1 (m2.flatMap intC))), (7, some (.obj (matP F g ((0 : Nat) : Int)))), (8, some (.vec 3 1 ((cntL g F.length B).flatMap intC)))]) 9 (0, fun _ => none) ?_ (by refine weak_mk rfl ?_ ?_ <;> repeat (first | exact envW_nil | exact heapW_nil | refine envW_cons rfl rfl ?_ | refine heapW_cons rfl rfl rfl ?_)) rfl ?_
    · exact ⟨Nat.zero_le _, srv_start hm0⟩
    rintro ⟨k, g⟩ hI
    dsimp only at hI ⊢
    obtain ⟨hk, hS⟩ := hI
    by_cases hkl : k < F.length
    · skip
      repeat' (first
 | ((with_reducible apply aw_seq))
 | ((with_reducible apply aw_region))
 | ((with_reducible apply aw_block))
 | ((with_reducible apply thn_normal))
 | ((with_reducible apply aw_skip))
 | ((with_reducible apply ao_nil))
 | ((with_reducible apply r_move); exact rfl; exact rfl)
 | ((with_reducible apply r_assign); exact rfl; exact rfl)
 | ((with_reducible apply r_lss); exact rfl; exact rfl; exact rfl)
 | (((with_reducible apply aw_cond); exact rfl) <;> intro hg <;> (first | (exact absurd hg (by decide)) | ((try simp only [decide_eq_true_eq, decide_eq_false_iff_not, Bool.not_eq_true', Bool.not_eq_false', Bool.not_true, Bool.not_false, Bool.not_not, Int.not_lt, Int.not_le, Nat.not_lt, Nat.not_le, gt_iff_lt, ge_iff_le, List.cons.injEq, and_true] at hg); first | (exact absurd trivial hg) | (exfalso; omega) | (have hT : True := hg; clear hT hg) | skip)))
 )
      refine aw_loopG (G := Asg) (fun (g : Asg) => SrvI F B (fun i => m2.getD i 0) k g) (fun (g : Asg) => (m2.getD k 0).toNat - cnt g k B) (fun (g : Asg) => [(0, .c (LLB F)), (1, .vec 0 F.length), (6, .ptr 7 0), (7, .vec 8 F.length), (8, A k), (17, A F.length), (18, A k)]) (fun (g : Asg) => [(0, some (.vec 3 1 (m2.flatMap intC))), (7, some (.obj (matP F g ((0 : Nat) : Int)))), (8, some (.vec 3 1 ((cntL g F.length B).flatMap intC)))]) 9 g ?_ (by refine weak_mk rfl ?_ ?_ <;> repeat (first | exact envW_nil | exact heapW_nil | refine envW_cons rfl rfl ?_ | refine heapW_cons rfl rfl rfl ?_)) rfl ?_
      · exact hS.begin
      clear hS
      clear g
      intro g hS
      have hcl := cntL_len g F.length B
      have hkc : k < (cntL g F.length B).length := by rw [hcl]; exact hkl
      have hgk := cntL_getI g B hkl hkc
      have hmk : k < m2.length := by omega
      have hmd := getD_get hmk
      have hle := hS.le k hkl
      have hle : (cnt g k B : Int) ≤ m2.getD k 0 := hle
      rw [hmd] at hle
      by_cases hc : (cnt g k B : Int) < m2[k]
      · have hext := extend_con (gl := gl) F B h g hS.ok 0 k hkl (Nat.zero_le _)
        repeat' (first
 | (refine aw_drawt 12 ?_ ?_; (kernel_rfl); (simp only [List.take_succ_cons, List.take_zero, List.drop_succ_cons, List.drop_zero]))
 | ((with_reducible apply aw_seq))
 | ((with_reducible apply r_move); exact rfl; exact rfl)
 | ((with_reducible apply r_lss); exact rfl; exact rfl; exact rfl)
 | ((with_reducible apply r_index_vf); exact rfl; exact rfl; exact inferInstance; (first | exact rfl | assumption | omega); exact rfl; exact rfl; (first | assumption | omega); exact rfl)
 | ((with_reducible apply r_load_vf0); exact rfl; exact rfl; exact inferInstance; (first | exact rfl | assumption | omega); exact List.getElem?_eq_getElem (by first | assumption | omega); exact rfl; exact rfl)
 | (((with_reducible apply r_guard); exact rfl; exact rfl; exact rfl; exact rfl) <;> intro hg <;> (first | (exact absurd hg (by decide)) | ((try simp only [decide_eq_true_eq, decide_eq_false_iff_not, Bool.not_eq_true', Bool.not_eq_false', Bool.not_true, Bool.not_false, Bool.not_not, Int.not_lt, Int.not_le, Nat.not_lt, Nat.not_le, gt_iff_lt, ge_iff_le, List.cons.injEq, and_true] at hg); first | (exact absurd trivial hg) | (exfalso; omega) | (have hT : True := hg; clear hT hg) | skip)))
 | ((with_reducible apply ds_nil))
 | (((with_reducible apply rd_guard); exact rfl; exact rfl; exact rfl) <;> intro hg <;> (first | (exact absurd hg (by decide)) | ((try rw [hg]); (try simp only [decide_eq_true_eq, decide_eq_false_iff_not, Bool.not_eq_true', Bool.not_eq_false', Bool.not_true, Bool.not_false, Bool.not_not, Int.not_lt, Int.not_le, Nat.not_lt, Nat.not_le, gt_iff_lt, ge_iff_le, List.cons.injEq, and_true] at hg); first | (exact absurd trivial hg) | (exfalso; omega) | (have hT : True := hg; clear hT hg) | skip)))
 )
        refine r_callOE (f := 26) 7 hext rfl rfl rfl rfl ?_
        rintro ⟨⟨rb, g2⟩, hE⟩
        dsimp only
        cases rb with
        | true =>
          rcases hE with ⟨_, hE⟩ | ⟨hE, _⟩
          rotate_left
          · cases hE
          have hE : More F B 0 k g g2 := hE
          have hS2 := hS.more (by show (cnt g k B : Int) < m2.getD k 0; rw [hmd]; exact hc) hE
          have hset := cntL_more hE hkl
          have hcn := cnt_le g k B
          repeat' (first
 | ((with_reducible apply (r_store_v (enc := intC) (k := k) (l := cntL g F.length B) ((cnt g k B : Int) + 1))); exact rfl; exact rfl; exact inferInstance; exact hcl; exact hkc; exact rfl; exact rfl; exact rfl; (rw [hgk]; exact rfl))
 | ((with_reducible apply aw_region))
 | ((with_reducible apply aw_block))
 | ((with_reducible apply thn_normal))
 | ((with_reducible apply inb_normal))
 | ((with_reducible apply aw_skip))
 | ((with_reducible apply ao_nil))
 | ((with_reducible apply r_move); exact rfl; exact rfl)
 | ((with_reducible apply r_add); exact rfl; exact rfl; exact (by first | assumption | (unfold fits; omega)); exact rfl)
 | ((with_reducible apply r_pick_t); exact rfl; exact rfl; exact rfl)
 | ((with_reducible apply r_index_vf); exact rfl; exact rfl; exact inferInstance; (first | exact rfl | assumption | omega); exact rfl; exact rfl; (first | assumption | omega); exact rfl)
 | ((with_reducible apply r_load_vf0); exact rfl; exact rfl; exact inferInstance; (first | exact rfl | assumption | omega); exact List.getElem?_eq_getElem (by first | assumption | omega); exact rfl; exact rfl)
 | (((with_reducible apply aw_cond); exact rfl) <;> intro hg <;> (first | (exact absurd hg (by decide)) | ((try simp only [decide_eq_true_eq, decide_eq_false_iff_not, Bool.not_eq_true', Bool.not_eq_false', Bool.not_true, Bool.not_false, Bool.not_not, Int.not_lt, Int.not_le, Nat.not_lt, Nat.not_le, gt_iff_lt, ge_iff_le, List.cons.injEq, and_true] at hg); first | (exact absurd trivial hg) | (exfalso; omega) | (have hT : True := hg; clear hT hg) | skip)))
 )
          rw [hset]
          refine ⟨g2, ?_, ?_, by refine weak_mk rfl ?_ ?_ <;> repeat (first | exact envW_nil | exact heapW_nil | refine envW_cons rfl rfl ?_ | refine heapW_cons rfl rfl rfl ?_)⟩
          · have h1 := hE.cnt k
            rw [if_pos rfl] at h1
            show (m2.getD k 0).toNat - cnt g2 k B < (m2.getD k 0).toNat - cnt g k B
            rw [hmd]; omega
          · exact hS2
        | false =>
          rcases hE with ⟨hE, _⟩ | ⟨_, hE, hst⟩
          · cases hE
          have hE : g2 = g := hE
          subst hE
          have hL := hS.done (lex_stuck hst hS.own)
          repeat' (first
 | ((with_reducible apply aw_region))
 | ((with_reducible apply thn_normal))
 | ((with_reducible apply thn_exit))
 | ((with_reducible apply inb_normal))
 | ((with_reducible apply inb_exit))
 | ((with_reducible apply aw_exit))
 | ((with_reducible apply ao_nil))
 | ((with_reducible apply r_move); exact rfl; exact rfl)
 | ((with_reducible apply r_add); exact rfl; exact rfl; exact (by first | assumption | (unfold fits; omega)); exact rfl)
 | ((with_reducible apply r_pick_t); exact rfl; exact rfl; exact rfl)
 | (((with_reducible apply aw_cond); exact rfl) <;> intro hg <;> (first | (exact absurd hg (by decide)) | ((try simp only [decide_eq_true_eq, decide_eq_false_iff_not, Bool.not_eq_true', Bool.not_eq_false', Bool.not_true, Bool.not_false, Bool.not_not, Int.not_lt, Int.not_le, Nat.not_lt, Nat.not_le, gt_iff_lt, ge_iff_le, List.cons.injEq, and_true] at hg); first | (exact absurd trivial hg) | (exfalso; omega) | (have hT : True := hg; clear hT hg) | skip)))
 )
          refine ⟨(k + 1, g2), ?_, ?_, by refine weak_mk rfl ?_ ?_ <;> repeat (first | exact envW_nil | exact heapW_nil | refine envW_cons rfl rfl ?_ | refine heapW_cons rfl rfl rfl ?_)⟩
          · show F.length - (k + 1) < F.length - k; omega
          · exact ⟨by show k + 1 ≤ _; omega, hL⟩
      · have hL := hS.done (lex_full hkl (by show m2.getD k 0 ≤ _; rw [hmd]; omega))
        repeat' (first
 | (refine aw_drawt 12 ?_ ?_; (kernel_rfl); (simp only [List.take_succ_cons, List.take_zero, List.drop_succ_cons, List.drop_zero]))
 | ((with_reducible apply aw_seq))
 | ((with_reducible apply aw_region))
 | ((with_reducible apply thn_normal))
 | ((with_reducible apply thn_exit))
 | ((with_reducible apply inb_normal))
 | ((with_reducible apply inb_exit))
 | ((with_reducible apply aw_exit))
 | ((with_reducible apply ao_nil))
 | ((with_reducible apply r_move); exact rfl; exact rfl)
 | ((with_reducible apply r_lss); exact rfl; exact rfl; exact rfl)
 | ((with_reducible apply r_add); exact rfl; exact rfl; exact (by first | assumption | (unfold fits; omega)); exact rfl)
 | ((with_reducible apply r_pick_f); exact rfl; exact rfl; exact rfl)
 | ((with_reducible apply r_index_vf); exact rfl; exact rfl; exact inferInstance; (first | exact rfl | assumption | omega); exact rfl; exact rfl; (first | assumption | omega); exact rfl)
 | ((with_reducible apply r_load_vf0); exact rfl; exact rfl; exact inferInstance; (first | exact rfl | assumption | omega); exact List.getElem?_eq_getElem (by first | assumption | omega); exact rfl; exact rfl)
 | (((with_reducible apply r_guard); exact rfl; exact rfl; exact rfl; exact rfl) <;> intro hg <;> (first | (exact absurd hg (by decide)) | ((try simp only [decide_eq_true_eq, decide_eq_false_iff_not, Bool.not_eq_true', Bool.not_eq_false', Bool.not_true, Bool.not_false, Bool.not_not, Int.not_lt, Int.not_le, Nat.not_lt, Nat.not_le, gt_iff_lt, ge_iff_le, List.cons.injEq, and_true] at hg); first | (exact absurd trivial hg) | (exfalso; omega) | (have hT : True := hg; clear hT hg) | skip)))
 | (((with_reducible apply aw_cond); exact rfl) <;> intro hg <;> (first | (exact absurd hg (by decide)) | ((try simp only [decide_eq_true_eq, decide_eq_false_iff_not, Bool.not_eq_true', Bool.not_eq_false', Bool.not_true, Bool.not_false, Bool.not_not, Int.not_lt, Int.not_le, Nat.not_lt, Nat.not_le, gt_iff_lt, ge_iff_le, List.cons.injEq, and_true] at hg); first | (exact absurd trivial hg) | (exfalso; omega) | (have hT : True := hg; clear hT hg) | skip)))
 | ((with_reducible apply ds_nil))
 | (((with_reducible apply rd_guard); exact rfl; exact rfl; exact rfl) <;> intro hg <;> (first | (exact absurd hg (by decide)) | ((try rw [hg]); (try simp only [decide_eq_true_eq, decide_eq_false_iff_not, Bool.not_eq_true', Bool.not_eq_false', Bool.not_true, Bool.not_false, Bool.not_not, Int.not_lt, Int.not_le, Nat.not_lt, Nat.not_le, gt_iff_lt, ge_iff_le, List.cons.injEq, and_true] at hg); first | (exact absurd trivial hg) | (exfalso; omega) | (have hT : True := hg; clear hT hg) | skip)))
 )
        all_goals
          refine ⟨(k + 1, g), ?_, ?_, by refine weak_mk rfl ?_ ?_ <;> repeat (first | exact envW_nil | exact heapW_nil | refine envW_cons rfl rfl ?_ | refine heapW_cons rfl rfl rfl ?_)⟩
          · show F.length - (k + 1) < F.length - k; omega
          · exact ⟨by show k + 1 ≤ _; omega, hL⟩
    obtain rfl : k = F.length := by omega
    repeat' (first
 | ((with_reducible apply aw_seq))
 | ((with_reducible apply aw_region))
 | ((with_reducible apply thn_normal))
 | ((with_reducible apply thn_exit))
 | ((with_reducible apply inb_exit))
 | ((with_reducible apply aw_exit))
 | ((with_reducible apply aw_ret))
 | ((with_reducible apply ao_nil))
 | ((with_reducible apply r_move); exact rfl; exact rfl)
 | ((with_reducible apply r_assign); exact rfl; exact rfl)
 | ((with_reducible apply r_lss); exact rfl; exact rfl; exact rfl)
 | (((with_reducible apply aw_cond); exact rfl) <;> intro hg <;> (first | (exact absurd hg (by decide)) | ((try simp only [decide_eq_true_eq, decide_eq_false_iff_not, Bool.not_eq_true', Bool.not_eq_false', Bool.not_true, Bool.not_false, Bool.not_not, Int.not_lt, Int.not_le, Nat.not_lt, Nat.not_le, gt_iff_lt, ge_iff_le, List.cons.injEq, and_true] at hg); first | (exact absurd trivial hg) | (exfalso; omega) | (have hT : True := hg; clear hT hg) | skip)))
 )
    refine back2_ret (.inr rfl) rfl rfl ?_
    have cu := unfilled_con (gl := gl) (cntL g F.length B) least (by rw [cntL_len]; omega) (by rw [cntL_len]; omega)
    repeat' (first
 | ((with_reducible apply (r_callv (f := 20))); exact cu; exact rfl; exact cl_cons (cl_vec rfl (by rw [flat_len EncL.len, cntL_len])) (cl_cons cl_c cl_nil); exact rfl; exact rfl)
 | ((with_reducible apply aw_region))
 | ((with_reducible apply thn_normal))
 | ((with_reducible apply inb_normal))
 | ((with_reducible apply ao_nil))
 | ((with_reducible apply r_move); exact rfl; exact rfl)
 | ((with_reducible apply r_assign); exact rfl; exact rfl)
 | ((with_reducible apply r_extract); exact rfl; exact rfl; exact rfl)
 )
    refine ⟨(m2, g), [(4, 7), (5, 8)], ?_, ?_, by refine ren_mk [(4, 7), (5, 8)] rfl rfl rfl ?_ ?_ <;> repeat (first | exact envR_nil | exact heapR_nil | refine envR_cons rfl rfl ?_ | refine heapR_cons rfl rfl rfl ?_)⟩
    · exact hnz
    · exact ⟨hm2, hle2, hS, g0, hg0, .inr hnf⟩
end Go.Proofs.Ytdndfncpglfdeaa.To
