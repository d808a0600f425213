/- Walks of classes: Price in both, and what the laws ask: few, short, looser. -/
import Derived.Test.YtokkpocccgdilaaMF
namespace Go.Proofs.Ytokkpocccgdilaa.Ge
set_option linter.unusedVariables false
set_option linter.unusedSimpArgs false
open Go.RowKit Go.Proofs.Ytokkpocccgdilaa.Ev
variable {gl : List (Nat × List CV)}

theorem klGo_ok : ∀ (l p : List Kl), klGo p l = 0 → ∀ c ∈ l, inR c = true
  | [], _, _, c, hc => by cases hc
  | x :: l, p, h, c, hc => by
    unfold klGo at h
    split at h
    · cases h
    · split at h
      · cases h
      · split at h
        · cases h
        · rename_i h3
          rcases List.mem_cons.1 hc with rfl | hc
          · simpa using h3
          · exact klGo_ok l _ h c hc
theorem kl_ok {l : List Kl} (h : klChk l = 0) : ∀ c ∈ l, inR c = true := by
  unfold klChk at h
  split at h
  · cases h
  · exact klGo_ok l [] h
theorem price_bd {c : Kl} (h : inR c = true) : 0 ≤ c.price ∧ c.price ≤ 1000000 := by
  rw [inR_bits] at h
  simp only [Bool.and_eq_true, million, decide_eq_true_eq] at h
  exact h.1.2.2.2.2.2.2.2.1
theorem volS_bd (l : List Slc) : 0 ≤ volS l ∧ volS l ≤ 700000000000 := by
  unfold volS
  by_cases h : solChk l = 0
  · rw [valL_ok h]
    have v := sol_V h
    have := sumN_bd (f := fun i => lenD l i * areaV (secD l i)) (c := 28800000000) (n := l.length) (fun i hi => vol_bd v hi) _ (Nat.le_refl _)
    have h2 := v.n
    unfold volV
    omega
  · rw [valL_no h]; decide
def priceR (K : List Kl) (v : Int) (r : Int × Bool) : Int := if r.2 then ((K.getD r.1.toNat ⟨⟨#[]⟩, 0, 0, 0, 0, 0, 0, 0, 0⟩).price * v) / 1000000000 else 0
noncomputable def priceS (K : List Kl) (l : List Slc) (d : List Dfc) : Int := priceR K (volS l) (ofS K l d)
theorem of_cases (K : List Kl) (l : List Slc) (d : List Dfc) : ofS K l d = (0, false) ∨ ∃ i, ∃ hi : i < K.length, klChk K = 0 ∧ ofS K l d = ((i : Int), true) ∧ fitS l d K[i] = true ∧ ∀ j (hj : j < K.length), j < i → fitS l d K[j] = false := by
  unfold ofS ofN
  by_cases hk : klChk K = 0
  · rw [if_pos hk]
    cases hf : K.findIdx? (fitS l d) with
    | none => exact .inl rfl
    | some i =>
      obtain ⟨h1, h2, h3⟩ := (List.findIdx?_eq_some_iff_getElem).1 hf
      exact .inr ⟨i, h1, hk, rfl, h2, fun j hj hji => by simpa using h3 j hji⟩
  · rw [if_neg hk]; exact .inl rfl
theorem mulp_bd {p v : Int} (hp : 0 ≤ p ∧ p ≤ 1000000) (hv : 0 ≤ v ∧ v ≤ 700000000000) : 0 ≤ p * v ∧ p * v ≤ 700000000000000000 := mul_bd2 (m := 1000000) (k := 700000000000) hp hv
theorem priceS_some {K : List Kl} {l : List Slc} {d : List Dfc} {i : Nat} (hi : i < K.length) (h : ofS K l d = ((i : Int), true)) : priceS K l d = K[i].price * volS l / 1000000000 := by
  unfold priceS priceR
  rw [h]
  simp [List.getD_eq_getElem?_getD, hi]
theorem priceS_none {K : List Kl} {l : List Slc} {d : List Dfc} (h : ofS K l d = (0, false)) : priceS K l d = 0 := by
  unfold priceS priceR
  rw [h]; rfl
theorem tdivB {a : Int} (h : 0 ≤ a) : a.tdiv 1000000000 = a / 1000000000 := Int.tdiv_eq_ediv_of_nonneg h
set_option maxRecDepth 100000 in
set_option maxHeartbeats 8000000 in
theorem price_con (K : List Kl) (l : List Slc) (d : List Dfc) (hK : K.length ≤ maxLen) (hl : l.length ≤ maxLen) (hd : d.length ≤ maxLen) : Con Try.prog gl 19 [LK K, LL l, LD d] (I (priceS K l d)) := by
  have c0 := of_con (gl := gl) K l d hK hl hd
  have c1 := svolume_con (gl := gl) l hl
  have hv := volS_bd l
  have hK2 := hK
  unfold maxLen at hK2
  refine con_of Try.func19 rfl (by kernel_rfl) rfl ?_
  simp only [Try.ntmps19, Try.results19, argEnv, ofC, of1, List.map]
  rcases of_cases K l d with h | ⟨i, hi, hk, h, _, _⟩
  · rw [priceS_none h]
    rw [h] at c0
    change Con _ _ _ _ (.tup [I 0, .v (.bool false)]) at c0
    repeat' (first
      | ((with_reducible apply r_call); exact rfl; exact rfl; exact c0; exact rfl; exact rfl)
      | ((with_reducible apply aw_seq))
      | ((with_reducible apply aw_region))
      | ((with_reducible apply thn_normal))
      | ((with_reducible apply thn_ret))
      | ((with_reducible apply aw_ret))
      | ((with_reducible apply ao_nil))
      | ((with_reducible apply r_move); exact rfl; exact rfl)
      | ((with_reducible apply r_assign); exact rfl; exact rfl)
      | ((with_reducible apply r_not); exact rfl; exact rfl)
      | ((with_reducible apply r_extract); exact rfl; exact rfl; exact rfl)
      | (((with_reducible apply aw_cond); exact rfl) <;> intro hg <;> (first | (exact absurd hg (by decide)) | ((try simp only [decide_eq_true_eq, decide_eq_false_iff_not, Bool.not_eq_true', Bool.not_eq_false', Bool.not_true, Bool.not_false, Bool.not_not, Int.not_lt, Int.not_le, Nat.not_lt, Nat.not_le, gt_iff_lt, ge_iff_le, List.cons.injEq, and_true] at hg); first | (exact absurd trivial hg) | (exfalso; omega) | (have hT : True := hg; clear hT hg) | skip)))
      )
    all_goals exact ret_i rfl rfl
  · rw [priceS_some hi h]
    rw [h] at c0
    change Con _ _ _ _ (.tup [I (i : Int), .v (.bool true)]) at c0
    have hp := price_bd (kl_ok hk K[i] (List.getElem_mem _))
    have hm := mulp_bd hp hv
    have hq := tdivB hm.1
    revert c1 hv hm hq
    generalize volS l = v
    intro c1 hv hm hq
    have hf : fits (K[i].price * v) := by unfold fits; omega
    have hf2 : fits ((K[i].price * v).tdiv 1000000000) := by rw [hq]; unfold fits; omega
    repeat' (first
      | ((with_reducible apply r_call); exact rfl; exact rfl; (first | exact c0 | exact c1); exact rfl; exact rfl)
      | ((with_reducible apply r_quo); exact rfl; exact rfl; exact (by decide); exact hf2; exact rfl)
      | ((with_reducible apply aw_seq))
      | ((with_reducible apply aw_region))
      | ((with_reducible apply thn_normal))
      | ((with_reducible apply aw_skip))
      | ((with_reducible apply aw_ret))
      | ((with_reducible apply ao_nil))
      | ((with_reducible apply r_move); exact rfl; exact rfl)
      | ((with_reducible apply r_assign); exact rfl; exact rfl)
      | ((with_reducible apply r_mul); exact rfl; exact rfl; exact (by first | assumption | (unfold fits; omega)); exact rfl)
      | ((with_reducible apply r_not); exact rfl; exact rfl)
      | ((with_reducible apply r_index_f); exact rfl; exact inferInstance; exact rfl; exact rfl; (first | assumption | omega); exact rfl)
      | ((with_reducible apply r_load_f); exact rfl; exact inferInstance; exact List.getElem?_eq_getElem (by first | assumption | omega); exact rfl; exact rfl; exact rfl)
      | ((with_reducible apply r_field_e); exact rfl; exact rfl)
      | ((with_reducible apply r_extract); exact rfl; exact rfl; exact rfl)
      | (((with_reducible apply aw_cond); exact rfl) <;> intro hg <;> (first | (exact absurd hg (by decide)) | ((try simp only [decide_eq_true_eq, decide_eq_false_iff_not, Bool.not_eq_true', Bool.not_eq_false', Bool.not_true, Bool.not_false, Bool.not_not, Int.not_lt, Int.not_le, Nat.not_lt, Nat.not_le, gt_iff_lt, ge_iff_le, List.cons.injEq, and_true] at hg); first | (exact absurd trivial hg) | (exfalso; omega) | (have hT : True := hg; clear hT hg) | skip)))
      | (refine aw_drawq ?_ ?_; (kernel_rfl))
      | ((with_reducible apply ds_nil))
      )
    all_goals exact ret_i rfl hq
set_option maxRecDepth 100000 in
set_option maxHeartbeats 8000000 in
theorem rprice_con (K : List Kl) (l : List Slc) (d : List Dfc) (hK : K.length ≤ maxLen) (hl : l.length ≤ maxLen) (hd : d.length ≤ maxLen) : Con Try.prog gl 20 [LK K, LL l, LD d] (I (priceS K l d)) := by
  have c0 := rof_con (gl := gl) K l d hK hl hd
  have c1 := rsvolume_con (gl := gl) l hl
  have hv := volS_bd l
  have hK2 := hK
  unfold maxLen at hK2
  refine con_of Try.func20 rfl (by kernel_rfl) rfl ?_
  simp only [Try.ntmps20, Try.results20, argEnv, ofC, of1, List.map]
  rcases of_cases K l d with h | ⟨i, hi, hk, h, _, _⟩
  · rw [priceS_none h]
    rw [h] at c0
    change Con _ _ _ _ (.tup [I 0, .v (.bool false)]) at c0
    repeat' (first
      | ((with_reducible apply r_call); exact rfl; exact rfl; exact c0; exact rfl; exact rfl)
      | ((with_reducible apply aw_seq))
      | ((with_reducible apply aw_region))
      | ((with_reducible apply thn_normal))
      | ((with_reducible apply thn_ret))
      | ((with_reducible apply aw_ret))
      | ((with_reducible apply ao_nil))
      | ((with_reducible apply r_move); exact rfl; exact rfl)
      | ((with_reducible apply r_assign); exact rfl; exact rfl)
      | ((with_reducible apply r_not); exact rfl; exact rfl)
      | ((with_reducible apply r_extract); exact rfl; exact rfl; exact rfl)
      | (((with_reducible apply aw_cond); exact rfl) <;> intro hg <;> (first | (exact absurd hg (by decide)) | ((try simp only [decide_eq_true_eq, decide_eq_false_iff_not, Bool.not_eq_true', Bool.not_eq_false', Bool.not_true, Bool.not_false, Bool.not_not, Int.not_lt, Int.not_le, Nat.not_lt, Nat.not_le, gt_iff_lt, ge_iff_le, List.cons.injEq, and_true] at hg); first | (exact absurd trivial hg) | (exfalso; omega) | (have hT : True := hg; clear hT hg) | skip)))
      )
    all_goals exact ret_i rfl rfl
  · rw [priceS_some hi h]
    rw [h] at c0
    change Con _ _ _ _ (.tup [I (i : Int), .v (.bool true)]) at c0
    have hp := price_bd (kl_ok hk K[i] (List.getElem_mem _))
    have hm := mulp_bd hp hv
    have hq := tdivB hm.1
    revert c1 hv hm hq
    generalize volS l = v
    intro c1 hv hm hq
    have hf : fits (K[i].price * v) := by unfold fits; omega
    have hf2 : fits ((K[i].price * v).tdiv 1000000000) := by rw [hq]; unfold fits; omega
    repeat' (first
      | ((with_reducible apply r_call); exact rfl; exact rfl; (first | exact c0 | exact c1); exact rfl; exact rfl)
      | ((with_reducible apply r_quo); exact rfl; exact rfl; exact (by decide); exact hf2; exact rfl)
      | ((with_reducible apply aw_seq))
      | ((with_reducible apply aw_region))
      | ((with_reducible apply thn_normal))
      | ((with_reducible apply aw_skip))
      | ((with_reducible apply aw_ret))
      | ((with_reducible apply ao_nil))
      | ((with_reducible apply r_move); exact rfl; exact rfl)
      | ((with_reducible apply r_assign); exact rfl; exact rfl)
      | ((with_reducible apply r_mul); exact rfl; exact rfl; exact (by first | assumption | (unfold fits; omega)); exact rfl)
      | ((with_reducible apply r_not); exact rfl; exact rfl)
      | ((with_reducible apply r_index_f); exact rfl; exact inferInstance; exact rfl; exact rfl; (first | assumption | omega); exact rfl)
      | ((with_reducible apply r_load_f); exact rfl; exact inferInstance; exact List.getElem?_eq_getElem (by first | assumption | omega); exact rfl; exact rfl; exact rfl)
      | ((with_reducible apply r_field_e); exact rfl; exact rfl)
      | ((with_reducible apply r_extract); exact rfl; exact rfl; exact rfl)
      | (((with_reducible apply aw_cond); exact rfl) <;> intro hg <;> (first | (exact absurd hg (by decide)) | ((try simp only [decide_eq_true_eq, decide_eq_false_iff_not, Bool.not_eq_true', Bool.not_eq_false', Bool.not_true, Bool.not_false, Bool.not_not, Int.not_lt, Int.not_le, Nat.not_lt, Nat.not_le, gt_iff_lt, ge_iff_le, List.cons.injEq, and_true] at hg); first | (exact absurd trivial hg) | (exfalso; omega) | (have hT : True := hg; clear hT hg) | skip)))
      | (refine aw_drawq ?_ ?_; (kernel_rfl))
      | ((with_reducible apply ds_nil))
      )
    all_goals exact ret_i rfl hq
def fewS (l : List Slc) (d : List Dfc) : Bool := decide (l.length ≤ 30) && (decide (d.length ≤ 100) && l.all (fun x => decide (x.sec.rows.length ≤ 130)))
abbrev logV (l : List Slc) (d : List Dfc) : CV := .agg [LL l, LD d]
set_option maxRecDepth 100000 in
set_option maxHeartbeats 8000000 in
theorem few_con (l : List Slc) (d : List Dfc) (hl : l.length ≤ maxLen) : Con Try.prog gl 14 [logV l d] (.v (.bool (fewS l d))) := by
  refine con_of Try.func14 rfl (by kernel_rfl) rfl ?_
  simp only [Try.ntmps14, Try.results14, argEnv, ofC, of1, List.map]
  by_cases h30 : 30 < l.length
  · skip
    repeat' (first
      | ((with_reducible apply aw_seq))
      | ((with_reducible apply aw_region))
      | ((with_reducible apply thn_normal))
      | ((with_reducible apply thn_ret))
      | ((with_reducible apply aw_ret))
      | ((with_reducible apply ao_nil))
      | ((with_reducible apply r_move); exact rfl; exact rfl)
      | ((with_reducible apply r_assign); exact rfl; exact rfl)
      | ((with_reducible apply r_field_p); exact rfl; exact rfl)
      | ((with_reducible apply r_load_p); exact rfl; exact rfl; exact rfl; exact rfl)
      | ((with_reducible apply r_gtr); exact rfl; exact rfl; exact rfl)
      | ((with_reducible apply r_box_a); exact rfl; exact rfl)
      | ((with_reducible apply r_pick_t); exact rfl; exact rfl; exact rfl)
      | ((with_reducible apply r_len_f); exact rfl; exact inferInstance; exact rfl)
      | (((with_reducible apply r_guard); exact rfl; exact rfl; exact rfl; exact rfl) <;> intro hg <;> (first | (exact absurd hg (by decide)) | ((try simp only [decide_eq_true_eq, decide_eq_false_iff_not, Bool.not_eq_true', Bool.not_eq_false', Bool.not_true, Bool.not_false, Bool.not_not, Int.not_lt, Int.not_le, Nat.not_lt, Nat.not_le, gt_iff_lt, ge_iff_le, List.cons.injEq, and_true] at hg); first | (exact absurd trivial hg) | (exfalso; omega) | (have hT : True := hg; clear hT hg) | skip)))
      | (((with_reducible apply aw_cond); exact rfl) <;> intro hg <;> (first | (exact absurd hg (by decide)) | ((try simp only [decide_eq_true_eq, decide_eq_false_iff_not, Bool.not_eq_true', Bool.not_eq_false', Bool.not_true, Bool.not_false, Bool.not_not, Int.not_lt, Int.not_le, Nat.not_lt, Nat.not_le, gt_iff_lt, ge_iff_le, List.cons.injEq, and_true] at hg); first | (exact absurd trivial hg) | (exfalso; omega) | (have hT : True := hg; clear hT hg) | skip)))
      )
    all_goals exact ret_b rfl (by unfold fewS; rw [decide_eq_false (by omega)]; rfl)
  have h30' : decide (l.length ≤ 30) = true := decide_eq_true (by omega)
  by_cases h100 : 100 < d.length
  · skip
    repeat' (first
      | ((with_reducible apply aw_seq))
      | ((with_reducible apply aw_region))
      | ((with_reducible apply thn_normal))
      | ((with_reducible apply thn_ret))
      | ((with_reducible apply aw_ret))
      | ((with_reducible apply ao_nil))
      | ((with_reducible apply r_move); exact rfl; exact rfl)
      | ((with_reducible apply r_assign); exact rfl; exact rfl)
      | ((with_reducible apply r_field_p); exact rfl; exact rfl)
      | ((with_reducible apply r_load_p); exact rfl; exact rfl; exact rfl; exact rfl)
      | ((with_reducible apply r_gtr); exact rfl; exact rfl; exact rfl)
      | ((with_reducible apply r_box_a); exact rfl; exact rfl)
      | ((with_reducible apply r_pick_f); exact rfl; exact rfl; exact rfl)
      | ((with_reducible apply r_len_f); exact rfl; exact inferInstance; exact rfl)
      | (((with_reducible apply r_guard); exact rfl; exact rfl; exact rfl; exact rfl) <;> intro hg <;> (first | (exact absurd hg (by decide)) | ((try simp only [decide_eq_true_eq, decide_eq_false_iff_not, Bool.not_eq_true', Bool.not_eq_false', Bool.not_true, Bool.not_false, Bool.not_not, Int.not_lt, Int.not_le, Nat.not_lt, Nat.not_le, gt_iff_lt, ge_iff_le, List.cons.injEq, and_true] at hg); first | (exact absurd trivial hg) | (exfalso; omega) | (have hT : True := hg; clear hT hg) | skip)))
      | (((with_reducible apply aw_cond); exact rfl) <;> intro hg <;> (first | (exact absurd hg (by decide)) | ((try simp only [decide_eq_true_eq, decide_eq_false_iff_not, Bool.not_eq_true', Bool.not_eq_false', Bool.not_true, Bool.not_false, Bool.not_not, Int.not_lt, Int.not_le, Nat.not_lt, Nat.not_le, gt_iff_lt, ge_iff_le, List.cons.injEq, and_true] at hg); first | (exact absurd trivial hg) | (exfalso; omega) | (have hT : True := hg; clear hT hg) | skip)))
      )
    all_goals exact ret_b rfl (by unfold fewS; rw [h30', decide_eq_false (by omega)]; rfl)
  have h100' : decide (d.length ≤ 100) = true := decide_eq_true (by omega)
  repeat' (first
    | ((with_reducible apply aw_seq))
    | ((with_reducible apply aw_region))
    | ((with_reducible apply aw_block))
    | ((with_reducible apply thn_normal))
    | ((with_reducible apply aw_skip))
    | ((with_reducible apply ao_nil))
    | ((with_reducible apply r_move); exact rfl; exact rfl)
    | ((with_reducible apply r_assign); exact rfl; exact rfl)
    | ((with_reducible apply r_field_p); exact rfl; exact rfl)
    | ((with_reducible apply r_load_p); exact rfl; exact rfl; exact rfl; exact rfl)
    | ((with_reducible apply r_gtr); exact rfl; exact rfl; exact rfl)
    | ((with_reducible apply r_box_a); exact rfl; exact rfl)
    | ((with_reducible apply r_pick_f); exact rfl; exact rfl; exact rfl)
    | ((with_reducible apply r_len_f); exact rfl; exact inferInstance; exact rfl)
    | (((with_reducible apply r_guard); exact rfl; exact rfl; exact rfl; exact rfl) <;> intro hg <;> (first | (exact absurd hg (by decide)) | ((try simp only [decide_eq_true_eq, decide_eq_false_iff_not, Bool.not_eq_true', Bool.not_eq_false', Bool.not_true, Bool.not_false, Bool.not_not, Int.not_lt, Int.not_le, Nat.not_lt, Nat.not_le, gt_iff_lt, ge_iff_le, List.cons.injEq, and_true] at hg); first | (exact absurd trivial hg) | (exfalso; omega) | (have hT : True := hg; clear hT hg) | skip)))
    | (((with_reducible apply aw_cond); exact rfl) <;> intro hg <;> (first | (exact absurd hg (by decide)) | ((try simp only [decide_eq_true_eq, decide_eq_false_iff_not, Bool.not_eq_true', Bool.not_eq_false', Bool.not_true, Bool.not_false, Bool.not_not, Int.not_lt, Int.not_le, Nat.not_lt, Nat.not_le, gt_iff_lt, ge_iff_le, List.cons.injEq, and_true] at hg); first | (exact absurd trivial hg) | (exfalso; omega) | (have hT : True := hg; clear hT hg) | skip)))
    )
  refine aw_loopG (G := Nat) (fun (j : Nat) => j ≤ l.length ∧ ∀ i (h : i < l.length), i < j → decide (l[i].sec.rows.length ≤ 130) = true) (fun (j : Nat) => l.length - j) (fun (j : Nat) => [(1, .ptr 0 0), (3, A j)]) (fun (j : Nat) => [(0, some (.cells 32 [.c (LL l), .c (LD d)]))]) 1 0 ?_ (by refine weak_mk rfl ?_ ?_ <;> repeat (first | exact envW_nil | exact heapW_nil | refine envW_cons rfl rfl ?_ | refine heapW_cons rfl rfl rfl ?_)) rfl ?_
  · exact ⟨Nat.zero_le _, fun _ _ h => absurd h (Nat.not_lt_zero _)⟩
  rintro j hI
  try dsimp only at hI
  try dsimp only
  obtain ⟨hj, hall⟩ := hI
  by_cases hjl : j < l.length
  · by_cases hr : l[j].sec.rows.length ≤ 130
    · skip
      repeat' (first
        | ((with_reducible apply (r_field_e2 (j := 1))); exact rfl; exact rfl)
        | ((with_reducible apply aw_seq))
        | ((with_reducible apply aw_region))
        | ((with_reducible apply aw_block))
        | ((with_reducible apply thn_normal))
        | ((with_reducible apply inb_normal))
        | ((with_reducible apply aw_skip))
        | ((with_reducible apply ao_nil))
        | ((with_reducible apply r_move); exact rfl; exact rfl)
        | ((with_reducible apply r_assign); exact rfl; exact rfl)
        | ((with_reducible apply r_field_p); exact rfl; exact rfl)
        | ((with_reducible apply r_load_p); exact rfl; exact rfl; exact rfl; exact rfl)
        | ((with_reducible apply r_lss); exact rfl; exact rfl; exact rfl)
        | ((with_reducible apply r_gtr); exact rfl; exact rfl; exact rfl)
        | ((with_reducible apply r_add); exact rfl; exact rfl; exact (by first | assumption | (unfold fits; omega)); exact rfl)
        | ((with_reducible apply r_len_f); exact rfl; exact inferInstance; exact rfl)
        | ((with_reducible apply r_index_f); exact rfl; exact inferInstance; exact rfl; exact rfl; (first | assumption | omega); exact rfl)
        | ((with_reducible apply r_load_f); exact rfl; exact inferInstance; exact List.getElem?_eq_getElem (by first | assumption | omega); exact rfl; exact rfl; exact rfl)
        | ((with_reducible apply r_field_e); exact rfl; exact rfl)
        | (((with_reducible apply aw_cond); exact rfl) <;> intro hg <;> (first | (exact absurd hg (by decide)) | ((try simp only [decide_eq_true_eq, decide_eq_false_iff_not, Bool.not_eq_true', Bool.not_eq_false', Bool.not_true, Bool.not_false, Bool.not_not, Int.not_lt, Int.not_le, Nat.not_lt, Nat.not_le, gt_iff_lt, ge_iff_le, List.cons.injEq, and_true] at hg); first | (exact absurd trivial hg) | (exfalso; omega) | (have hT : True := hg; clear hT hg) | skip)))
        )
      refine ⟨j + 1, ?_, ?_, by refine weak_mk rfl ?_ ?_ <;> repeat (first | exact envW_nil | exact heapW_nil | refine envW_cons rfl rfl ?_ | refine heapW_cons rfl rfl rfl ?_)⟩
      · show _ - (j + 1) < _ - j; omega
      · exact ⟨by show j + 1 ≤ _; omega, step_all (p := fun x : Slc => decide (x.sec.rows.length ≤ 130)) hjl hall (decide_eq_true hr)⟩
    · skip
      repeat' (first
        | ((with_reducible apply (r_field_e2 (j := 1))); exact rfl; exact rfl)
        | ((with_reducible apply aw_seq))
        | ((with_reducible apply aw_region))
        | ((with_reducible apply aw_block))
        | ((with_reducible apply thn_normal))
        | ((with_reducible apply thn_ret))
        | ((with_reducible apply inb_ret))
        | ((with_reducible apply aw_skip))
        | ((with_reducible apply aw_ret))
        | ((with_reducible apply ao_nil))
        | ((with_reducible apply r_move); exact rfl; exact rfl)
        | ((with_reducible apply r_assign); exact rfl; exact rfl)
        | ((with_reducible apply r_field_p); exact rfl; exact rfl)
        | ((with_reducible apply r_load_p); exact rfl; exact rfl; exact rfl; exact rfl)
        | ((with_reducible apply r_lss); exact rfl; exact rfl; exact rfl)
        | ((with_reducible apply r_gtr); exact rfl; exact rfl; exact rfl)
        | ((with_reducible apply r_len_f); exact rfl; exact inferInstance; exact rfl)
        | ((with_reducible apply r_index_f); exact rfl; exact inferInstance; exact rfl; exact rfl; (first | assumption | omega); exact rfl)
        | ((with_reducible apply r_load_f); exact rfl; exact inferInstance; exact List.getElem?_eq_getElem (by first | assumption | omega); exact rfl; exact rfl; exact rfl)
        | ((with_reducible apply r_field_e); exact rfl; exact rfl)
        | (((with_reducible apply aw_cond); exact rfl) <;> intro hg <;> (first | (exact absurd hg (by decide)) | ((try simp only [decide_eq_true_eq, decide_eq_false_iff_not, Bool.not_eq_true', Bool.not_eq_false', Bool.not_true, Bool.not_false, Bool.not_not, Int.not_lt, Int.not_le, Nat.not_lt, Nat.not_le, gt_iff_lt, ge_iff_le, List.cons.injEq, and_true] at hg); first | (exact absurd trivial hg) | (exfalso; omega) | (have hT : True := hg; clear hT hg) | skip)))
        )
      all_goals exact ret_b rfl (by unfold fewS; rw [h30', h100', all_not (p := fun x : Slc => decide (x.sec.rows.length ≤ 130)) hjl (decide_eq_false hr)]; rfl)
  · skip
    repeat' (first
      | ((with_reducible apply aw_seq))
      | ((with_reducible apply aw_region))
      | ((with_reducible apply thn_normal))
      | ((with_reducible apply thn_exit))
      | ((with_reducible apply inb_exit))
      | ((with_reducible apply aw_exit))
      | ((with_reducible apply aw_ret))
      | ((with_reducible apply ao_nil))
      | ((with_reducible apply r_move); exact rfl; exact rfl)
      | ((with_reducible apply r_assign); exact rfl; exact rfl)
      | ((with_reducible apply r_field_p); exact rfl; exact rfl)
      | ((with_reducible apply r_load_p); exact rfl; exact rfl; exact rfl; exact rfl)
      | ((with_reducible apply r_lss); exact rfl; exact rfl; exact rfl)
      | ((with_reducible apply r_len_f); exact rfl; exact inferInstance; exact rfl)
      | (((with_reducible apply aw_cond); exact rfl) <;> intro hg <;> (first | (exact absurd hg (by decide)) | ((try simp only [decide_eq_true_eq, decide_eq_false_iff_not, Bool.not_eq_true', Bool.not_eq_false', Bool.not_true, Bool.not_false, Bool.not_not, Int.not_lt, Int.not_le, Nat.not_lt, Nat.not_le, gt_iff_lt, ge_iff_le, List.cons.injEq, and_true] at hg); first | (exact absurd trivial hg) | (exfalso; omega) | (have hT : True := hg; clear hT hg) | skip)))
      )
    exact ret_b rfl (by unfold fewS; rw [h30', h100', all_of (p := fun x : Slc => decide (x.sec.rows.length ≤ 130)) (fun i hi => hall i hi (by omega))]; rfl)
def shortS (K : List Kl) : Bool := decide (K.length ≤ 20) && K.all (fun c => decide (c.name.size ≤ 100))
set_option maxRecDepth 100000 in
set_option maxHeartbeats 8000000 in
theorem kshort_con (K : List Kl) (hK : K.length ≤ maxLen) : ∃ b, (b = true → K.length ≤ 20) ∧ Con Try.prog gl 10 [LK K] (.v (.bool b)) := by
  have hK2 := hK
  unfold maxLen at hK2
  by_cases hex : ∃ j, ∃ h : j < K.length, (20 ≤ j ∨ 100 < K[j].name.size) ∧ ∀ i (hi : i < K.length), i < j → i < 20 ∧ K[i].name.size ≤ 100
  · obtain ⟨j, hj, hbad, hok⟩ := hex
    refine ⟨false, fun h => (by cases h), ?_⟩
    have hj20 : j ≤ 20 := by
      by_cases h0 : j = 0
      · omega
      · have := (hok (j - 1) (by omega) (by omega)).1; omega
    refine con_of Try.func10 rfl (by kernel_rfl) rfl ?_
    simp only [Try.ntmps10, Try.results10, argEnv, ofC, of1, List.map]
    repeat' (first
      | ((with_reducible apply aw_seq))
      | ((with_reducible apply aw_region))
      | ((with_reducible apply aw_block))
      | ((with_reducible apply thn_normal))
      | ((with_reducible apply ao_nil))
      | ((with_reducible apply r_assign); exact rfl; exact rfl)
      )
    refine aw_loopG (G := Nat) (fun (k : Nat) => k ≤ j) (fun (k : Nat) => K.length - k) (fun (k : Nat) => [(0, .c (LK K)), (3, A k)]) (fun (k : Nat) => []) 0 0 ?_ (by refine weak_mk rfl ?_ ?_ <;> repeat (first | exact envW_nil | exact heapW_nil | refine envW_cons rfl rfl ?_ | refine heapW_cons rfl rfl rfl ?_)) rfl ?_
    · exact Nat.zero_le _
    rintro k hI
    try dsimp only at hI
    try dsimp only
    by_cases hkj : k < j
    · have h1 := (hok k (by omega) hkj).1
      have h2 := (hok k (by omega) hkj).2
      repeat' (first
        | ((with_reducible apply r_len_s); exact rfl; exact rfl)
        | ((with_reducible apply aw_seq))
        | ((with_reducible apply aw_region))
        | ((with_reducible apply aw_block))
        | ((with_reducible apply thn_normal))
        | ((with_reducible apply inb_normal))
        | ((with_reducible apply aw_skip))
        | ((with_reducible apply ao_nil))
        | ((with_reducible apply r_move); exact rfl; exact rfl)
        | ((with_reducible apply r_assign); exact rfl; exact rfl)
        | ((with_reducible apply r_lss); exact rfl; exact rfl; exact rfl)
        | ((with_reducible apply r_gtr); exact rfl; exact rfl; exact rfl)
        | ((with_reducible apply r_geq); exact rfl; exact rfl; exact rfl)
        | ((with_reducible apply r_add); exact rfl; exact rfl; exact (by first | assumption | (unfold fits; omega)); exact rfl)
        | ((with_reducible apply r_pick_f); exact rfl; exact rfl; exact rfl)
        | ((with_reducible apply r_len_f); exact rfl; exact inferInstance; exact rfl)
        | ((with_reducible apply r_index_f); exact rfl; exact inferInstance; exact rfl; exact rfl; (first | assumption | omega); exact rfl)
        | ((with_reducible apply r_load_f0); exact rfl; exact inferInstance; exact List.getElem?_eq_getElem (by first | assumption | omega); exact rfl; exact rfl)
        | ((with_reducible apply r_field_e); exact rfl; exact rfl)
        | (((with_reducible apply r_guard); exact rfl; exact rfl; exact rfl; exact rfl) <;> intro hg <;> (first | (exact absurd hg (by decide)) | ((try simp only [decide_eq_true_eq, decide_eq_false_iff_not, Bool.not_eq_true', Bool.not_eq_false', Bool.not_true, Bool.not_false, Bool.not_not, Int.not_lt, Int.not_le, Nat.not_lt, Nat.not_le, gt_iff_lt, ge_iff_le, List.cons.injEq, and_true] at hg); first | (exact absurd trivial hg) | (exfalso; omega) | (have hT : True := hg; clear hT hg) | skip)))
        | (((with_reducible apply aw_cond); exact rfl) <;> intro hg <;> (first | (exact absurd hg (by decide)) | ((try simp only [decide_eq_true_eq, decide_eq_false_iff_not, Bool.not_eq_true', Bool.not_eq_false', Bool.not_true, Bool.not_false, Bool.not_not, Int.not_lt, Int.not_le, Nat.not_lt, Nat.not_le, gt_iff_lt, ge_iff_le, List.cons.injEq, and_true] at hg); first | (exact absurd trivial hg) | (exfalso; omega) | (have hT : True := hg; clear hT hg) | skip)))
        )
      all_goals
        refine ⟨k + 1, ?_, ?_, by refine weak_mk rfl ?_ ?_ <;> repeat (first | exact envW_nil | exact heapW_nil | refine envW_cons rfl rfl ?_ | refine heapW_cons rfl rfl rfl ?_)⟩
        · show _ - (k + 1) < _ - k; omega
        · show k + 1 ≤ _; omega
    · obtain rfl : k = j := by omega
      by_cases h20 : 20 ≤ k
      · skip
        repeat' (first
          | ((with_reducible apply r_len_s); exact rfl; exact rfl)
          | ((with_reducible apply aw_seq))
          | ((with_reducible apply aw_region))
          | ((with_reducible apply aw_block))
          | ((with_reducible apply thn_normal))
          | ((with_reducible apply thn_ret))
          | ((with_reducible apply inb_ret))
          | ((with_reducible apply aw_skip))
          | ((with_reducible apply aw_ret))
          | ((with_reducible apply ao_nil))
          | ((with_reducible apply r_move); exact rfl; exact rfl)
          | ((with_reducible apply r_assign); exact rfl; exact rfl)
          | ((with_reducible apply r_lss); exact rfl; exact rfl; exact rfl)
          | ((with_reducible apply r_geq); exact rfl; exact rfl; exact rfl)
          | ((with_reducible apply r_pick_t); exact rfl; exact rfl; exact rfl)
          | ((with_reducible apply r_len_f); exact rfl; exact inferInstance; exact rfl)
          | (((with_reducible apply r_guard); exact rfl; exact rfl; exact rfl; exact rfl) <;> intro hg <;> (first | (exact absurd hg (by decide)) | ((try simp only [decide_eq_true_eq, decide_eq_false_iff_not, Bool.not_eq_true', Bool.not_eq_false', Bool.not_true, Bool.not_false, Bool.not_not, Int.not_lt, Int.not_le, Nat.not_lt, Nat.not_le, gt_iff_lt, ge_iff_le, List.cons.injEq, and_true] at hg); first | (exact absurd trivial hg) | (exfalso; omega) | (have hT : True := hg; clear hT hg) | skip)))
          | (((with_reducible apply aw_cond); exact rfl) <;> intro hg <;> (first | (exact absurd hg (by decide)) | ((try simp only [decide_eq_true_eq, decide_eq_false_iff_not, Bool.not_eq_true', Bool.not_eq_false', Bool.not_true, Bool.not_false, Bool.not_not, Int.not_lt, Int.not_le, Nat.not_lt, Nat.not_le, gt_iff_lt, ge_iff_le, List.cons.injEq, and_true] at hg); first | (exact absurd trivial hg) | (exfalso; omega) | (have hT : True := hg; clear hT hg) | skip)))
          )
        all_goals exact ret_b rfl rfl
      · have h2 : 100 < K[k].name.size := by omega
        repeat' (first
          | ((with_reducible apply r_len_s); exact rfl; exact rfl)
          | ((with_reducible apply aw_seq))
          | ((with_reducible apply aw_region))
          | ((with_reducible apply aw_block))
          | ((with_reducible apply thn_normal))
          | ((with_reducible apply thn_ret))
          | ((with_reducible apply inb_ret))
          | ((with_reducible apply aw_skip))
          | ((with_reducible apply aw_ret))
          | ((with_reducible apply ao_nil))
          | ((with_reducible apply r_move); exact rfl; exact rfl)
          | ((with_reducible apply r_assign); exact rfl; exact rfl)
          | ((with_reducible apply r_lss); exact rfl; exact rfl; exact rfl)
          | ((with_reducible apply r_gtr); exact rfl; exact rfl; exact rfl)
          | ((with_reducible apply r_geq); exact rfl; exact rfl; exact rfl)
          | ((with_reducible apply r_pick_f); exact rfl; exact rfl; exact rfl)
          | ((with_reducible apply r_len_f); exact rfl; exact inferInstance; exact rfl)
          | ((with_reducible apply r_index_f); exact rfl; exact inferInstance; exact rfl; exact rfl; (first | assumption | omega); exact rfl)
          | ((with_reducible apply r_load_f0); exact rfl; exact inferInstance; exact List.getElem?_eq_getElem (by first | assumption | omega); exact rfl; exact rfl)
          | ((with_reducible apply r_field_e); exact rfl; exact rfl)
          | (((with_reducible apply r_guard); exact rfl; exact rfl; exact rfl; exact rfl) <;> intro hg <;> (first | (exact absurd hg (by decide)) | ((try simp only [decide_eq_true_eq, decide_eq_false_iff_not, Bool.not_eq_true', Bool.not_eq_false', Bool.not_true, Bool.not_false, Bool.not_not, Int.not_lt, Int.not_le, Nat.not_lt, Nat.not_le, gt_iff_lt, ge_iff_le, List.cons.injEq, and_true] at hg); first | (exact absurd trivial hg) | (exfalso; omega) | (have hT : True := hg; clear hT hg) | skip)))
          | (((with_reducible apply aw_cond); exact rfl) <;> intro hg <;> (first | (exact absurd hg (by decide)) | ((try simp only [decide_eq_true_eq, decide_eq_false_iff_not, Bool.not_eq_true', Bool.not_eq_false', Bool.not_true, Bool.not_false, Bool.not_not, Int.not_lt, Int.not_le, Nat.not_lt, Nat.not_le, gt_iff_lt, ge_iff_le, List.cons.injEq, and_true] at hg); first | (exact absurd trivial hg) | (exfalso; omega) | (have hT : True := hg; clear hT hg) | skip)))
          )
        all_goals exact ret_b rfl rfl
  · have hall : ∀ j, ∀ i (hi : i < K.length), i < j → i < 20 ∧ K[i].name.size ≤ 100 := by
      intro j
      induction j with
      | zero => intro i hi h; omega
      | succ j ih =>
        intro i hi h
        by_cases he : i = j
        · subst he
          refine ⟨Nat.lt_of_not_le fun hc => hex ⟨i, hi, .inl hc, ih⟩, Nat.le_of_not_lt fun hc => hex ⟨i, hi, .inr hc, ih⟩⟩
        · exact ih i hi (by omega)
    have hlen : K.length ≤ 20 := by
      by_cases h0 : K.length = 0
      · omega
      · have := (hall K.length (K.length - 1) (by omega) (by omega)).1; omega
    refine ⟨true, fun _ => hlen, ?_⟩
    refine con_of Try.func10 rfl (by kernel_rfl) rfl ?_
    simp only [Try.ntmps10, Try.results10, argEnv, ofC, of1, List.map]
    repeat' (first
      | ((with_reducible apply aw_seq))
      | ((with_reducible apply aw_region))
      | ((with_reducible apply aw_block))
      | ((with_reducible apply thn_normal))
      | ((with_reducible apply ao_nil))
      | ((with_reducible apply r_assign); exact rfl; exact rfl)
      )
    refine aw_loopG (G := Nat) (fun (k : Nat) => k ≤ K.length) (fun (k : Nat) => K.length - k) (fun (k : Nat) => [(0, .c (LK K)), (3, A k)]) (fun (k : Nat) => []) 0 0 ?_ (by refine weak_mk rfl ?_ ?_ <;> repeat (first | exact envW_nil | exact heapW_nil | refine envW_cons rfl rfl ?_ | refine heapW_cons rfl rfl rfl ?_)) rfl ?_
    · exact Nat.zero_le _
    rintro k hI
    try dsimp only at hI
    try dsimp only
    by_cases hkj : k < K.length
    · have h1 := (hall K.length k hkj hkj).1
      have h2 := (hall K.length k hkj hkj).2
      repeat' (first
        | ((with_reducible apply r_len_s); exact rfl; exact rfl)
        | ((with_reducible apply aw_seq))
        | ((with_reducible apply aw_region))
        | ((with_reducible apply aw_block))
        | ((with_reducible apply thn_normal))
        | ((with_reducible apply inb_normal))
        | ((with_reducible apply aw_skip))
        | ((with_reducible apply ao_nil))
        | ((with_reducible apply r_move); exact rfl; exact rfl)
        | ((with_reducible apply r_assign); exact rfl; exact rfl)
        | ((with_reducible apply r_lss); exact rfl; exact rfl; exact rfl)
        | ((with_reducible apply r_gtr); exact rfl; exact rfl; exact rfl)
        | ((with_reducible apply r_geq); exact rfl; exact rfl; exact rfl)
        | ((with_reducible apply r_add); exact rfl; exact rfl; exact (by first | assumption | (unfold fits; omega)); exact rfl)
        | ((with_reducible apply r_pick_f); exact rfl; exact rfl; exact rfl)
        | ((with_reducible apply r_len_f); exact rfl; exact inferInstance; exact rfl)
        | ((with_reducible apply r_index_f); exact rfl; exact inferInstance; exact rfl; exact rfl; (first | assumption | omega); exact rfl)
        | ((with_reducible apply r_load_f0); exact rfl; exact inferInstance; exact List.getElem?_eq_getElem (by first | assumption | omega); exact rfl; exact rfl)
        | ((with_reducible apply r_field_e); exact rfl; exact rfl)
        | (((with_reducible apply r_guard); exact rfl; exact rfl; exact rfl; exact rfl) <;> intro hg <;> (first | (exact absurd hg (by decide)) | ((try simp only [decide_eq_true_eq, decide_eq_false_iff_not, Bool.not_eq_true', Bool.not_eq_false', Bool.not_true, Bool.not_false, Bool.not_not, Int.not_lt, Int.not_le, Nat.not_lt, Nat.not_le, gt_iff_lt, ge_iff_le, List.cons.injEq, and_true] at hg); first | (exact absurd trivial hg) | (exfalso; omega) | (have hT : True := hg; clear hT hg) | skip)))
        | (((with_reducible apply aw_cond); exact rfl) <;> intro hg <;> (first | (exact absurd hg (by decide)) | ((try simp only [decide_eq_true_eq, decide_eq_false_iff_not, Bool.not_eq_true', Bool.not_eq_false', Bool.not_true, Bool.not_false, Bool.not_not, Int.not_lt, Int.not_le, Nat.not_lt, Nat.not_le, gt_iff_lt, ge_iff_le, List.cons.injEq, and_true] at hg); first | (exact absurd trivial hg) | (exfalso; omega) | (have hT : True := hg; clear hT hg) | skip)))
        )
      all_goals
        refine ⟨k + 1, ?_, ?_, by refine weak_mk rfl ?_ ?_ <;> repeat (first | exact envW_nil | exact heapW_nil | refine envW_cons rfl rfl ?_ | refine heapW_cons rfl rfl rfl ?_)⟩
        · show _ - (k + 1) < _ - k; omega
        · show k + 1 ≤ _; omega
    · skip
      repeat' (first
        | ((with_reducible apply aw_seq))
        | ((with_reducible apply aw_region))
        | ((with_reducible apply thn_normal))
        | ((with_reducible apply thn_exit))
        | ((with_reducible apply inb_exit))
        | ((with_reducible apply aw_exit))
        | ((with_reducible apply aw_ret))
        | ((with_reducible apply ao_nil))
        | ((with_reducible apply r_move); exact rfl; exact rfl)
        | ((with_reducible apply r_assign); exact rfl; exact rfl)
        | ((with_reducible apply r_lss); exact rfl; exact rfl; exact rfl)
        | ((with_reducible apply r_len_f); exact rfl; exact inferInstance; exact rfl)
        | (((with_reducible apply aw_cond); exact rfl) <;> intro hg <;> (first | (exact absurd hg (by decide)) | ((try simp only [decide_eq_true_eq, decide_eq_false_iff_not, Bool.not_eq_true', Bool.not_eq_false', Bool.not_true, Bool.not_false, Bool.not_not, Int.not_lt, Int.not_le, Nat.not_lt, Nat.not_le, gt_iff_lt, ge_iff_le, List.cons.injEq, and_true] at hg); first | (exact absurd trivial hg) | (exfalso; omega) | (have hT : True := hg; clear hT hg) | skip)))
        )
      exact ret_b rfl rfl
def looseS (a b : Kl) : Bool := decide (b.len ≤ a.len ∧ b.lo ≤ a.lo ∧ b.hi ≥ a.hi ∧ b.taper ≥ a.taper ∧ b.sweep ≥ a.sweep ∧ b.knots ≥ a.knots ∧ b.rot ≥ a.rot)
set_option maxRecDepth 100000 in
set_option maxHeartbeats 8000000 in
theorem looser_con (a b : Kl) : Con Try.prog gl 22 [klV a, klV b] (.v (.bool (looseS a b))) := by
  unfold looseS
  refine con_of Try.func22 rfl (by kernel_rfl) rfl ?_
  simp only [Try.ntmps22, Try.results22, argEnv, ofC, of1, List.map]
  repeat' (first
    | ((with_reducible apply aw_seq))
    | ((with_reducible apply aw_region))
    | ((with_reducible apply thn_normal))
    | ((with_reducible apply aw_ret))
    | ((with_reducible apply ao_nil))
    | ((with_reducible apply r_move); exact rfl; exact rfl)
    | ((with_reducible apply r_assign); exact rfl; exact rfl)
    | ((with_reducible apply r_field_p); exact rfl; exact rfl)
    | ((with_reducible apply r_load_p); exact rfl; exact rfl; exact rfl; exact rfl)
    | ((with_reducible apply r_leq); exact rfl; exact rfl; exact rfl)
    | ((with_reducible apply r_geq); exact rfl; exact rfl; exact rfl)
    | ((with_reducible apply r_box_a); exact rfl; exact rfl)
    | ((with_reducible apply r_pick_t); exact rfl; exact rfl; exact rfl)
    | ((with_reducible apply r_pick_f); exact rfl; exact rfl; exact rfl)
    | (((with_reducible apply r_guard); exact rfl; exact rfl; exact rfl; exact rfl) <;> intro hg <;> (first | (exact absurd hg (by decide)) | ((try simp only [decide_eq_true_eq, decide_eq_false_iff_not, Bool.not_eq_true', Bool.not_eq_false', Bool.not_true, Bool.not_false, Bool.not_not, Int.not_lt, Int.not_le, Nat.not_lt, Nat.not_le, gt_iff_lt, ge_iff_le, List.cons.injEq, and_true] at hg); first | (exact absurd trivial hg) | (exfalso; omega) | (have hT : True := hg; clear hT hg) | skip)))
    )
  all_goals first
    | exact ret_b rfl (by rw [eq_comm, decide_eq_false_iff_not]; omega)
    | exact ret_b rfl (decide_eq_decide.2 (by omega))
end Go.Proofs.Ytokkpocccgdilaa.Ge
