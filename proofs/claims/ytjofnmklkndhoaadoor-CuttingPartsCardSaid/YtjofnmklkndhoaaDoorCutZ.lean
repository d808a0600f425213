/- Walks of the laws on cutting: mark, CuttingParts. -/
import Derived.Test.YtjofnmklkndhoaaDoorCutY
namespace Go.Proofs.YtjofnmklkndhoaaDoor.Cu
set_option linter.unusedVariables false
set_option linter.unusedSimpArgs false
open Go.RowKit Go.Proofs.YtjofnmklkndhoaaDoor.Ev
variable {gl : List (Nat × List CV)}

/-- The numbers of a list are those of a function. -/
def Is (s : List Int) (n : Nat) (f : Int → Int) : Prop := s.length = n ∧ ∀ i (h : i < s.length), s[i] = f i
theorem Is.up {s : List Int} {n : Nat} {f g : Int → Int} (h : Is s n f) (k : Nat) (hk : k < n) (hg : ∀ i : Nat, i < n → g i = f i + if i = k then 1 else 0) : Is (s.set k ((s[k]'(by rw [h.1]; exact hk)) + 1)) n g := by
  refine ⟨by simp [h.1], fun i hi => ?_⟩
  have hi' : i < s.length := by simpa using hi
  have hin : i < n := by rw [← h.1]; exact hi'
  rw [hg i hin, List.getElem_set]
  by_cases he : k = i
  · subst he; rw [if_pos rfl, if_pos rfl, h.2]
  · rw [if_neg he, if_neg (Ne.symm he), h.2]; omega
section
variable {ops : Array Oper} {Q : Exit → St → Prop} {rest : List Oper} {d : Nat} {ty : TypeId} {pos : String} {af : Array Edge} {n : Nat} {env : List (Nat × AV)} {tys : Array TypeId}
set_option maxRecDepth 100000 in
set_option maxHeartbeats 8000000 in
theorem mark_in {x0 x1 : Operand} {m : Nat} {s : List Int} {l : Line} (ss : List Span) (f : Int → Int) (hf : ∀ k, 0 ≤ f k ∧ f k ≤ 10000) (hn : ss.length ≤ 3000) (hm : m ≤ 2000) (hs : Is s m f) (ha : AllSp m ss) (hso : Srt ss m)
    (hys : evs ⟨n, env, [(1, some (.vec 3 1 (s.flatMap inC))), (0, some (lineB l))], 2, gl⟩ [x0, x1] = some [.vec 1 m, .c (LS ss)]) (hd : Nat.blt d n = true)
    (h : ∀ s', Is s' m (fun k => f k + cntS ss k) → AOps Tryd.prog ops Q rest ⟨n, (d, .c T) :: env, [(1, some (.vec 3 1 (s'.flatMap inC))), (0, some (lineB l))], 2, gl⟩) :
    AOps Tryd.prog ops Q (⟨some d, .call ⟨.value (.func 28), #[x0, x1], tys⟩, ty, pos, af, none⟩ :: rest) ⟨n, env, [(1, some (.vec 3 1 (s.flatMap inC))), (0, some (lineB l))], 2, gl⟩ := by
  refine r_in Tryd.func28 rfl Tryd.results28 (by kernel_rfl) Tryd.ntmps28 hys rfl rfl hd ?_
  repeat' (first
    | ((with_reducible apply aw_seq))
    | ((with_reducible apply aw_region))
    | ((with_reducible apply aw_block))
    | ((with_reducible apply thn_normal))
    | ((with_reducible apply ao_nil))
    | ((with_reducible apply r_assign); exact rfl; exact rfl)
    )
  refine aw_loopG (G := Nat × List Int) (fun ((j, t) : Nat × List Int) => j ≤ ss.length ∧ Is t m (fun k => f k + cntS (ss.take j) k)) (fun ((j, t) : Nat × List Int) => ss.length - j) (fun ((j, t) : Nat × List Int) => [(0, .vec 1 m), (1, .c (LS ss)), (5, A j)]) (fun ((j, t) : Nat × List Int) => [(1, some (.vec 3 1 (t.flatMap inC))), (0, some (lineB l))]) 2 (0, s) ?_ (by refine weak_mk rfl ?_ ?_ <;> repeat (first | exact envW_nil | exact heapW_nil | refine envW_cons rfl rfl ?_ | refine heapW_cons rfl rfl rfl ?_)) rfl ?_
  · exact ⟨Nat.zero_le _, by simpa [cntS] using hs⟩
  rintro ⟨j, t⟩ hI
  try dsimp only at hI
  try dsimp only
  obtain ⟨hj, ht⟩ := hI
  have htl := ht.1
  by_cases hjl : j < ss.length
  · have ha1 := ha ss[j] (List.getElem_mem hjl)
    have hpr : 0 < j → (ss[j - 1]'(by omega)).2 ≤ ss[j].1 := fun h0 => by
      have := hso.nx (j - 1) (by omega)
      simpa [show j - 1 + 1 = j by omega] using this
    have hprt : (0 < j → ss[(((j : Int) - 1)).toNat]?.isSome = true) := fun h0 => by
      rw [show ((j : Int) - 1).toNat = j - 1 by omega, List.getElem?_eq_getElem (show j - 1 < ss.length by omega)]; rfl
    have hj1 : 0 < j → ∃ i, i = ((j : Int) - 1).toNat ∧ ∃ h : i < ss.length, ss[i].2 ≤ ss[j].1 := fun h0 => ⟨((j : Int) - 1).toNat, rfl, by omega, by have := hpr h0; simpa [show ((j : Int) - 1).toNat = j - 1 by omega] using this⟩
    by_cases h0 : 0 < j
    · obtain ⟨i, hi, hil, hle⟩ := hj1 h0
      subst hi
      repeat' (first
        | ((with_reducible apply aw_seq))
        | ((with_reducible apply aw_region))
        | ((with_reducible apply aw_block))
        | ((with_reducible apply thn_normal))
        | ((with_reducible apply aw_skip))
        | ((with_reducible apply ao_nil))
        | ((with_reducible apply r_move); exact rfl; exact rfl)
        | ((with_reducible apply r_assign); exact rfl; exact rfl)
        | ((with_reducible apply r_lss); exact rfl; exact rfl; exact rfl)
        | ((with_reducible apply r_gtr); exact rfl; exact rfl; exact rfl)
        | ((with_reducible apply r_geq); exact rfl; exact rfl; exact rfl)
        | ((with_reducible apply r_sub); exact rfl; exact rfl; exact (by first | assumption | (unfold fits; omega)); exact rfl)
        | ((with_reducible apply r_pick_t); exact rfl; exact rfl; exact rfl)
        | ((with_reducible apply r_pick_f); exact rfl; exact rfl; exact rfl)
        | ((with_reducible apply r_len_f); exact rfl; exact inferInstance; exact rfl)
        | ((with_reducible apply r_index_f); exact rfl; exact inferInstance; exact rfl; exact rfl; (first | assumption | omega); exact rfl)
        | ((with_reducible apply r_index_f); exact rfl; exact inferInstance; exact rfl; exact (Int.toNat_of_nonneg (by omega)).symm; (first | assumption | omega); exact rfl)
        | ((with_reducible apply r_load_f0); exact rfl; exact inferInstance; exact List.getElem?_eq_getElem (by first | assumption | omega); exact rfl; exact rfl)
        | ((with_reducible apply r_load_f); exact rfl; exact inferInstance; exact List.getElem?_eq_getElem (by first | assumption | omega); exact rfl; exact rfl; exact rfl)
        | ((with_reducible apply r_len_v); exact rfl; exact rfl; (first | (exact flat_len EncL.len _) | (rw [flat_len EncL.len]; first | assumption | omega | (congr 1; omega))); exact rfl)
        | ((with_reducible apply r_field_e); exact rfl; exact rfl)
        | (((with_reducible apply aw_cond); exact rfl) <;> intro hg <;> (first | (exact absurd hg (by decide)) | ((try simp only [decide_eq_true_eq, decide_eq_false_iff_not, Bool.not_eq_true', Bool.not_eq_false', Bool.not_true, Bool.not_false, Bool.not_not, Int.not_lt, Int.not_le, Nat.not_lt, Nat.not_le, gt_iff_lt, ge_iff_le, List.cons.injEq, and_true] at hg); first | (exact absurd trivial hg) | (exfalso; omega) | (have hT : True := hg; clear hT hg) | skip)))
        | (refine aw_drawq ?_ ?_; (kernel_rfl))
        | ((with_reducible apply ds_nil))
        | (((with_reducible apply rd_guard); exact rfl; exact rfl; exact rfl) <;> intro hg <;> (first | (exact absurd hg (by decide)) | ((try rw [hg]); (try simp only [decide_eq_true_eq, decide_eq_false_iff_not, Bool.not_eq_true', Bool.not_eq_false', Bool.not_true, Bool.not_false, Bool.not_not, Int.not_lt, Int.not_le, Nat.not_lt, Nat.not_le, gt_iff_lt, ge_iff_le, List.cons.injEq, and_true] at hg); first | (exact absurd trivial hg) | (exfalso; omega) | (have hT : True := hg; clear hT hg) | skip)))
        )
      refine aw_loopG (G := Int × List Int) (fun ((k, u) : Int × List Int) => ss[j].1 ≤ k ∧ k ≤ ss[j].2 ∧ Is u m (fun q => f q + cntS (ss.take j) q + ind ss[j].1 k q)) (fun ((k, u) : Int × List Int) => (ss[j].2 - k).toNat) (fun ((k, u) : Int × List Int) => [(0, .vec 1 m), (1, .c (LS ss)), (5, A j), (6, A k)]) (fun ((k, u) : Int × List Int) => [(1, some (.vec 3 1 (u.flatMap inC))), (0, some (lineB l))]) 2 (ss[j].1, t) ?_ (by refine weak_mk rfl ?_ ?_ <;> repeat (first | exact envW_nil | exact heapW_nil | refine envW_cons rfl rfl ?_ | refine heapW_cons rfl rfl rfl ?_)) rfl ?_
      · refine ⟨Int.le_refl _, by show ss[j].1 ≤ ss[j].2; omega, ?_⟩
        have e : (fun q => f q + cntS (ss.take j) q + ind ss[j].1 ss[j].1 q) = fun q => f q + cntS (ss.take j) q := by
          funext q; unfold ind; rw [if_neg (by omega)]; omega
        show Is t m _
        rw [e]; exact ht
      rintro ⟨k, u⟩ hI
      try dsimp only at hI
      try dsimp only
      obtain ⟨hk1, hk2, hu⟩ := hI
      have hul := hu.1
      by_cases hkl : k < ss[j].2
      · have hget : u[k.toNat] = f (k.toNat : Int) + cntS (ss.take j) (k.toNat : Int) + ind ss[j].1 k (k.toNat : Int) := hu.2 k.toNat (by omega)
        have hb1 := hf (k.toNat : Int)
        have hb2 := cntS_bd (ss.take j) (k.toNat : Int)
        have hb3 := ind_bd ss[j].1 k (k.toNat : Int)
        have hb4 : (ss.take j).length ≤ 3000 := by simp; omega
        repeat' (first
          | ((with_reducible apply (r_store_v (enc := inC) (k := k.toNat) (l := u) ((u[k.toNat]'(by omega)) + 1))); exact rfl; exact rfl; exact inferInstance; exact hul; exact (by omega); exact rfl; exact rfl; exact rfl; exact rfl)
          | ((with_reducible apply aw_seq))
          | ((with_reducible apply aw_region))
          | ((with_reducible apply aw_block))
          | ((with_reducible apply thn_normal))
          | ((with_reducible apply inb_normal))
          | ((with_reducible apply aw_skip))
          | ((with_reducible apply ao_nil))
          | ((with_reducible apply r_move); exact rfl; exact rfl)
          | ((with_reducible apply r_assign); exact rfl; exact rfl)
          | ((with_reducible apply r_lss); exact rfl; exact rfl; exact rfl)
          | ((with_reducible apply r_add); exact rfl; exact rfl; exact (by first | assumption | (unfold fits; omega)); exact rfl)
          | ((with_reducible apply r_index_f); exact rfl; exact inferInstance; exact rfl; exact rfl; (first | assumption | omega); exact rfl)
          | ((with_reducible apply r_load_f); exact rfl; exact inferInstance; exact List.getElem?_eq_getElem (by first | assumption | omega); exact rfl; exact rfl; exact rfl)
          | ((with_reducible apply r_index_vf); exact rfl; exact rfl; exact inferInstance; (first | exact rfl | assumption | omega); exact rfl; exact (Int.toNat_of_nonneg (by omega)).symm; (first | assumption | omega); exact rfl)
          | ((with_reducible apply r_load_vf0); exact rfl; exact rfl; exact inferInstance; (first | exact rfl | assumption | omega); exact List.getElem?_eq_getElem (by first | assumption | omega); exact rfl; exact rfl)
          | ((with_reducible apply r_field_e); exact rfl; exact rfl)
          | (((with_reducible apply aw_cond); exact rfl) <;> intro hg <;> (first | (exact absurd hg (by decide)) | ((try simp only [decide_eq_true_eq, decide_eq_false_iff_not, Bool.not_eq_true', Bool.not_eq_false', Bool.not_true, Bool.not_false, Bool.not_not, Int.not_lt, Int.not_le, Nat.not_lt, Nat.not_le, gt_iff_lt, ge_iff_le, List.cons.injEq, and_true] at hg); first | (exact absurd trivial hg) | (exfalso; omega) | (have hT : True := hg; clear hT hg) | skip)))
          )
        refine ⟨(k + 1, u.set k.toNat ((u[k.toNat]'(by omega)) + 1)), ?_, ?_, by refine weak_mk rfl ?_ ?_ <;> repeat (first | exact envW_nil | exact heapW_nil | refine envW_cons rfl rfl ?_ | refine heapW_cons rfl rfl rfl ?_)⟩
        · show (_ - (k + 1)).toNat < (_ - k).toNat; omega
        · refine ⟨by show ss[j].1 ≤ k + 1; omega, by show k + 1 ≤ ss[j].2; omega, ?_⟩
          refine hu.up k.toNat (by omega) (fun i hi => ?_)
          dsimp only
          have e : ind ss[j].1 (k + 1) i = ind ss[j].1 k i + if i = k.toNat then 1 else 0 := by unfold ind; (repeat' split) <;> omega
          rw [e]; omega
      · skip
        repeat' (first
          | ((with_reducible apply aw_seq))
          | ((with_reducible apply aw_region))
          | ((with_reducible apply thn_normal))
          | ((with_reducible apply thn_exit))
          | ((with_reducible apply inb_normal))
          | ((with_reducible apply inb_exit))
          | ((with_reducible apply aw_exit))
          | ((with_reducible apply ao_nil))
          | ((with_reducible apply r_move); exact rfl; exact rfl)
          | ((with_reducible apply r_assign); exact rfl; exact rfl)
          | ((with_reducible apply r_lss); exact rfl; exact rfl; exact rfl)
          | ((with_reducible apply r_add); exact rfl; exact rfl; exact (by first | assumption | (unfold fits; omega)); exact rfl)
          | ((with_reducible apply r_index_f); exact rfl; exact inferInstance; exact rfl; exact rfl; (first | assumption | omega); exact rfl)
          | ((with_reducible apply r_load_f); exact rfl; exact inferInstance; exact List.getElem?_eq_getElem (by first | assumption | omega); exact rfl; exact rfl; exact rfl)
          | ((with_reducible apply r_field_e); exact rfl; exact rfl)
          | (((with_reducible apply aw_cond); exact rfl) <;> intro hg <;> (first | (exact absurd hg (by decide)) | ((try simp only [decide_eq_true_eq, decide_eq_false_iff_not, Bool.not_eq_true', Bool.not_eq_false', Bool.not_true, Bool.not_false, Bool.not_not, Int.not_lt, Int.not_le, Nat.not_lt, Nat.not_le, gt_iff_lt, ge_iff_le, List.cons.injEq, and_true] at hg); first | (exact absurd trivial hg) | (exfalso; omega) | (have hT : True := hg; clear hT hg) | skip)))
          )
        refine ⟨(j + 1, u), ?_, ?_, by refine weak_mk rfl ?_ ?_ <;> repeat (first | exact envW_nil | exact heapW_nil | refine envW_cons rfl rfl ?_ | refine heapW_cons rfl rfl rfl ?_)⟩
        · show _ - (j + 1) < _ - j; omega
        · refine ⟨by show j + 1 ≤ _; omega, ?_⟩
          have e : (fun q => f q + cntS (ss.take (j + 1)) q) = fun q => f q + cntS (ss.take j) q + ind ss[j].1 k q := by
            funext q; rw [cntS_succ ss j hjl, show k = ss[j].2 by omega]; omega
          show Is u m (fun q => f q + cntS (ss.take (j + 1)) q)
          rw [e]; exact hu
    · skip
      repeat' (first
        | ((with_reducible apply aw_seq))
        | ((with_reducible apply aw_region))
        | ((with_reducible apply aw_block))
        | ((with_reducible apply thn_normal))
        | ((with_reducible apply aw_skip))
        | ((with_reducible apply ao_nil))
        | ((with_reducible apply r_move); exact rfl; exact rfl)
        | ((with_reducible apply r_assign); exact rfl; exact rfl)
        | ((with_reducible apply r_lss); exact rfl; exact rfl; exact rfl)
        | ((with_reducible apply r_gtr); exact rfl; exact rfl; exact rfl)
        | ((with_reducible apply r_geq); exact rfl; exact rfl; exact rfl)
        | ((with_reducible apply r_pick_f); exact rfl; exact rfl; exact rfl)
        | ((with_reducible apply r_len_f); exact rfl; exact inferInstance; exact rfl)
        | ((with_reducible apply r_index_f); exact rfl; exact inferInstance; exact rfl; exact rfl; (first | assumption | omega); exact rfl)
        | ((with_reducible apply r_load_f0); exact rfl; exact inferInstance; exact List.getElem?_eq_getElem (by first | assumption | omega); exact rfl; exact rfl)
        | ((with_reducible apply r_load_f); exact rfl; exact inferInstance; exact List.getElem?_eq_getElem (by first | assumption | omega); exact rfl; exact rfl; exact rfl)
        | ((with_reducible apply r_len_v); exact rfl; exact rfl; (first | (exact flat_len EncL.len _) | (rw [flat_len EncL.len]; first | assumption | omega | (congr 1; omega))); exact rfl)
        | ((with_reducible apply r_field_e); exact rfl; exact rfl)
        | (((with_reducible apply aw_cond); exact rfl) <;> intro hg <;> (first | (exact absurd hg (by decide)) | ((try simp only [decide_eq_true_eq, decide_eq_false_iff_not, Bool.not_eq_true', Bool.not_eq_false', Bool.not_true, Bool.not_false, Bool.not_not, Int.not_lt, Int.not_le, Nat.not_lt, Nat.not_le, gt_iff_lt, ge_iff_le, List.cons.injEq, and_true] at hg); first | (exact absurd trivial hg) | (exfalso; omega) | (have hT : True := hg; clear hT hg) | skip)))
        | (refine aw_drawq ?_ ?_; (kernel_rfl))
        | ((with_reducible apply ds_nil))
        | (((with_reducible apply rd_guard); exact rfl; exact rfl; exact rfl) <;> intro hg <;> (first | (exact absurd hg (by decide)) | ((try rw [hg]); (try simp only [decide_eq_true_eq, decide_eq_false_iff_not, Bool.not_eq_true', Bool.not_eq_false', Bool.not_true, Bool.not_false, Bool.not_not, Int.not_lt, Int.not_le, Nat.not_lt, Nat.not_le, gt_iff_lt, ge_iff_le, List.cons.injEq, and_true] at hg); first | (exact absurd trivial hg) | (exfalso; omega) | (have hT : True := hg; clear hT hg) | skip)))
        )
      refine aw_loopG (G := Int × List Int) (fun ((k, u) : Int × List Int) => ss[j].1 ≤ k ∧ k ≤ ss[j].2 ∧ Is u m (fun q => f q + cntS (ss.take j) q + ind ss[j].1 k q)) (fun ((k, u) : Int × List Int) => (ss[j].2 - k).toNat) (fun ((k, u) : Int × List Int) => [(0, .vec 1 m), (1, .c (LS ss)), (5, A j), (6, A k)]) (fun ((k, u) : Int × List Int) => [(1, some (.vec 3 1 (u.flatMap inC))), (0, some (lineB l))]) 2 (ss[j].1, t) ?_ (by refine weak_mk rfl ?_ ?_ <;> repeat (first | exact envW_nil | exact heapW_nil | refine envW_cons rfl rfl ?_ | refine heapW_cons rfl rfl rfl ?_)) rfl ?_
      · refine ⟨Int.le_refl _, by show ss[j].1 ≤ ss[j].2; omega, ?_⟩
        have e : (fun q => f q + cntS (ss.take j) q + ind ss[j].1 ss[j].1 q) = fun q => f q + cntS (ss.take j) q := by
          funext q; unfold ind; rw [if_neg (by omega)]; omega
        show Is t m _
        rw [e]; exact ht
      rintro ⟨k, u⟩ hI
      try dsimp only at hI
      try dsimp only
      obtain ⟨hk1, hk2, hu⟩ := hI
      have hul := hu.1
      by_cases hkl : k < ss[j].2
      · have hget : u[k.toNat] = f (k.toNat : Int) + cntS (ss.take j) (k.toNat : Int) + ind ss[j].1 k (k.toNat : Int) := hu.2 k.toNat (by omega)
        have hb1 := hf (k.toNat : Int)
        have hb2 := cntS_bd (ss.take j) (k.toNat : Int)
        have hb3 := ind_bd ss[j].1 k (k.toNat : Int)
        have hb4 : (ss.take j).length ≤ 3000 := by simp; omega
        repeat' (first
          | ((with_reducible apply (r_store_v (enc := inC) (k := k.toNat) (l := u) ((u[k.toNat]'(by omega)) + 1))); exact rfl; exact rfl; exact inferInstance; exact hul; exact (by omega); exact rfl; exact rfl; exact rfl; exact rfl)
          | ((with_reducible apply aw_seq))
          | ((with_reducible apply aw_region))
          | ((with_reducible apply aw_block))
          | ((with_reducible apply thn_normal))
          | ((with_reducible apply inb_normal))
          | ((with_reducible apply aw_skip))
          | ((with_reducible apply ao_nil))
          | ((with_reducible apply r_move); exact rfl; exact rfl)
          | ((with_reducible apply r_assign); exact rfl; exact rfl)
          | ((with_reducible apply r_lss); exact rfl; exact rfl; exact rfl)
          | ((with_reducible apply r_add); exact rfl; exact rfl; exact (by first | assumption | (unfold fits; omega)); exact rfl)
          | ((with_reducible apply r_index_f); exact rfl; exact inferInstance; exact rfl; exact rfl; (first | assumption | omega); exact rfl)
          | ((with_reducible apply r_load_f); exact rfl; exact inferInstance; exact List.getElem?_eq_getElem (by first | assumption | omega); exact rfl; exact rfl; exact rfl)
          | ((with_reducible apply r_index_vf); exact rfl; exact rfl; exact inferInstance; (first | exact rfl | assumption | omega); exact rfl; exact (Int.toNat_of_nonneg (by omega)).symm; (first | assumption | omega); exact rfl)
          | ((with_reducible apply r_load_vf0); exact rfl; exact rfl; exact inferInstance; (first | exact rfl | assumption | omega); exact List.getElem?_eq_getElem (by first | assumption | omega); exact rfl; exact rfl)
          | ((with_reducible apply r_field_e); exact rfl; exact rfl)
          | (((with_reducible apply aw_cond); exact rfl) <;> intro hg <;> (first | (exact absurd hg (by decide)) | ((try simp only [decide_eq_true_eq, decide_eq_false_iff_not, Bool.not_eq_true', Bool.not_eq_false', Bool.not_true, Bool.not_false, Bool.not_not, Int.not_lt, Int.not_le, Nat.not_lt, Nat.not_le, gt_iff_lt, ge_iff_le, List.cons.injEq, and_true] at hg); first | (exact absurd trivial hg) | (exfalso; omega) | (have hT : True := hg; clear hT hg) | skip)))
          )
        refine ⟨(k + 1, u.set k.toNat ((u[k.toNat]'(by omega)) + 1)), ?_, ?_, by refine weak_mk rfl ?_ ?_ <;> repeat (first | exact envW_nil | exact heapW_nil | refine envW_cons rfl rfl ?_ | refine heapW_cons rfl rfl rfl ?_)⟩
        · show (_ - (k + 1)).toNat < (_ - k).toNat; omega
        · refine ⟨by show ss[j].1 ≤ k + 1; omega, by show k + 1 ≤ ss[j].2; omega, ?_⟩
          refine hu.up k.toNat (by omega) (fun i hi => ?_)
          dsimp only
          have e : ind ss[j].1 (k + 1) i = ind ss[j].1 k i + if i = k.toNat then 1 else 0 := by unfold ind; (repeat' split) <;> omega
          rw [e]; omega
      · skip
        repeat' (first
          | ((with_reducible apply aw_seq))
          | ((with_reducible apply aw_region))
          | ((with_reducible apply thn_normal))
          | ((with_reducible apply thn_exit))
          | ((with_reducible apply inb_normal))
          | ((with_reducible apply inb_exit))
          | ((with_reducible apply aw_exit))
          | ((with_reducible apply ao_nil))
          | ((with_reducible apply r_move); exact rfl; exact rfl)
          | ((with_reducible apply r_assign); exact rfl; exact rfl)
          | ((with_reducible apply r_lss); exact rfl; exact rfl; exact rfl)
          | ((with_reducible apply r_add); exact rfl; exact rfl; exact (by first | assumption | (unfold fits; omega)); exact rfl)
          | ((with_reducible apply r_index_f); exact rfl; exact inferInstance; exact rfl; exact rfl; (first | assumption | omega); exact rfl)
          | ((with_reducible apply r_load_f); exact rfl; exact inferInstance; exact List.getElem?_eq_getElem (by first | assumption | omega); exact rfl; exact rfl; exact rfl)
          | ((with_reducible apply r_field_e); exact rfl; exact rfl)
          | (((with_reducible apply aw_cond); exact rfl) <;> intro hg <;> (first | (exact absurd hg (by decide)) | ((try simp only [decide_eq_true_eq, decide_eq_false_iff_not, Bool.not_eq_true', Bool.not_eq_false', Bool.not_true, Bool.not_false, Bool.not_not, Int.not_lt, Int.not_le, Nat.not_lt, Nat.not_le, gt_iff_lt, ge_iff_le, List.cons.injEq, and_true] at hg); first | (exact absurd trivial hg) | (exfalso; omega) | (have hT : True := hg; clear hT hg) | skip)))
          )
        refine ⟨(j + 1, u), ?_, ?_, by refine weak_mk rfl ?_ ?_ <;> repeat (first | exact envW_nil | exact heapW_nil | refine envW_cons rfl rfl ?_ | refine heapW_cons rfl rfl rfl ?_)⟩
        · show _ - (j + 1) < _ - j; omega
        · refine ⟨by show j + 1 ≤ _; omega, ?_⟩
          have e : (fun q => f q + cntS (ss.take (j + 1)) q) = fun q => f q + cntS (ss.take j) q + ind ss[j].1 k q := by
            funext q; rw [cntS_succ ss j hjl, show k = ss[j].2 by omega]; omega
          show Is u m (fun q => f q + cntS (ss.take (j + 1)) q)
          rw [e]; exact hu
  · obtain rfl : j = ss.length := by omega
    rw [List.take_length] at ht
    repeat' (first
      | ((with_reducible apply aw_seq))
      | ((with_reducible apply aw_region))
      | ((with_reducible apply thn_normal))
      | ((with_reducible apply thn_exit))
      | ((with_reducible apply inb_exit))
      | ((with_reducible apply aw_exit))
      | ((with_reducible apply aw_ret))
      | ((with_reducible apply ao_nil))
      | ((with_reducible apply r_move); exact rfl; exact rfl)
      | ((with_reducible apply r_assign); exact rfl; exact rfl)
      | ((with_reducible apply r_lss); exact rfl; exact rfl; exact rfl)
      | ((with_reducible apply r_len_f); exact rfl; exact inferInstance; exact rfl)
      | (((with_reducible apply aw_cond); exact rfl) <;> intro hg <;> (first | (exact absurd hg (by decide)) | ((try simp only [decide_eq_true_eq, decide_eq_false_iff_not, Bool.not_eq_true', Bool.not_eq_false', Bool.not_true, Bool.not_false, Bool.not_not, Int.not_lt, Int.not_le, Nat.not_lt, Nat.not_le, gt_iff_lt, ge_iff_le, List.cons.injEq, and_true] at hg); first | (exact absurd trivial hg) | (exfalso; omega) | (have hT : True := hg; clear hT hg) | skip)))
      )
    exact back_ret rfl (h t ht)
end

set_option maxRecDepth 100000 in
set_option maxHeartbeats 16000000 in
theorem partsLaw_con (l : Line) (p : List Piece) (hN : l.gain.length ≤ maxLen) : Con Tryd.prog G 8 [lineC l, LP p] T := by
  have hf := few_con (gl := G) l hN
  refine con_of Tryd.func8 rfl (by kernel_rfl) rfl ?_
  simp only [Tryd.ntmps8, Tryd.results8, argEnv, ofC, of1, List.map, lineC, lineL]
  cases h : fewS l with
  | false =>
    rw [h] at hf
    repeat' (first
      | ((with_reducible apply r_call); exact rfl; exact rfl; (first | exact hf | exact awake_con); exact rfl; exact rfl)
      | ((with_reducible apply aw_seq))
      | ((with_reducible apply aw_region))
      | ((with_reducible apply thn_normal))
      | ((with_reducible apply thn_ret))
      | ((with_reducible apply aw_ret))
      | ((with_reducible apply ao_nil))
      | ((with_reducible apply r_move); exact rfl; exact rfl)
      | ((with_reducible apply r_assign); exact rfl; exact rfl)
      | ((with_reducible apply r_load_pa); exact rfl; exact rfl; exact rfl; exact rfl; exact rfl)
      | ((with_reducible apply r_box_a); exact rfl; exact rfl)
      | ((with_reducible apply r_pick_t); exact rfl; exact rfl; exact rfl)
      | ((with_reducible apply r_not); exact rfl; exact rfl)
      | (((with_reducible apply r_guard); exact rfl; exact rfl; exact rfl; exact rfl) <;> intro hg <;> (first | (exact absurd hg (by decide)) | ((try simp only [decide_eq_true_eq, decide_eq_false_iff_not, Bool.not_eq_true', Bool.not_eq_false', Bool.not_true, Bool.not_false, Bool.not_not, Int.not_lt, Int.not_le, Nat.not_lt, Nat.not_le, gt_iff_lt, ge_iff_le, List.cons.injEq, and_true] at hg); first | (exact absurd trivial hg) | (exfalso; omega) | (have hT : True := hg; clear hT hg) | skip)))
      | (((with_reducible apply aw_cond); exact rfl) <;> intro hg <;> (first | (exact absurd hg (by decide)) | ((try simp only [decide_eq_true_eq, decide_eq_false_iff_not, Bool.not_eq_true', Bool.not_eq_false', Bool.not_true, Bool.not_false, Bool.not_not, Int.not_lt, Int.not_le, Nat.not_lt, Nat.not_le, gt_iff_lt, ge_iff_le, List.cons.injEq, and_true] at hg); first | (exact absurd trivial hg) | (exfalso; omega) | (have hT : True := hg; clear hT hg) | skip)))
      )
    all_goals first | exact ret_b rfl rfl | trace_state
  | true =>
  rw [h] at hf
  by_cases hp : 300 < p.length
  · skip
    repeat' (first
      | ((with_reducible apply r_call); exact rfl; exact rfl; (first | exact hf | exact awake_con); exact rfl; exact rfl)
      | ((with_reducible apply aw_seq))
      | ((with_reducible apply aw_region))
      | ((with_reducible apply thn_normal))
      | ((with_reducible apply thn_ret))
      | ((with_reducible apply aw_ret))
      | ((with_reducible apply ao_nil))
      | ((with_reducible apply r_move); exact rfl; exact rfl)
      | ((with_reducible apply r_assign); exact rfl; exact rfl)
      | ((with_reducible apply r_load_pa); exact rfl; exact rfl; exact rfl; exact rfl; exact rfl)
      | ((with_reducible apply r_gtr); exact rfl; exact rfl; exact rfl)
      | ((with_reducible apply r_box_a); exact rfl; exact rfl)
      | ((with_reducible apply r_pick_f); exact rfl; exact rfl; exact rfl)
      | ((with_reducible apply r_not); exact rfl; exact rfl)
      | ((with_reducible apply r_len_f); exact rfl; exact inferInstance; exact rfl)
      | (((with_reducible apply r_guard); exact rfl; exact rfl; exact rfl; exact rfl) <;> intro hg <;> (first | (exact absurd hg (by decide)) | ((try simp only [decide_eq_true_eq, decide_eq_false_iff_not, Bool.not_eq_true', Bool.not_eq_false', Bool.not_true, Bool.not_false, Bool.not_not, Int.not_lt, Int.not_le, Nat.not_lt, Nat.not_le, gt_iff_lt, ge_iff_le, List.cons.injEq, and_true] at hg); first | (exact absurd trivial hg) | (exfalso; omega) | (have hT : True := hg; clear hT hg) | skip)))
      | (((with_reducible apply aw_cond); exact rfl) <;> intro hg <;> (first | (exact absurd hg (by decide)) | ((try simp only [decide_eq_true_eq, decide_eq_false_iff_not, Bool.not_eq_true', Bool.not_eq_false', Bool.not_true, Bool.not_false, Bool.not_not, Int.not_lt, Int.not_le, Nat.not_lt, Nat.not_le, gt_iff_lt, ge_iff_le, List.cons.injEq, and_true] at hg); first | (exact absurd trivial hg) | (exfalso; omega) | (have hT : True := hg; clear hT hg) | skip)))
      )
    all_goals first | exact ret_b rfl rfl | trace_state
  obtain ⟨e, D, C, hcut⟩ : ∃ e D C, cutsS l p = (e, D, C) := ⟨_, _, _, rfl⟩
  have hc := cuts_con (gl := G) l p (by omega)
  have hv := value_con (gl := G) l p (by omega)
  rw [hcut] at hc
  by_cases he : e = 0
  rotate_left
  · have hDC : D = [] ∧ C = [] := by
      unfold cutsS at hcut
      split at hcut
      · cases hcut; exact ⟨rfl, rfl⟩
      · have := go_len p 0 [] [] (by rw [hcut]; exact he)
        rw [hcut] at this; cases this; exact ⟨rfl, rfl⟩
    obtain ⟨rfl, rfl⟩ := hDC
    rw [valS_err hcut he] at hv
    repeat' (first
      | ((with_reducible apply r_call); exact rfl; exact rfl; (first | exact hf | exact hc | exact hv | exact awake_con); exact rfl; exact rfl)
      | ((with_reducible apply aw_seq))
      | ((with_reducible apply aw_region))
      | ((with_reducible apply thn_normal))
      | ((with_reducible apply thn_ret))
      | ((with_reducible apply aw_skip))
      | ((with_reducible apply aw_ret))
      | ((with_reducible apply ao_nil))
      | ((with_reducible apply r_move); exact rfl; exact rfl)
      | ((with_reducible apply r_assign); exact rfl; exact rfl)
      | ((with_reducible apply r_load_pa); exact rfl; exact rfl; exact rfl; exact rfl; exact rfl)
      | ((with_reducible apply r_gtr); exact rfl; exact rfl; exact rfl)
      | ((with_reducible apply r_eql); exact rfl; exact rfl; exact rfl)
      | ((with_reducible apply r_neq); exact rfl; exact rfl; exact rfl)
      | ((with_reducible apply r_box_a); exact rfl; exact rfl)
      | ((with_reducible apply r_pick_t); exact rfl; exact rfl; exact rfl)
      | ((with_reducible apply r_pick_f); exact rfl; exact rfl; exact rfl)
      | ((with_reducible apply r_not); exact rfl; exact rfl)
      | ((with_reducible apply r_len_f); exact rfl; exact inferInstance; exact rfl)
      | ((with_reducible apply r_extract); exact rfl; exact rfl; exact rfl)
      | (((with_reducible apply r_guard); exact rfl; exact rfl; exact rfl; exact rfl) <;> intro hg <;> (first | (exact absurd hg (by decide)) | ((try simp only [decide_eq_true_eq, decide_eq_false_iff_not, Bool.not_eq_true', Bool.not_eq_false', Bool.not_true, Bool.not_false, Bool.not_not, Int.not_lt, Int.not_le, Nat.not_lt, Nat.not_le, gt_iff_lt, ge_iff_le, List.cons.injEq, and_true] at hg); first | (exact absurd trivial hg) | (exfalso; omega) | (have hT : True := hg; clear hT hg) | skip)))
      | (((with_reducible apply aw_cond); exact rfl) <;> intro hg <;> (first | (exact absurd hg (by decide)) | ((try simp only [decide_eq_true_eq, decide_eq_false_iff_not, Bool.not_eq_true', Bool.not_eq_false', Bool.not_true, Bool.not_false, Bool.not_not, Int.not_lt, Int.not_le, Nat.not_lt, Nat.not_le, gt_iff_lt, ge_iff_le, List.cons.injEq, and_true] at hg); first | (exact absurd trivial hg) | (exfalso; omega) | (have hT : True := hg; clear hT hg) | skip)))
      )
    all_goals first | exact ret_b rfl rfl | exact absurd rfl hg | trace_state
  subst he
  have g := good_of hcut
  obtain ⟨hs1, hs2, hcn⟩ := cuts_cnt hcut
  obtain ⟨ha1, ha2⟩ := cuts_all hcut
  rw [valS_ok hcut] at hv
  have v := g.v
  obtain ⟨l1, l2⟩ := v.len
  have lch := v.chip
  have ldu := v.dust
  have hnd := g.nd
  have hnc := g.nc
  obtain ⟨m, hm⟩ : ∃ m : Nat, l.len = m := ⟨l.len.toNat, by omega⟩
  rw [hm] at hs1 hs2 ha1 ha2
  repeat' (first
    | ((with_reducible apply r_call); exact rfl; exact rfl; (first | exact hf | exact hc | exact hv | exact awake_con); exact rfl; exact rfl)
    | ((with_reducible apply r_make (enc := inC) (0 : Int) m); exact inferInstance; exact rfl; exact rfl; exact rfl; exact hm; exact hm; omega; omega; exact rfl)
    | ((with_reducible apply aw_seq))
    | ((with_reducible apply aw_region))
    | ((with_reducible apply thn_normal))
    | ((with_reducible apply aw_skip))
    | ((with_reducible apply ao_nil))
    | ((with_reducible apply r_move); exact rfl; exact rfl)
    | ((with_reducible apply r_assign); exact rfl; exact rfl)
    | ((with_reducible apply r_field_p); exact rfl; exact rfl)
    | ((with_reducible apply r_load_p); exact rfl; exact rfl; exact rfl; exact rfl)
    | ((with_reducible apply r_load_pa); exact rfl; exact rfl; exact rfl; exact rfl; exact rfl)
    | ((with_reducible apply r_lss); exact rfl; exact rfl; exact rfl)
    | ((with_reducible apply r_gtr); exact rfl; exact rfl; exact rfl)
    | ((with_reducible apply r_neq); exact rfl; exact rfl; exact rfl)
    | ((with_reducible apply r_box_a); exact rfl; exact rfl)
    | ((with_reducible apply r_pick_f); exact rfl; exact rfl; exact rfl)
    | ((with_reducible apply r_not); exact rfl; exact rfl)
    | ((with_reducible apply r_len_f); exact rfl; exact inferInstance; exact rfl)
    | ((with_reducible apply r_extract); exact rfl; exact rfl; exact rfl)
    | (((with_reducible apply r_guard); exact rfl; exact rfl; exact rfl; exact rfl) <;> intro hg <;> (first | (exact absurd hg (by decide)) | ((try simp only [decide_eq_true_eq, decide_eq_false_iff_not, Bool.not_eq_true', Bool.not_eq_false', Bool.not_true, Bool.not_false, Bool.not_not, Int.not_lt, Int.not_le, Nat.not_lt, Nat.not_le, gt_iff_lt, ge_iff_le, List.cons.injEq, and_true] at hg); first | (exact absurd trivial hg) | (exfalso; omega) | (have hT : True := hg; clear hT hg) | skip)))
    | (((with_reducible apply aw_cond); exact rfl) <;> intro hg <;> (first | (exact absurd hg (by decide)) | ((try simp only [decide_eq_true_eq, decide_eq_false_iff_not, Bool.not_eq_true', Bool.not_eq_false', Bool.not_true, Bool.not_false, Bool.not_not, Int.not_lt, Int.not_le, Nat.not_lt, Nat.not_le, gt_iff_lt, ge_iff_le, List.cons.injEq, and_true] at hg); first | (exact absurd trivial hg) | (exfalso; omega) | (have hT : True := hg; clear hT hg) | skip)))
    )
  apply mark_in D (fun _ => 0) (fun _ => by omega) (by omega) (by omega) (⟨List.length_replicate, fun i h => by simp⟩) ha1 hs1
  · exact rfl
  · exact rfl
  intro s1 hI1
  repeat' (first
    | ((with_reducible apply r_move); exact rfl; exact rfl)
    | ((with_reducible apply r_not); exact rfl; exact rfl)
    | (((with_reducible apply r_guard); exact rfl; exact rfl; exact rfl; exact rfl) <;> intro hg <;> (first | (exact absurd hg (by decide)) | ((try simp only [decide_eq_true_eq, decide_eq_false_iff_not, Bool.not_eq_true', Bool.not_eq_false', Bool.not_true, Bool.not_false, Bool.not_not, Int.not_lt, Int.not_le, Nat.not_lt, Nat.not_le, gt_iff_lt, ge_iff_le, List.cons.injEq, and_true] at hg); first | (exact absurd trivial hg) | (exfalso; omega) | (have hT : True := hg; clear hT hg) | skip)))
    )
  apply mark_in C (fun k => 0 + cntS D k) (fun k => by have := cntS_bd D k; omega) (by omega) (by omega) hI1 ha2 hs2
  · exact rfl
  · exact rfl
  intro s2 hI2
  have hspD := g.d
  have hspC := g.c
  have hbdD := g.bd
  have hbdC := g.bc
  have gsd := g.sd
  have gsc := g.sc
  repeat' (first
    | ((with_reducible apply aw_seq))
    | ((with_reducible apply aw_region))
    | ((with_reducible apply aw_block))
    | ((with_reducible apply thn_normal))
    | ((with_reducible apply aw_skip))
    | ((with_reducible apply ao_nil))
    | ((with_reducible apply r_assign); exact rfl; exact rfl)
    | ((with_reducible apply r_pick_f); exact rfl; exact rfl; exact rfl)
    | ((with_reducible apply r_not); exact rfl; exact rfl)
    | (((with_reducible apply r_guard); exact rfl; exact rfl; exact rfl; exact rfl) <;> intro hg <;> (first | (exact absurd hg (by decide)) | ((try simp only [decide_eq_true_eq, decide_eq_false_iff_not, Bool.not_eq_true', Bool.not_eq_false', Bool.not_true, Bool.not_false, Bool.not_not, Int.not_lt, Int.not_le, Nat.not_lt, Nat.not_le, gt_iff_lt, ge_iff_le, List.cons.injEq, and_true] at hg); first | (exact absurd trivial hg) | (exfalso; omega) | (have hT : True := hg; clear hT hg) | skip)))
    | (((with_reducible apply aw_cond); exact rfl) <;> intro hg <;> (first | (exact absurd hg (by decide)) | ((try simp only [decide_eq_true_eq, decide_eq_false_iff_not, Bool.not_eq_true', Bool.not_eq_false', Bool.not_true, Bool.not_false, Bool.not_not, Int.not_lt, Int.not_le, Nat.not_lt, Nat.not_le, gt_iff_lt, ge_iff_le, List.cons.injEq, and_true] at hg); first | (exact absurd trivial hg) | (exfalso; omega) | (have hT : True := hg; clear hT hg) | skip)))
    )
  rw [show (0 : Int) = 0 from rfl]
  refine aw_loopG (G := Nat × Int) (fun ((j, t) : Nat × Int) => j ≤ D.length ∧ t = 0 + sumSp l.dust (D.take j)) (fun ((j, t) : Nat × Int) => D.length - j) (fun ((j, t) : Nat × Int) => [(1, .c (LP p)), (2, .ptr 0 0), (5, .c (LS D)), (6, .c (LS C)), (8, A (sumSp l.dust D + sumSp l.chip C + gsum l p)), (10, .vec 1 m), (11, A t), (12, A j)]) (fun ((j, t) : Nat × Int) => [(1, some (.vec 3 1 (s2.flatMap inC))), (0, some (lineB l))]) 2 (0, 0) ?_ (by refine weak_mk rfl ?_ ?_ <;> repeat (first | exact envW_nil | exact heapW_nil | refine envW_cons rfl rfl ?_ | refine heapW_cons rfl rfl rfl ?_)) rfl ?_
  · exact ⟨Nat.zero_le _, by simp [sumSp]⟩
  rintro ⟨j, t⟩ hI
  try dsimp only at hI
  try dsimp only
  obtain ⟨hI, ht⟩ := hI
  by_cases hjl : j < D.length
  · have h1 := hspD.sp j hjl
    have hbd := sumSp_bd hbdD hspD j hI
    have htl := tot_le hspD j hI
    have htl2 := tot_le hspD (j + 1) (by omega)
    rw [tot_succ D j hjl] at htl2
    have htp : 0 ≤ tot (D.take j) := by
      have := tot_mono hspD.sp j 0 (by omega)
      simpa [tot] using this
    have hsu := sumSp_succ l.dust D j hjl
    repeat' (first
      | ((with_reducible apply aw_seq))
      | ((with_reducible apply aw_region))
      | ((with_reducible apply aw_block))
      | ((with_reducible apply thn_normal))
      | ((with_reducible apply aw_skip))
      | ((with_reducible apply ao_nil))
      | ((with_reducible apply r_move); exact rfl; exact rfl)
      | ((with_reducible apply r_assign); exact rfl; exact rfl)
      | ((with_reducible apply r_lss); exact rfl; exact rfl; exact rfl)
      | ((with_reducible apply r_len_f); exact rfl; exact inferInstance; exact rfl)
      | ((with_reducible apply r_index_f); exact rfl; exact inferInstance; exact rfl; exact rfl; (first | assumption | omega); exact rfl)
      | ((with_reducible apply r_load_f0); exact rfl; exact inferInstance; exact List.getElem?_eq_getElem (by first | assumption | omega); exact rfl; exact rfl)
      | ((with_reducible apply r_field_e); exact rfl; exact rfl)
      | (((with_reducible apply aw_cond); exact rfl) <;> intro hg <;> (first | (exact absurd hg (by decide)) | ((try simp only [decide_eq_true_eq, decide_eq_false_iff_not, Bool.not_eq_true', Bool.not_eq_false', Bool.not_true, Bool.not_false, Bool.not_not, Int.not_lt, Int.not_le, Nat.not_lt, Nat.not_le, gt_iff_lt, ge_iff_le, List.cons.injEq, and_true] at hg); first | (exact absurd trivial hg) | (exfalso; omega) | (have hT : True := hg; clear hT hg) | skip)))
      )
    refine aw_loopG (G := Int × Int) (fun ((k, u) : Int × Int) => D[j].1 ≤ k ∧ k ≤ D[j].2 ∧ u = t + (pre l.dust k.toNat - pre l.dust D[j].1.toNat)) (fun ((k, u) : Int × Int) => (D[j].2 - k).toNat) (fun ((k, u) : Int × Int) => [(1, .c (LP p)), (2, .ptr 0 0), (5, .c (LS D)), (6, .c (LS C)), (8, A (sumSp l.dust D + sumSp l.chip C + gsum l p)), (10, .vec 1 m), (11, A u), (12, A j), (13, A k)]) (fun ((k, u) : Int × Int) => [(1, some (.vec 3 1 (s2.flatMap inC))), (0, some (lineB l))]) 2 (D[j].1, t) ?_ (by refine weak_mk rfl ?_ ?_ <;> repeat (first | exact envW_nil | exact heapW_nil | refine envW_cons rfl rfl ?_ | refine heapW_cons rfl rfl rfl ?_)) rfl ?_
    · exact ⟨Int.le_refl _, h1.2.1, by simp⟩
    rintro ⟨k, u⟩ hI
    try dsimp only at hI
    try dsimp only
    obtain ⟨hk1, hk2, hu⟩ := hI
    have hpb := pre_bd' hbdD D[j].1.toNat k.toNat (by omega) (by omega)
    by_cases hkl : k < D[j].2
    · have hel := hbdD k.toNat (by omega)
      have hps := pre_succ l.dust k.toNat (by omega)
      repeat' (first
        | ((with_reducible apply aw_seq))
        | ((with_reducible apply aw_region))
        | ((with_reducible apply aw_block))
        | ((with_reducible apply thn_normal))
        | ((with_reducible apply inb_normal))
        | ((with_reducible apply aw_skip))
        | ((with_reducible apply ao_nil))
        | ((with_reducible apply r_move); exact rfl; exact rfl)
        | ((with_reducible apply r_assign); exact rfl; exact rfl)
        | ((with_reducible apply r_field_p); exact rfl; exact rfl)
        | ((with_reducible apply r_load_p); exact rfl; exact rfl; exact rfl; exact rfl)
        | ((with_reducible apply r_lss); exact rfl; exact rfl; exact rfl)
        | ((with_reducible apply r_add); exact rfl; exact rfl; exact (by first | assumption | (unfold fits; omega)); exact rfl)
        | ((with_reducible apply r_index_f); exact rfl; exact inferInstance; exact rfl; exact rfl; (first | assumption | omega); exact rfl)
        | ((with_reducible apply r_index_f); exact rfl; exact inferInstance; exact rfl; exact (Int.toNat_of_nonneg (by omega)).symm; (first | assumption | omega); exact rfl)
        | ((with_reducible apply r_load_f0); exact rfl; exact inferInstance; exact List.getElem?_eq_getElem (by first | assumption | omega); exact rfl; exact rfl)
        | ((with_reducible apply r_load_f); exact rfl; exact inferInstance; exact List.getElem?_eq_getElem (by first | assumption | omega); exact rfl; exact rfl; exact rfl)
        | ((with_reducible apply r_field_e); exact rfl; exact rfl)
        | (((with_reducible apply aw_cond); exact rfl) <;> intro hg <;> (first | (exact absurd hg (by decide)) | ((try simp only [decide_eq_true_eq, decide_eq_false_iff_not, Bool.not_eq_true', Bool.not_eq_false', Bool.not_true, Bool.not_false, Bool.not_not, Int.not_lt, Int.not_le, Nat.not_lt, Nat.not_le, gt_iff_lt, ge_iff_le, List.cons.injEq, and_true] at hg); first | (exact absurd trivial hg) | (exfalso; omega) | (have hT : True := hg; clear hT hg) | skip)))
        )
      refine ⟨(k + 1, u + l.dust[k.toNat]), ?_, ?_, by refine weak_mk rfl ?_ ?_ <;> repeat (first | exact envW_nil | exact heapW_nil | refine envW_cons rfl rfl ?_ | refine heapW_cons rfl rfl rfl ?_)⟩
      · show (_ - (k + 1)).toNat < (_ - k).toNat; omega
      · refine ⟨by show _ ≤ k + 1; omega, by show k + 1 ≤ _; omega, ?_⟩
        show _ = t + (pre l.dust (k + 1).toNat - _)
        rw [show (k + 1).toNat = k.toNat + 1 by omega, hps]; omega
    · skip
      repeat' (first
        | ((with_reducible apply aw_seq))
        | ((with_reducible apply aw_region))
        | ((with_reducible apply thn_normal))
        | ((with_reducible apply thn_exit))
        | ((with_reducible apply inb_normal))
        | ((with_reducible apply inb_exit))
        | ((with_reducible apply aw_exit))
        | ((with_reducible apply ao_nil))
        | ((with_reducible apply r_move); exact rfl; exact rfl)
        | ((with_reducible apply r_assign); exact rfl; exact rfl)
        | ((with_reducible apply r_lss); exact rfl; exact rfl; exact rfl)
        | ((with_reducible apply r_add); exact rfl; exact rfl; exact (by first | assumption | (unfold fits; omega)); exact rfl)
        | ((with_reducible apply r_index_f); exact rfl; exact inferInstance; exact rfl; exact rfl; (first | assumption | omega); exact rfl)
        | ((with_reducible apply r_load_f); exact rfl; exact inferInstance; exact List.getElem?_eq_getElem (by first | assumption | omega); exact rfl; exact rfl; exact rfl)
        | ((with_reducible apply r_field_e); exact rfl; exact rfl)
        | (((with_reducible apply aw_cond); exact rfl) <;> intro hg <;> (first | (exact absurd hg (by decide)) | ((try simp only [decide_eq_true_eq, decide_eq_false_iff_not, Bool.not_eq_true', Bool.not_eq_false', Bool.not_true, Bool.not_false, Bool.not_not, Int.not_lt, Int.not_le, Nat.not_lt, Nat.not_le, gt_iff_lt, ge_iff_le, List.cons.injEq, and_true] at hg); first | (exact absurd trivial hg) | (exfalso; omega) | (have hT : True := hg; clear hT hg) | skip)))
        )
      refine ⟨(j + 1, u), ?_, ?_, by refine weak_mk rfl ?_ ?_ <;> repeat (first | exact envW_nil | exact heapW_nil | refine envW_cons rfl rfl ?_ | refine heapW_cons rfl rfl rfl ?_)⟩
      · show _ - (j + 1) < _ - j; omega
      · refine ⟨by show j + 1 ≤ _; omega, ?_⟩
        show u = 0 + sumSp l.dust (D.take (j + 1))
        rw [hsu, hu, ht]
        unfold spV
        rw [show k = D[j].2 by omega]; omega
  obtain rfl : j = D.length := by omega
  rw [List.take_length] at ht
  subst ht
  repeat' (first
    | ((with_reducible apply aw_seq))
    | ((with_reducible apply aw_region))
    | ((with_reducible apply aw_block))
    | ((with_reducible apply thn_normal))
    | ((with_reducible apply thn_exit))
    | ((with_reducible apply inb_exit))
    | ((with_reducible apply aw_exit))
    | ((with_reducible apply ao_nil))
    | ((with_reducible apply r_move); exact rfl; exact rfl)
    | ((with_reducible apply r_assign); exact rfl; exact rfl)
    | ((with_reducible apply r_lss); exact rfl; exact rfl; exact rfl)
    | ((with_reducible apply r_len_f); exact rfl; exact inferInstance; exact rfl)
    | (((with_reducible apply aw_cond); exact rfl) <;> intro hg <;> (first | (exact absurd hg (by decide)) | ((try simp only [decide_eq_true_eq, decide_eq_false_iff_not, Bool.not_eq_true', Bool.not_eq_false', Bool.not_true, Bool.not_false, Bool.not_not, Int.not_lt, Int.not_le, Nat.not_lt, Nat.not_le, gt_iff_lt, ge_iff_le, List.cons.injEq, and_true] at hg); first | (exact absurd trivial hg) | (exfalso; omega) | (have hT : True := hg; clear hT hg) | skip)))
    )
  refine aw_loopG (G := Nat × Int) (fun ((j, t) : Nat × Int) => j ≤ C.length ∧ t = (0 + sumSp l.dust D) + sumSp l.chip (C.take j)) (fun ((j, t) : Nat × Int) => C.length - j) (fun ((j, t) : Nat × Int) => [(1, .c (LP p)), (2, .ptr 0 0), (6, .c (LS C)), (8, A (sumSp l.dust D + sumSp l.chip C + gsum l p)), (10, .vec 1 m), (11, A t), (14, A j)]) (fun ((j, t) : Nat × Int) => [(1, some (.vec 3 1 (s2.flatMap inC))), (0, some (lineB l))]) 2 (0, (0 + sumSp l.dust D)) ?_ (by refine weak_mk rfl ?_ ?_ <;> repeat (first | exact envW_nil | exact heapW_nil | refine envW_cons rfl rfl ?_ | refine heapW_cons rfl rfl rfl ?_)) rfl ?_
  · exact ⟨Nat.zero_le _, by simp [sumSp]⟩
  rintro ⟨j, t⟩ hI
  try dsimp only at hI
  try dsimp only
  obtain ⟨hI, ht⟩ := hI
  by_cases hjl : j < C.length
  · have h1 := hspC.sp j hjl
    have hbd := sumSp_bd hbdC hspC j hI
    have htl := tot_le hspC j hI
    have htl2 := tot_le hspC (j + 1) (by omega)
    rw [tot_succ C j hjl] at htl2
    have htp : 0 ≤ tot (C.take j) := by
      have := tot_mono hspC.sp j 0 (by omega)
      simpa [tot] using this
    have hsu := sumSp_succ l.chip C j hjl
    repeat' (first
      | ((with_reducible apply aw_seq))
      | ((with_reducible apply aw_region))
      | ((with_reducible apply aw_block))
      | ((with_reducible apply thn_normal))
      | ((with_reducible apply aw_skip))
      | ((with_reducible apply ao_nil))
      | ((with_reducible apply r_move); exact rfl; exact rfl)
      | ((with_reducible apply r_assign); exact rfl; exact rfl)
      | ((with_reducible apply r_lss); exact rfl; exact rfl; exact rfl)
      | ((with_reducible apply r_len_f); exact rfl; exact inferInstance; exact rfl)
      | ((with_reducible apply r_index_f); exact rfl; exact inferInstance; exact rfl; exact rfl; (first | assumption | omega); exact rfl)
      | ((with_reducible apply r_load_f0); exact rfl; exact inferInstance; exact List.getElem?_eq_getElem (by first | assumption | omega); exact rfl; exact rfl)
      | ((with_reducible apply r_field_e); exact rfl; exact rfl)
      | (((with_reducible apply aw_cond); exact rfl) <;> intro hg <;> (first | (exact absurd hg (by decide)) | ((try simp only [decide_eq_true_eq, decide_eq_false_iff_not, Bool.not_eq_true', Bool.not_eq_false', Bool.not_true, Bool.not_false, Bool.not_not, Int.not_lt, Int.not_le, Nat.not_lt, Nat.not_le, gt_iff_lt, ge_iff_le, List.cons.injEq, and_true] at hg); first | (exact absurd trivial hg) | (exfalso; omega) | (have hT : True := hg; clear hT hg) | skip)))
      )
    refine aw_loopG (G := Int × Int) (fun ((k, u) : Int × Int) => C[j].1 ≤ k ∧ k ≤ C[j].2 ∧ u = t + (pre l.chip k.toNat - pre l.chip C[j].1.toNat)) (fun ((k, u) : Int × Int) => (C[j].2 - k).toNat) (fun ((k, u) : Int × Int) => [(1, .c (LP p)), (2, .ptr 0 0), (6, .c (LS C)), (8, A (sumSp l.dust D + sumSp l.chip C + gsum l p)), (10, .vec 1 m), (11, A u), (14, A j), (15, A k)]) (fun ((k, u) : Int × Int) => [(1, some (.vec 3 1 (s2.flatMap inC))), (0, some (lineB l))]) 2 (C[j].1, t) ?_ (by refine weak_mk rfl ?_ ?_ <;> repeat (first | exact envW_nil | exact heapW_nil | refine envW_cons rfl rfl ?_ | refine heapW_cons rfl rfl rfl ?_)) rfl ?_
    · exact ⟨Int.le_refl _, h1.2.1, by simp⟩
    rintro ⟨k, u⟩ hI
    try dsimp only at hI
    try dsimp only
    obtain ⟨hk1, hk2, hu⟩ := hI
    have hpb := pre_bd' hbdC C[j].1.toNat k.toNat (by omega) (by omega)
    by_cases hkl : k < C[j].2
    · have hel := hbdC k.toNat (by omega)
      have hps := pre_succ l.chip k.toNat (by omega)
      repeat' (first
        | ((with_reducible apply aw_seq))
        | ((with_reducible apply aw_region))
        | ((with_reducible apply aw_block))
        | ((with_reducible apply thn_normal))
        | ((with_reducible apply inb_normal))
        | ((with_reducible apply aw_skip))
        | ((with_reducible apply ao_nil))
        | ((with_reducible apply r_move); exact rfl; exact rfl)
        | ((with_reducible apply r_assign); exact rfl; exact rfl)
        | ((with_reducible apply r_field_p); exact rfl; exact rfl)
        | ((with_reducible apply r_load_p); exact rfl; exact rfl; exact rfl; exact rfl)
        | ((with_reducible apply r_lss); exact rfl; exact rfl; exact rfl)
        | ((with_reducible apply r_add); exact rfl; exact rfl; exact (by first | assumption | (unfold fits; omega)); exact rfl)
        | ((with_reducible apply r_index_f); exact rfl; exact inferInstance; exact rfl; exact rfl; (first | assumption | omega); exact rfl)
        | ((with_reducible apply r_index_f); exact rfl; exact inferInstance; exact rfl; exact (Int.toNat_of_nonneg (by omega)).symm; (first | assumption | omega); exact rfl)
        | ((with_reducible apply r_load_f0); exact rfl; exact inferInstance; exact List.getElem?_eq_getElem (by first | assumption | omega); exact rfl; exact rfl)
        | ((with_reducible apply r_load_f); exact rfl; exact inferInstance; exact List.getElem?_eq_getElem (by first | assumption | omega); exact rfl; exact rfl; exact rfl)
        | ((with_reducible apply r_field_e); exact rfl; exact rfl)
        | (((with_reducible apply aw_cond); exact rfl) <;> intro hg <;> (first | (exact absurd hg (by decide)) | ((try simp only [decide_eq_true_eq, decide_eq_false_iff_not, Bool.not_eq_true', Bool.not_eq_false', Bool.not_true, Bool.not_false, Bool.not_not, Int.not_lt, Int.not_le, Nat.not_lt, Nat.not_le, gt_iff_lt, ge_iff_le, List.cons.injEq, and_true] at hg); first | (exact absurd trivial hg) | (exfalso; omega) | (have hT : True := hg; clear hT hg) | skip)))
        )
      refine ⟨(k + 1, u + l.chip[k.toNat]), ?_, ?_, by refine weak_mk rfl ?_ ?_ <;> repeat (first | exact envW_nil | exact heapW_nil | refine envW_cons rfl rfl ?_ | refine heapW_cons rfl rfl rfl ?_)⟩
      · show (_ - (k + 1)).toNat < (_ - k).toNat; omega
      · refine ⟨by show _ ≤ k + 1; omega, by show k + 1 ≤ _; omega, ?_⟩
        show _ = t + (pre l.chip (k + 1).toNat - _)
        rw [show (k + 1).toNat = k.toNat + 1 by omega, hps]; omega
    · skip
      repeat' (first
        | ((with_reducible apply aw_seq))
        | ((with_reducible apply aw_region))
        | ((with_reducible apply thn_normal))
        | ((with_reducible apply thn_exit))
        | ((with_reducible apply inb_normal))
        | ((with_reducible apply inb_exit))
        | ((with_reducible apply aw_exit))
        | ((with_reducible apply ao_nil))
        | ((with_reducible apply r_move); exact rfl; exact rfl)
        | ((with_reducible apply r_assign); exact rfl; exact rfl)
        | ((with_reducible apply r_lss); exact rfl; exact rfl; exact rfl)
        | ((with_reducible apply r_add); exact rfl; exact rfl; exact (by first | assumption | (unfold fits; omega)); exact rfl)
        | ((with_reducible apply r_index_f); exact rfl; exact inferInstance; exact rfl; exact rfl; (first | assumption | omega); exact rfl)
        | ((with_reducible apply r_load_f); exact rfl; exact inferInstance; exact List.getElem?_eq_getElem (by first | assumption | omega); exact rfl; exact rfl; exact rfl)
        | ((with_reducible apply r_field_e); exact rfl; exact rfl)
        | (((with_reducible apply aw_cond); exact rfl) <;> intro hg <;> (first | (exact absurd hg (by decide)) | ((try simp only [decide_eq_true_eq, decide_eq_false_iff_not, Bool.not_eq_true', Bool.not_eq_false', Bool.not_true, Bool.not_false, Bool.not_not, Int.not_lt, Int.not_le, Nat.not_lt, Nat.not_le, gt_iff_lt, ge_iff_le, List.cons.injEq, and_true] at hg); first | (exact absurd trivial hg) | (exfalso; omega) | (have hT : True := hg; clear hT hg) | skip)))
        )
      refine ⟨(j + 1, u), ?_, ?_, by refine weak_mk rfl ?_ ?_ <;> repeat (first | exact envW_nil | exact heapW_nil | refine envW_cons rfl rfl ?_ | refine heapW_cons rfl rfl rfl ?_)⟩
      · show _ - (j + 1) < _ - j; omega
      · refine ⟨by show j + 1 ≤ _; omega, ?_⟩
        show u = (0 + sumSp l.dust D) + sumSp l.chip (C.take (j + 1))
        rw [hsu, hu, ht]
        unfold spV
        rw [show k = C[j].2 by omega]; omega
  obtain rfl : j = C.length := by omega
  rw [List.take_length] at ht
  subst ht
  repeat' (first
    | ((with_reducible apply aw_seq))
    | ((with_reducible apply aw_region))
    | ((with_reducible apply aw_block))
    | ((with_reducible apply thn_normal))
    | ((with_reducible apply thn_exit))
    | ((with_reducible apply inb_exit))
    | ((with_reducible apply aw_exit))
    | ((with_reducible apply ao_nil))
    | ((with_reducible apply r_move); exact rfl; exact rfl)
    | ((with_reducible apply r_assign); exact rfl; exact rfl)
    | ((with_reducible apply r_lss); exact rfl; exact rfl; exact rfl)
    | ((with_reducible apply r_len_f); exact rfl; exact inferInstance; exact rfl)
    | (((with_reducible apply aw_cond); exact rfl) <;> intro hg <;> (first | (exact absurd hg (by decide)) | ((try simp only [decide_eq_true_eq, decide_eq_false_iff_not, Bool.not_eq_true', Bool.not_eq_false', Bool.not_true, Bool.not_false, Bool.not_not, Int.not_lt, Int.not_le, Nat.not_lt, Nat.not_le, gt_iff_lt, ge_iff_le, List.cons.injEq, and_true] at hg); first | (exact absurd trivial hg) | (exfalso; omega) | (have hT : True := hg; clear hT hg) | skip)))
    )
  refine aw_loopG (G := Nat × Int × List Int) (fun ((j, t, s) : Nat × Int × List Int) => j ≤ p.length ∧ t = 0 + sumSp l.dust D + sumSp l.chip C + gsum l (p.take j) ∧ Is s m (fun k => 0 + cntS D k + cntS C k + cntP l (p.take j) k)) (fun ((j, t, s) : Nat × Int × List Int) => p.length - j) (fun ((j, t, s) : Nat × Int × List Int) => [(1, .c (LP p)), (2, .ptr 0 0), (8, A (sumSp l.dust D + sumSp l.chip C + gsum l p)), (10, .vec 1 m), (11, A t), (16, A j)]) (fun ((j, t, s) : Nat × Int × List Int) => [(1, some (.vec 3 1 (s.flatMap inC))), (0, some (lineB l))]) 2 (0, 0 + sumSp l.dust D + sumSp l.chip C, s2) ?_ (by refine weak_mk rfl ?_ ?_ <;> repeat (first | exact envW_nil | exact heapW_nil | refine envW_cons rfl rfl ?_ | refine heapW_cons rfl rfl rfl ?_)) rfl ?_
  · exact ⟨Nat.zero_le _, by simp [gsum], by simpa [cntP] using hI2⟩
  rintro ⟨j, t, s⟩ hI
  try dsimp only at hI
  try dsimp only
  obtain ⟨hj, ht, hs⟩ := hI
  have hsl := hs.1
  by_cases hjl : j < p.length
  · obtain ⟨e', hpm⟩ := g.pm p[j] (List.getElem_mem hjl)
    obtain ⟨q1, q2, h1, h2, h3, h4, h5, h6, h7, h8, h9⟩ := piece_ok g.v (s := p[j].1) (p := p[j].2) hpm
    have hgs := gsum_succ l p j hjl
    have hgb := gsum_bd g.v g.pm j hj
    have hz := v.size _ h1
    repeat' (first
      | ((with_reducible apply aw_seq))
      | ((with_reducible apply aw_region))
      | ((with_reducible apply aw_block))
      | ((with_reducible apply thn_normal))
      | ((with_reducible apply aw_skip))
      | ((with_reducible apply ao_nil))
      | ((with_reducible apply r_move); exact rfl; exact rfl)
      | ((with_reducible apply r_assign); exact rfl; exact rfl)
      | ((with_reducible apply r_field_p); exact rfl; exact rfl)
      | ((with_reducible apply r_load_p); exact rfl; exact rfl; exact rfl; exact rfl)
      | ((with_reducible apply r_lss); exact rfl; exact rfl; exact rfl)
      | ((with_reducible apply r_gtr); exact rfl; exact rfl; exact rfl)
      | ((with_reducible apply r_geq); exact rfl; exact rfl; exact rfl)
      | ((with_reducible apply r_add); exact rfl; exact rfl; exact (by first | assumption | (unfold fits; omega)); exact rfl)
      | ((with_reducible apply r_pick_f); exact rfl; exact rfl; exact rfl)
      | ((with_reducible apply r_len_f); exact rfl; exact inferInstance; exact rfl)
      | ((with_reducible apply r_index_f); exact rfl; exact inferInstance; exact rfl; exact rfl; (first | assumption | omega); exact rfl)
      | ((with_reducible apply r_index_f); exact rfl; exact inferInstance; exact rfl; exact (Int.toNat_of_nonneg (by omega)).symm; (first | assumption | omega); exact rfl)
      | ((with_reducible apply r_load_f0); exact rfl; exact inferInstance; exact List.getElem?_eq_getElem (by first | assumption | omega); exact rfl; exact rfl)
      | ((with_reducible apply r_load_f); exact rfl; exact inferInstance; exact List.getElem?_eq_getElem (by first | assumption | omega); exact rfl; exact rfl; exact rfl)
      | ((with_reducible apply r_field_e); exact rfl; exact rfl)
      | (((with_reducible apply aw_cond); exact rfl) <;> intro hg <;> (first | (exact absurd hg (by decide)) | ((try simp only [decide_eq_true_eq, decide_eq_false_iff_not, Bool.not_eq_true', Bool.not_eq_false', Bool.not_true, Bool.not_false, Bool.not_not, Int.not_lt, Int.not_le, Nat.not_lt, Nat.not_le, gt_iff_lt, ge_iff_le, List.cons.injEq, and_true] at hg); first | (exact absurd trivial hg) | (exfalso; omega) | (have hT : True := hg; clear hT hg) | skip)))
      | (refine aw_drawq ?_ ?_; (kernel_rfl))
      | ((with_reducible apply ds_nil))
      | (((with_reducible apply rd_guard); exact rfl; exact rfl; exact rfl) <;> intro hg <;> (first | (exact absurd hg (by decide)) | ((try rw [hg]); (try simp only [decide_eq_true_eq, decide_eq_false_iff_not, Bool.not_eq_true', Bool.not_eq_false', Bool.not_true, Bool.not_false, Bool.not_not, Int.not_lt, Int.not_le, Nat.not_lt, Nat.not_le, gt_iff_lt, ge_iff_le, List.cons.injEq, and_true] at hg); first | (exact absurd trivial hg) | (exfalso; omega) | (have hT : True := hg; clear hT hg) | skip)))
      )
    refine aw_loopG (G := Int × List Int) (fun ((k, u) : Int × List Int) => p[j].2 ≤ k ∧ k ≤ p[j].2 + l.sizes[p[j].1.toNat] ∧ Is u m (fun q => 0 + cntS D q + cntS C q + cntP l (p.take j) q + ind p[j].2 k q)) (fun ((k, u) : Int × List Int) => (p[j].2 + l.sizes[p[j].1.toNat] - k).toNat) (fun ((k, u) : Int × List Int) => [(1, .c (LP p)), (2, .ptr 0 0), (8, A (sumSp l.dust D + sumSp l.chip C + gsum l p)), (10, .vec 1 m), (11, A t), (16, A j), (17, A (p[j].2 + l.sizes[p[j].1.toNat])), (18, A k)]) (fun ((k, u) : Int × List Int) => [(1, some (.vec 3 1 (u.flatMap inC))), (0, some (lineB l))]) 2 (p[j].2, s) ?_ (by refine weak_mk rfl ?_ ?_ <;> repeat (first | exact envW_nil | exact heapW_nil | refine envW_cons rfl rfl ?_ | refine heapW_cons rfl rfl rfl ?_)) rfl ?_
    · refine ⟨Int.le_refl _, by show p[j].2 ≤ p[j].2 + l.sizes[p[j].1.toNat]; omega, ?_⟩
      have e : (fun q => 0 + cntS D q + cntS C q + cntP l (p.take j) q + ind p[j].2 p[j].2 q) = fun q => 0 + cntS D q + cntS C q + cntP l (p.take j) q := by
        funext q; unfold ind; rw [if_neg (by omega)]; omega
      show Is s m _
      rw [e]; exact hs
    rintro ⟨k, u⟩ hI
    try dsimp only at hI
    try dsimp only
    obtain ⟨hk1, hk2, hu⟩ := hI
    have hul := hu.1
    by_cases hkl : k < p[j].2 + l.sizes[p[j].1.toNat]
    · have hget : u[k.toNat] = 0 + cntS D (k.toNat : Int) + cntS C (k.toNat : Int) + cntP l (p.take j) (k.toNat : Int) + ind p[j].2 k (k.toNat : Int) := hu.2 k.toNat (by omega)
      have b1 := cntS_bd D (k.toNat : Int)
      have b2 := cntS_bd C (k.toNat : Int)
      have b3 := cntP_bd l (p.take j) (k.toNat : Int)
      have b4 : (p.take j).length ≤ 300 := by simp; omega
      have b5 := ind_bd p[j].2 k (k.toNat : Int)
      repeat' (first
        | ((with_reducible apply (r_store_v (enc := inC) (k := k.toNat) (l := u) ((u[k.toNat]'(by omega)) + 1))); exact rfl; exact rfl; exact inferInstance; exact hul; exact (by omega); exact rfl; exact rfl; exact rfl; exact rfl)
        | ((with_reducible apply aw_seq))
        | ((with_reducible apply aw_region))
        | ((with_reducible apply aw_block))
        | ((with_reducible apply thn_normal))
        | ((with_reducible apply inb_normal))
        | ((with_reducible apply aw_skip))
        | ((with_reducible apply ao_nil))
        | ((with_reducible apply r_move); exact rfl; exact rfl)
        | ((with_reducible apply r_assign); exact rfl; exact rfl)
        | ((with_reducible apply r_lss); exact rfl; exact rfl; exact rfl)
        | ((with_reducible apply r_add); exact rfl; exact rfl; exact (by first | assumption | (unfold fits; omega)); exact rfl)
        | ((with_reducible apply r_index_vf); exact rfl; exact rfl; exact inferInstance; (first | exact rfl | assumption | omega); exact rfl; exact (Int.toNat_of_nonneg (by omega)).symm; (first | assumption | omega); exact rfl)
        | ((with_reducible apply r_load_vf0); exact rfl; exact rfl; exact inferInstance; (first | exact rfl | assumption | omega); exact List.getElem?_eq_getElem (by first | assumption | omega); exact rfl; exact rfl)
        | (((with_reducible apply aw_cond); exact rfl) <;> intro hg <;> (first | (exact absurd hg (by decide)) | ((try simp only [decide_eq_true_eq, decide_eq_false_iff_not, Bool.not_eq_true', Bool.not_eq_false', Bool.not_true, Bool.not_false, Bool.not_not, Int.not_lt, Int.not_le, Nat.not_lt, Nat.not_le, gt_iff_lt, ge_iff_le, List.cons.injEq, and_true] at hg); first | (exact absurd trivial hg) | (exfalso; omega) | (have hT : True := hg; clear hT hg) | skip)))
        )
      refine ⟨(k + 1, u.set k.toNat ((u[k.toNat]'(by omega)) + 1)), ?_, ?_, by refine weak_mk rfl ?_ ?_ <;> repeat (first | exact envW_nil | exact heapW_nil | refine envW_cons rfl rfl ?_ | refine heapW_cons rfl rfl rfl ?_)⟩
      · show (_ - (k + 1)).toNat < (_ - k).toNat; omega
      · refine ⟨by show p[j].2 ≤ k + 1; omega, by show k + 1 ≤ p[j].2 + l.sizes[p[j].1.toNat]; omega, ?_⟩
        refine hu.up k.toNat (by omega) (fun i hi => ?_)
        dsimp only
        have e : ind p[j].2 (k + 1) i = ind p[j].2 k i + if i = k.toNat then 1 else 0 := by unfold ind; (repeat' split) <;> omega
        rw [e]; omega
    · skip
      repeat' (first
        | ((with_reducible apply aw_seq))
        | ((with_reducible apply aw_region))
        | ((with_reducible apply thn_normal))
        | ((with_reducible apply thn_exit))
        | ((with_reducible apply inb_normal))
        | ((with_reducible apply inb_exit))
        | ((with_reducible apply aw_exit))
        | ((with_reducible apply ao_nil))
        | ((with_reducible apply r_move); exact rfl; exact rfl)
        | ((with_reducible apply r_assign); exact rfl; exact rfl)
        | ((with_reducible apply r_field_p); exact rfl; exact rfl)
        | ((with_reducible apply r_load_p); exact rfl; exact rfl; exact rfl; exact rfl)
        | ((with_reducible apply r_lss); exact rfl; exact rfl; exact rfl)
        | ((with_reducible apply r_add); exact rfl; exact rfl; exact (by first | assumption | (unfold fits; omega)); exact rfl)
        | ((with_reducible apply r_index_f); exact rfl; exact inferInstance; exact rfl; exact rfl; (first | assumption | omega); exact rfl)
        | ((with_reducible apply r_index_f); exact rfl; exact inferInstance; exact rfl; exact (Int.toNat_of_nonneg (by omega)).symm; (first | assumption | omega); exact rfl)
        | ((with_reducible apply r_load_f0); exact rfl; exact inferInstance; exact List.getElem?_eq_getElem (by first | assumption | omega); exact rfl; exact rfl)
        | ((with_reducible apply r_load_f); exact rfl; exact inferInstance; exact List.getElem?_eq_getElem (by first | assumption | omega); exact rfl; exact rfl; exact rfl)
        | ((with_reducible apply r_field_e); exact rfl; exact rfl)
        | (((with_reducible apply aw_cond); exact rfl) <;> intro hg <;> (first | (exact absurd hg (by decide)) | ((try simp only [decide_eq_true_eq, decide_eq_false_iff_not, Bool.not_eq_true', Bool.not_eq_false', Bool.not_true, Bool.not_false, Bool.not_not, Int.not_lt, Int.not_le, Nat.not_lt, Nat.not_le, gt_iff_lt, ge_iff_le, List.cons.injEq, and_true] at hg); first | (exact absurd trivial hg) | (exfalso; omega) | (have hT : True := hg; clear hT hg) | skip)))
        | (refine aw_drawq ?_ ?_; (kernel_rfl))
        | ((with_reducible apply ds_nil))
        )
      refine ⟨(j + 1, t + l.gain[p[j].1.toNat][p[j].2.toNat], u), ?_, ?_, by refine weak_mk rfl ?_ ?_ <;> repeat (first | exact envW_nil | exact heapW_nil | refine envW_cons rfl rfl ?_ | refine heapW_cons rfl rfl rfl ?_)⟩
      · show _ - (j + 1) < _ - j; omega
      · refine ⟨by show j + 1 ≤ _; omega, by show t + l.gain[p[j].1.toNat][p[j].2.toNat] = 0 + sumSp l.dust D + sumSp l.chip C + gsum l (p.take (j + 1)); rw [hgs, ht, h4]; omega, ?_⟩
        have e : (fun q => 0 + cntS D q + cntS C q + cntP l (p.take (j + 1)) q) = fun q => 0 + cntS D q + cntS C q + cntP l (p.take j) q + ind p[j].2 k q := by
          funext q; rw [cntP_succ l p j hjl, h7, show k = p[j].2 + l.sizes[p[j].1.toNat] by omega]; omega
        show Is u m (fun q => 0 + cntS D q + cntS C q + cntP l (p.take (j + 1)) q)
        rw [e]; exact hu
  obtain rfl : j = p.length := by omega
  rw [List.take_length] at ht hs
  have hone : ∀ i (h : i < s.length), s[i] = 1 := fun i hi => by
    have h1 : s[i] = 0 + cntS D i + cntS C i + cntP l p i := hs.2 i hi
    have h2 := hcn i (by omega) (by omega)
    omega
  repeat' (first
    | ((with_reducible apply aw_seq))
    | ((with_reducible apply aw_region))
    | ((with_reducible apply aw_block))
    | ((with_reducible apply thn_normal))
    | ((with_reducible apply thn_exit))
    | ((with_reducible apply inb_exit))
    | ((with_reducible apply aw_exit))
    | ((with_reducible apply ao_nil))
    | ((with_reducible apply r_move); exact rfl; exact rfl)
    | ((with_reducible apply r_assign); exact rfl; exact rfl)
    | ((with_reducible apply r_lss); exact rfl; exact rfl; exact rfl)
    | ((with_reducible apply r_len_f); exact rfl; exact inferInstance; exact rfl)
    | (((with_reducible apply aw_cond); exact rfl) <;> intro hg <;> (first | (exact absurd hg (by decide)) | ((try simp only [decide_eq_true_eq, decide_eq_false_iff_not, Bool.not_eq_true', Bool.not_eq_false', Bool.not_true, Bool.not_false, Bool.not_not, Int.not_lt, Int.not_le, Nat.not_lt, Nat.not_le, gt_iff_lt, ge_iff_le, List.cons.injEq, and_true] at hg); first | (exact absurd trivial hg) | (exfalso; omega) | (have hT : True := hg; clear hT hg) | skip)))
    )
  refine aw_loopG (G := Nat) (fun (i : Nat) => i ≤ m) (fun (i : Nat) => m - i) (fun (i : Nat) => [(8, A (sumSp l.dust D + sumSp l.chip C + gsum l p)), (10, .vec 1 m), (11, A t), (19, A i)]) (fun (i : Nat) => [(1, some (.vec 3 1 (s.flatMap inC))), (0, some (lineB l))]) 2 0 ?_ (by refine weak_mk rfl ?_ ?_ <;> repeat (first | exact envW_nil | exact heapW_nil | refine envW_cons rfl rfl ?_ | refine heapW_cons rfl rfl rfl ?_)) rfl ?_
  · exact Nat.zero_le _
  rintro i hI
  try dsimp only at hI
  try dsimp only
  have him : i ≤ m := hI
  by_cases hil : i < m
  · have h1 := hone i (by omega)
    repeat' (first
      | ((with_reducible apply aw_seq))
      | ((with_reducible apply aw_region))
      | ((with_reducible apply aw_block))
      | ((with_reducible apply thn_normal))
      | ((with_reducible apply inb_normal))
      | ((with_reducible apply aw_skip))
      | ((with_reducible apply ao_nil))
      | ((with_reducible apply r_move); exact rfl; exact rfl)
      | ((with_reducible apply r_assign); exact rfl; exact rfl)
      | ((with_reducible apply r_lss); exact rfl; exact rfl; exact rfl)
      | ((with_reducible apply r_neq); exact rfl; exact rfl; exact rfl)
      | ((with_reducible apply r_add); exact rfl; exact rfl; exact (by first | assumption | (unfold fits; omega)); exact rfl)
      | ((with_reducible apply r_index_vf); exact rfl; exact rfl; exact inferInstance; (first | exact rfl | assumption | omega); exact rfl; exact rfl; (first | assumption | omega); exact rfl)
      | ((with_reducible apply r_load_vf0); exact rfl; exact rfl; exact inferInstance; (first | exact rfl | assumption | omega); exact List.getElem?_eq_getElem (by first | assumption | omega); exact rfl; exact rfl)
      | ((with_reducible apply r_len_v); exact rfl; exact rfl; (first | (exact flat_len EncL.len _) | (rw [flat_len EncL.len]; first | assumption | omega | (congr 1; omega))); exact rfl)
      | (((with_reducible apply aw_cond); exact rfl) <;> intro hg <;> (first | (exact absurd hg (by decide)) | ((try simp only [decide_eq_true_eq, decide_eq_false_iff_not, Bool.not_eq_true', Bool.not_eq_false', Bool.not_true, Bool.not_false, Bool.not_not, Int.not_lt, Int.not_le, Nat.not_lt, Nat.not_le, gt_iff_lt, ge_iff_le, List.cons.injEq, and_true] at hg); first | (exact absurd trivial hg) | (exfalso; omega) | (have hT : True := hg; clear hT hg) | skip)))
      )
    refine ⟨i + 1, ?_, ?_, by refine weak_mk rfl ?_ ?_ <;> repeat (first | exact envW_nil | exact heapW_nil | refine envW_cons rfl rfl ?_ | refine heapW_cons rfl rfl rfl ?_)⟩
    · show _ - (i + 1) < _ - i; omega
    · show i + 1 ≤ _; omega
  · skip
    repeat' (first
      | ((with_reducible apply r_call); exact rfl; exact rfl; (first | exact awake_con); exact rfl; exact rfl)
      | ((with_reducible apply aw_seq))
      | ((with_reducible apply aw_region))
      | ((with_reducible apply thn_normal))
      | ((with_reducible apply thn_exit))
      | ((with_reducible apply inb_exit))
      | ((with_reducible apply aw_exit))
      | ((with_reducible apply aw_ret))
      | ((with_reducible apply ao_nil))
      | ((with_reducible apply r_move); exact rfl; exact rfl)
      | ((with_reducible apply r_assign); exact rfl; exact rfl)
      | ((with_reducible apply r_lss); exact rfl; exact rfl; exact rfl)
      | ((with_reducible apply r_eql); exact rfl; exact rfl; exact rfl)
      | ((with_reducible apply r_pick_t); exact rfl; exact rfl; exact rfl)
      | ((with_reducible apply r_len_v); exact rfl; exact rfl; (first | (exact flat_len EncL.len _) | (rw [flat_len EncL.len]; first | assumption | omega | (congr 1; omega))); exact rfl)
      | (((with_reducible apply r_guard); exact rfl; exact rfl; exact rfl; exact rfl) <;> intro hg <;> (first | (exact absurd hg (by decide)) | ((try simp only [decide_eq_true_eq, decide_eq_false_iff_not, Bool.not_eq_true', Bool.not_eq_false', Bool.not_true, Bool.not_false, Bool.not_not, Int.not_lt, Int.not_le, Nat.not_lt, Nat.not_le, gt_iff_lt, ge_iff_le, List.cons.injEq, and_true] at hg); first | (exact absurd trivial hg) | (exfalso; omega) | (have hT : True := hg; clear hT hg) | skip)))
      | (((with_reducible apply aw_cond); exact rfl) <;> intro hg <;> (first | (exact absurd hg (by decide)) | ((try simp only [decide_eq_true_eq, decide_eq_false_iff_not, Bool.not_eq_true', Bool.not_eq_false', Bool.not_true, Bool.not_false, Bool.not_not, Int.not_lt, Int.not_le, Nat.not_lt, Nat.not_le, gt_iff_lt, ge_iff_le, List.cons.injEq, and_true] at hg); first | (exact absurd trivial hg) | (exfalso; omega) | (have hT : True := hg; clear hT hg) | skip)))
      )
    all_goals first | exact ret_b rfl rfl | (exfalso; omega) | trace_state
theorem parts_law (l : Line) (h : l.gain.length ≤ maxLen ∧ ((Lit.int .i64 l.len).wf = true ∧ l.sizes.length ≤ maxLen ∧ l.chip.length ≤ maxLen ∧ l.dust.length ≤ maxLen)) (p : List Piece) (_ : p.length ≤ maxLen) : Con Tryd.prog G 8 [lineC l, LP p] T := partsLaw_con l p h.1
end Go.Proofs.YtjofnmklkndhoaaDoor.Cu
