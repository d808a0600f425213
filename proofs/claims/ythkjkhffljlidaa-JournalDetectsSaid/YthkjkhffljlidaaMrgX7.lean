/- JS2 JL1 JH JI JL2 JOpen: texts laid together. -/
import Derived.Test.YthkjkhffljlidaaMrgX6
import Derived.Test.YthkjkhffljlidaaMrgX3
import Derived.Test.YthkjkhffljlidaaMrgE5
import Derived.Test.YthkjkhffljlidaaMrgF0
import Derived.Test.YthkjkhffljlidaaMrgX0
import Derived.ChangeSame
set_option maxRecDepth 100000
set_option maxHeartbeats 64000000
/- The journal: the examples of the chapter. -/
namespace Go.Proofs.Ythkjkhffljlidaa.Jo
set_option linter.unusedVariables false
set_option linter.unusedSimpArgs false
open Go.RowKit Go.Proofs.Ythkjkhffljlidaa.Ev Go.Proofs.Ythkjkhffljlidaa.Dk
variable {gl : List (Nat × List CV)}
abbrev sAB : ByteArray := ⟨#[97, 98]⟩
abbrev sA : ByteArray := ⟨#[97]⟩
abbrev sB : ByteArray := ⟨#[98]⟩
abbrev sR : ByteArray := ⟨#[46, 48, 51, 2, 97, 98]⟩
def sZ : ByteArray := ⟨(List.replicate 45 (0 : UInt8)).toArray⟩
theorem sZ_size : sZ.size = 45 := by show (List.replicate 45 (0 : UInt8)).toArray.size = 45; simp
theorem stream_one (s : ByteArray) (h : s.size < 128) : streamB [s] = ⟨(UInt8.ofNat s.size :: s.data.toList).toArray⟩ := by
  apply ba_eq
  show streamL [s] = _
  unfold streamL textS uvarS
  simp only [List.flatMap_cons, List.flatMap_nil]
  rw [uvar_lo h, ba_app, List.append_nil]
  rfl
theorem div_ab : (divS 0 [sAB]).1 = [hexS (chainS 0 sR) ++ sR] ∧ (divS 0 [sAB]).2.2 = 0 := by
  have hc : chkS [sAB] = 0 := by decide +kernel
  have hs : streamB [sAB] = ⟨#[2, 97, 98]⟩ := stream_one sAB (by decide)
  have hr : restN 46 3 ⟨#[2, 97, 98]⟩ = sR := by decide +kernel
  unfold divS
  rw [hc, if_neg (by decide), hs, divB_one (by decide) (by decide)]
  show [hexS (chainS 0 (restN 46 3 ⟨#[2, 97, 98]⟩)) ++ restN 46 3 ⟨#[2, 97, 98]⟩] = _ ∧ (0 : Int) = 0
  rw [hr]
  exact ⟨rfl, rfl⟩
theorem div_two : (divS 0 [sA, sB]).1.length = 1 ∧ (divS 0 [sA, sB]).2.2 = 0 := by
  have hc : chkS [sA, sB] = 0 := by decide +kernel
  have hs : streamB [sA, sB] = ⟨#[1, 97, 1, 98]⟩ := by
    apply ba_eq
    show streamL [sA, sB] = _
    unfold streamL textS uvarS
    simp only [List.flatMap_cons, List.flatMap_nil]
    rw [uvar_lo (by decide), uvar_lo (by decide)]
    rfl
  unfold divS
  rw [hc, if_neg (by decide), hs]
  refine ⟨?_, rfl⟩
  show (divB 0 ⟨#[1, 97, 1, 98]⟩).1.length = 1
  rw [divB_length 4 0 _ (by decide)]
  rfl
theorem div_long (prev : Nat) : (divS prev [sZ]).1.length = 2 ∧ (divS prev [sZ]).2.2 = 0 := by
  have hc : chkS [sZ] = 0 := by
    unfold chkS
    rw [if_neg (by simp), if_neg (by simp), any_not (fun i hi => by
      have : i = 0 := by simpa using hi
      subst this
      show sZ.size ≤ _
      rw [sZ_size]; omega)]
    rfl
  have hsz : (streamB [sZ]).size = 46 := by
    rw [stream_one sZ (by rw [sZ_size]; omega)]
    show (UInt8.ofNat sZ.size :: sZ.data.toList).toArray.size = 46
    rw [List.size_toArray, List.length_cons, ba_size, sZ_size]
  unfold divS
  rw [hc, if_neg (by decide)]
  refine ⟨?_, rfl⟩
  show (divB prev (streamB [sZ])).1.length = 2
  rw [divB_length 46 _ _ (by omega), hsz]
theorem app_quiet {t : JS} {d : DS} {g : List ByteArray} (ht : t.stop = false) (hq : Quiet d) (he : (divS t.head g).2.2 = 0) (hl : t.used + (divS t.head g).1.length ≤ d.blocks.length) :
    appS t d g = (t.add g (t.used + (divS t.head g).1.length) (divS t.head g).2.1, { d with blocks := putAt d.blocks t.used (divS t.head g).1 }, 0) := by
  unfold appS
  rw [ht, if_neg (by decide), if_neg (by rw [he]; decide), if_neg (by omega), writeS_quiet hq hl (divS_size _ _)]
  rfl
theorem app_full {t : JS} {d : DS} {g : List ByteArray} (ht : t.stop = false) (he : (divS t.head g).2.2 = 0) (hl : d.blocks.length < t.used + (divS t.head g).1.length) : appS t d g = (t, d, 12) := by
  unfold appS
  rw [ht, if_neg (by decide), if_neg (by rw [he]; decide), if_pos hl]
theorem awake_con : Con Try.prog gl 11 [] T := by
  have b0 := blocks_con (gl := gl) 0 (by decide) [sAB] (by decide)
  obtain ⟨a1, a2⟩ := div_ab
  rw [a1, a2] at b0
  have b1 := blocks_con (gl := gl) 0 (by decide) [sZ] (by decide)
  obtain ⟨a3, a4⟩ := div_long 0
  rw [a4] at b1
  generalize (divS 0 [sZ]).1 = m at b1 a3
  have k0 := chain_con (gl := gl) 0 (by decide) sR (by decide)
  have hcl := chainS_lt 0 sR
  have k1 := hex_con (gl := gl) (chainS 0 sR) hcl
  have hhs := hexS_size (chainS 0 sR)
  have hxx : ((hexS (chainS 0 sR) ++ sR).toList == (hexS (chainS 0 sR) ++ sR).toList) = true := by simp
  generalize chainS 0 sR = q at b0 k0 k1 hcl hhs hxx
  generalize hexS q = x at b0 k1 hhs hxx
  generalize hL : [x ++ sR] = l at b0
  have hl : l.length = 1 := by rw [← hL]; rfl
  have hl0 : ((l[Int.toNat 0]'(by rw [hl]; decide)).toList == (x ++ sR).toList) = true := by subst hL; exact hxx
  clear hL hxx
  obtain ⟨a5, a6⟩ := div_two
  have hap := app_quiet (t := J0) (d := DS.new 2) (g := [sA, sB]) rfl (new_quiet 2) a6 (by rw [a5]; decide)
  rw [a5] at hap
  have hlt := divS_lt 0 [sA, sB] (by decide)
  refine con_of Try.func11 rfl (by kernel_rfl) rfl ?_
  simp only [Try.ntmps11, Try.results11, argEnv, ofC, of1, List.map]
  repeat' (first
 | ((with_reducible apply r_litq); exact rfl; exact rfl; exact rfl; exact rfl; exact rfl; exact rfl; exact rfl)
 | ((with_reducible apply (r_call (f := 12))); exact rfl; exact rfl; exact b0; exact rfl; exact rfl)
 | ((with_reducible apply aw_seq))
 | ((with_reducible apply aw_region))
 | ((with_reducible apply thn_normal))
 | ((with_reducible apply ao_nil))
 | ((with_reducible apply r_move); exact rfl; exact rfl)
 | ((with_reducible apply r_assign); exact rfl; exact rfl)
 | ((with_reducible apply r_extract); exact rfl; exact rfl; exact rfl)
 )
  refine r_callNE (open_law 2 (by decide)) rfl ⟨.inl rfl, trivial⟩ rfl ?_
  rintro ⟨kd, kj⟩
  have r0 : OCon Try.prog gl 18 [.c (ptrV kj 0)] (DJ (DS.new 2) 0 kd kj J0) (I 2) (DJ (DS.new 2) 0 kd kj J0) := room_dj (gl := gl) (DS.new 2) 0 kd kj J0 (by decide) (by decide)
  have ap := append_dj (gl := gl) (DS.new 2) 0 kd kj J0 [sA, sB] (by decide) (by decide) (by decide) (by decide) (by decide) (by decide) (by decide)
  rw [hap] at ap
  generalize (divS 0 [sA, sB]).2.1 = h1 at ap hlt
  obtain ⟨d1, hd1⟩ : ∃ d1 : DS, d1 = { DS.new 2 with blocks := putAt (DS.new 2).blocks 0 (divS 0 [sA, sB]).1 } := ⟨_, rfl⟩
  have hl1 : d1.blocks.length = 2 := by rw [hd1]; show (putAt _ _ _).length = 2; rw [putAt_len]; rfl
  change OCon _ _ _ _ _ (I 0) (DJ { DS.new 2 with blocks := putAt (DS.new 2).blocks 0 (divS 0 [sA, sB]).1 } 5000 kd kj ⟨[[sA, sB]], 1, h1, false⟩) at ap
  rw [← hd1] at ap
  clear hd1 hap
  have r1 := room_dj (gl := gl) d1 5000 kd kj ⟨[[sA, sB]], 1, h1, false⟩ (by omega) (show 1 ≤ 1000000 by decide)
  rw [hl1] at r1
  have r1 : OCon Try.prog gl 18 [.c (ptrV kj 0)] (DJ d1 5000 kd kj ⟨[[sA, sB]], 1, h1, false⟩) (I 1) (DJ d1 5000 kd kj ⟨[[sA, sB]], 1, h1, false⟩) := r1
  have g1 : OCon Try.prog gl 32 [.c (ptrV kj 0)] (DJ d1 5000 kd kj ⟨[[sA, sB]], 1, h1, false⟩) (I 1) (DJ d1 5000 kd kj ⟨[[sA, sB]], 1, h1, false⟩) := (groups_j (gl := gl) kd ⟨[[sA, sB]], 1, h1, false⟩).right ((dskP d1 5000).at kd) kj
  have e1 := (records_j (gl := gl) kd ⟨[[sA, sB]], 1, h1, false⟩ (show [[sA, sB]].flatten.length ≤ 1000000000 by decide)).right ((dskP d1 5000).at kd) kj
  have s1 := same_con (gl := gl) [sA, sB] [sA, sB] (by decide) (by decide)
  rw [decide_eq_true rfl] at s1
  obtain ⟨a7, a8⟩ := div_long h1
  have af := append_dj (gl := gl) d1 5000 kd kj ⟨[[sA, sB]], 1, h1, false⟩ [sZ] (by decide) (by omega) (show 1 ≤ 4096 by decide) hlt (by decide) (show [[sA, sB]].flatten.length ≤ 100000000 by decide) (show 1 ≤ 100000000 by decide)
  rw [app_full (t := ⟨[[sA, sB]], 1, h1, false⟩) rfl a8 (by rw [a7, hl1]; show 2 < 1 + 2; decide)] at af
  repeat' (first
 | ((with_reducible apply (r_call (f := 41))); exact rfl; exact rfl; exact k0; exact rfl; exact rfl)
 | ((with_reducible apply (r_call (f := 40))); exact rfl; exact rfl; exact k1; exact rfl; exact rfl)
 | ((with_reducible apply r_adds); exact rfl; exact rfl; exact (by rw [hhs]; decide); exact rfl)
 | ((with_reducible apply r_neqstr_v); exact rfl; exact rfl; exact hl0; exact rfl)
 | ((with_reducible apply r_eqnilp); exact rfl; exact rfl; exact rfl)
 | ((with_reducible apply r_litq); exact rfl; exact rfl; exact rfl; exact rfl; exact rfl; exact rfl; exact rfl)
 | ((with_reducible apply (r_call (f := 12))); exact rfl; exact rfl; exact b1; exact rfl; exact rfl)
 | ((with_reducible apply (r_callqO (f := 18) 0)); exact r0; exact rfl; exact rfl; exact rfl; exact rfl; exact rfl)
 | ((with_reducible apply (r_callqO (f := 18) 0)); exact r1; exact rfl; exact rfl; exact rfl; exact rfl; exact rfl)
 | ((with_reducible apply (r_callO (f := 17) 0)); exact ap; exact rfl; exact rfl; exact rfl; exact rfl)
 | ((with_reducible apply (r_callO (f := 17) 0)); exact af; exact rfl; exact rfl; exact rfl; exact rfl)
 | ((with_reducible apply (r_callqO (f := 32) 0)); exact g1; exact rfl; exact rfl; exact rfl; exact rfl; exact rfl)
 | ((with_reducible apply (r_callqO (f := 30) 0)); exact e1; exact rfl; exact rfl; exact rfl; exact rfl; exact rfl)
 | ((with_reducible apply (r_call (f := 14))); exact rfl; exact rfl; exact s1; exact rfl; exact rfl)
 | ((with_reducible apply (r_make (enc := u8C) (0 : UInt8) 45)); exact inferInstance; exact rfl; exact rfl; exact rfl; exact rfl; exact rfl; exact (by decide); exact (by decide); exact rfl)
 | ((with_reducible apply (r_strOfV (List.replicate 45 (0 : UInt8)))); exact rfl; exact rfl; exact rfl; exact (by decide); exact rfl)
 | ((with_reducible apply aw_seq))
 | ((with_reducible apply aw_region))
 | ((with_reducible apply thn_normal))
 | ((with_reducible apply aw_skip))
 | ((with_reducible apply aw_ret))
 | ((with_reducible apply ao_nil))
 | ((with_reducible apply r_move); exact rfl; exact rfl)
 | ((with_reducible apply r_assign); exact rfl; exact rfl)
 | ((with_reducible apply r_eql); exact rfl; exact rfl; exact rfl)
 | ((with_reducible apply r_neq); exact rfl; exact rfl; exact rfl)
 | ((with_reducible apply r_pick_t); exact rfl; exact rfl; exact rfl)
 | ((with_reducible apply r_pick_f); exact rfl; exact rfl; exact rfl)
 | ((with_reducible apply r_len_f); exact rfl; exact inferInstance; exact rfl)
 | ((with_reducible apply r_index_f); exact rfl; exact inferInstance; exact rfl; exact (Int.toNat_of_nonneg (by omega)).symm; (first | assumption | omega); exact rfl)
 | ((with_reducible apply r_load_f0); exact rfl; exact inferInstance; exact List.getElem?_eq_getElem (by first | assumption | omega); exact rfl; exact rfl)
 | ((with_reducible apply r_extract); exact rfl; exact rfl; exact rfl)
 | (((with_reducible apply r_guard); exact rfl; exact rfl; exact rfl; exact rfl) <;> intro hg <;> (first | (exact absurd hg (by decide)) | ((try simp only [decide_eq_true_eq, decide_eq_false_iff_not, Bool.not_eq_true', Bool.not_eq_false', Bool.not_true, Bool.not_false, Bool.not_not, Int.not_lt, Int.not_le, Nat.not_lt, Nat.not_le, gt_iff_lt, ge_iff_le, List.cons.injEq, and_true] at hg); first | (exact absurd trivial hg) | (exfalso; omega) | (have hT : True := hg; clear hT hg) | skip)))
 | (((with_reducible apply aw_cond); exact rfl) <;> intro hg <;> (first | (exact absurd hg (by decide)) | ((try simp only [decide_eq_true_eq, decide_eq_false_iff_not, Bool.not_eq_true', Bool.not_eq_false', Bool.not_true, Bool.not_false, Bool.not_not, Int.not_lt, Int.not_le, Nat.not_lt, Nat.not_le, gt_iff_lt, ge_iff_le, List.cons.injEq, and_true] at hg); first | (exact absurd trivial hg) | (exfalso; omega) | (have hT : True := hg; clear hT hg) | skip)))
 | (refine aw_drawq ?_ ?_; (kernel_rfl))
 | ((with_reducible apply ds_nil))
 | (((with_reducible apply rd_guard); exact rfl; exact rfl; exact rfl) <;> intro hg <;> (first | (exact absurd hg (by decide)) | ((try rw [hg]); (try simp only [decide_eq_true_eq, decide_eq_false_iff_not, Bool.not_eq_true', Bool.not_eq_false', Bool.not_true, Bool.not_false, Bool.not_not, Int.not_lt, Int.not_le, Nat.not_lt, Nat.not_le, gt_iff_lt, ge_iff_le, List.cons.injEq, and_true] at hg); first | (exact absurd trivial hg) | (exfalso; omega) | (have hT : True := hg; clear hT hg) | skip)))
 )
  all_goals exact ret_b rfl (by simp [a3])
end Go.Proofs.Ythkjkhffljlidaa.Jo
/- The law JournalBlocks. -/
namespace Go.Proofs.Ythkjkhffljlidaa.Jo
set_option linter.unusedVariables false
set_option linter.unusedSimpArgs false
open Go.RowKit Go.Proofs.Ythkjkhffljlidaa.Ev Go.Proofs.Ythkjkhffljlidaa.Dk
variable {gl : List (Nat × List CV)}
theorem divS_len (prev : Nat) (g : List ByteArray) : (divS prev g).1.length ≤ 600000 := by
  unfold divS
  split
  · exact Nat.zero_le _
  · rename_i h
    have h : chkS g = 0 := Decidable.not_not.1 h
    obtain ⟨_, h1, h2⟩ := chk_z h
    have h3 := streamL_len h2 g.length (Nat.le_refl _)
    rw [List.take_length] at h3
    have h4 : (streamB g).size = (streamL g).length := by show (streamL g).toArray.size = _; simp
    have := (divB_len (streamB g).size prev (streamB g) (Nat.le_refl _)).1
    show (divB prev (streamB g)).1.length ≤ _
    omega
end Go.Proofs.Ythkjkhffljlidaa.Jo
/- The journal: the reference's journal on blocks: Open, Append. -/
namespace Go.Proofs.Ythkjkhffljlidaa.Jo
set_option linter.unusedVariables false
set_option linter.unusedSimpArgs false
open Go.RowKit Go.Proofs.Ythkjkhffljlidaa.Ev
variable {gl : List (Nat × List CV)}
abbrev jV (t : JS) : CV := .agg [LG t.gr, I t.used, U t.head]
theorem ba_list (a b : ByteArray) : (⟨(a.data.toList ++ b.data.toList).toArray⟩ : ByteArray) = a ++ b := ba_eq (by rw [ba_app])
theorem ropen_con (L : List ByteArray) (hL : L.length ≤ 100000) (hs : ∀ x ∈ L, x.size ≤ 64) : Con Try.prog gl 29 [LT L] (jV (findG 0 [] 0 L J0)) := by
  refine con_of Try.func29 rfl (by kernel_rfl) rfl ?_
  simp only [Try.ntmps29, Try.results29, argEnv, ofC, of1, List.map]
  repeat' (first
 | ((with_reducible apply aw_seq))
 | ((with_reducible apply aw_region))
 | ((with_reducible apply aw_block))
 | ((with_reducible apply thn_normal))
 | ((with_reducible apply ao_nil))
 | ((with_reducible apply r_assign); exact rfl; exact rfl)
 | ((with_reducible apply r_store_pa); exact rfl; exact rfl; exact rfl; exact rfl; exact rfl; exact rfl)
 | ((with_reducible apply r_build); exact rfl; exact rfl; exact rfl)
 | ((with_reducible apply r_alloc); exact rfl)
 )
  refine aw_nilcell 1 0 23 1 rfl rfl rfl rfl ?_
  refine aw_loopG (G := Nat × Nat × ByteArray × JS) (fun ((i, h, st, t) : Nat × Nat × ByteArray × JS) => i ≤ L.length ∧ h < 2 ^ 64 ∧ st.size ≤ 45 * i ∧ t.gr.length ≤ i ∧ findG 0 [] 0 L J0 = findG h st.data.toList i (L.drop i) t) (fun ((i, h, st, t) : Nat × Nat × ByteArray × JS) => L.length - i) (fun ((i, h, st, t) : Nat × Nat × ByteArray × JS) => [(0, .c (LT L)), (2, .ptr 0 0), (3, .ptr 1 0), (4, .c (STR st)), (5, .c (U h)), (6, A i)]) (fun ((i, h, st, t) : Nat × Nat × ByteArray × JS) => [(0, some (.cells 58 [.c (.v (.slice none 0 0)), A 0, .c (U 0)])), (1, some (.cells 58 [.vec 2 t.gr.length, A t.used, .c (U t.head)])), (2, some (.vec 23 1 (t.gr.flatMap grC)))]) 3 (0, 0, ⟨#[]⟩, J0) ?_ (by refine weak_mk rfl ?_ ?_ <;> repeat (first | exact envW_nil | exact heapW_nil | refine envW_cons rfl rfl ?_ | refine heapW_cons rfl rfl rfl ?_)) rfl ?_
  · exact ⟨Nat.zero_le _, by decide, Nat.zero_le _, Nat.zero_le _, by rw [List.drop_zero]⟩
  rintro ⟨i, h, st, t⟩ hI
  try dsimp only at hI
  try dsimp only
  obtain ⟨h1, h2, h3, h5, h6⟩ := hI
  by_cases hi : i < L.length
  rotate_left
  · have e : L.drop i = [] := List.drop_eq_nil_of_le (by omega)
    rw [e, findG] at h6
    rw [h6]
    repeat' (first
 | ((with_reducible apply aw_seq))
 | ((with_reducible apply aw_region))
 | ((with_reducible apply thn_normal))
 | ((with_reducible apply thn_exit))
 | ((with_reducible apply inb_exit))
 | ((with_reducible apply aw_exit))
 | ((with_reducible apply aw_ret))
 | ((with_reducible apply ao_nil))
 | ((with_reducible apply r_move); exact rfl; exact rfl)
 | ((with_reducible apply r_load_pa); exact rfl; exact rfl; exact rfl; exact rfl; exact rfl)
 | ((with_reducible apply r_lss); exact rfl; exact rfl; exact rfl)
 | ((with_reducible apply r_len_f); exact rfl; exact inferInstance; exact rfl)
 | ((with_reducible apply r_store_pa); exact rfl; exact rfl; exact rfl; exact rfl; exact rfl; exact rfl)
 | (((with_reducible apply aw_cond); exact rfl) <;> intro hg <;> (first | (exact absurd hg (by decide)) | ((try simp only [decide_eq_true_eq, decide_eq_false_iff_not, Bool.not_eq_true', Bool.not_eq_false', Bool.not_true, Bool.not_false, Bool.not_not, Int.not_lt, Int.not_le, Nat.not_lt, Nat.not_le, gt_iff_lt, ge_iff_le, List.cons.injEq, and_true] at hg); first | (exact absurd trivial hg) | (exfalso; omega) | (have hT : True := hg; clear hT hg) | skip)))
 )
    all_goals exact ret1 (.cell_a inferInstance rfl rfl rfl rfl (cl_cons (cl_vec rfl (flat_len EncL.len _)) (cl_cons cl_c (cl_cons cl_c cl_nil))))
  have hsz := hs L[i] (List.getElem_mem hi)
  rw [List.drop_eq_getElem_cons hi] at h6
  have c0 := continues_con (gl := gl) h h2 L[i] (by omega)
  unfold conV at c0
  cases hc : contS h L[i] with
  | none =>
    rw [hc] at c0
    rw [findG_none hc] at h6
    rw [h6]
    repeat' (first
 | ((with_reducible apply (r_call (f := 22))); exact rfl; exact rfl; exact c0; exact rfl; exact rfl)
 | ((with_reducible apply aw_seq))
 | ((with_reducible apply aw_region))
 | ((with_reducible apply aw_block))
 | ((with_reducible apply thn_normal))
 | ((with_reducible apply thn_ret))
 | ((with_reducible apply inb_ret))
 | ((with_reducible apply aw_skip))
 | ((with_reducible apply aw_ret))
 | ((with_reducible apply ao_nil))
 | ((with_reducible apply r_move); exact rfl; exact rfl)
 | ((with_reducible apply r_assign); exact rfl; exact rfl)
 | ((with_reducible apply r_load_pa); exact rfl; exact rfl; exact rfl; exact rfl; exact rfl)
 | ((with_reducible apply r_lss); exact rfl; exact rfl; exact rfl)
 | ((with_reducible apply r_not); exact rfl; exact rfl)
 | ((with_reducible apply r_len_f); exact rfl; exact inferInstance; exact rfl)
 | ((with_reducible apply r_index_f); exact rfl; exact inferInstance; exact rfl; exact rfl; (first | assumption | omega); exact rfl)
 | ((with_reducible apply r_load_f0); exact rfl; exact inferInstance; exact List.getElem?_eq_getElem (by first | assumption | omega); exact rfl; exact rfl)
 | ((with_reducible apply r_store_pa); exact rfl; exact rfl; exact rfl; exact rfl; exact rfl; exact rfl)
 | ((with_reducible apply r_extract); exact rfl; exact rfl; exact rfl)
 | (((with_reducible apply aw_cond); exact rfl) <;> intro hg <;> (first | (exact absurd hg (by decide)) | ((try simp only [decide_eq_true_eq, decide_eq_false_iff_not, Bool.not_eq_true', Bool.not_eq_false', Bool.not_true, Bool.not_false, Bool.not_not, Int.not_lt, Int.not_le, Nat.not_lt, Nat.not_le, gt_iff_lt, ge_iff_le, List.cons.injEq, and_true] at hg); first | (exact absurd trivial hg) | (exfalso; omega) | (have hT : True := hg; clear hT hg) | skip)))
 )
    all_goals exact ret1 (.cell_a inferInstance rfl rfl rfl rfl (cl_cons (cl_vec rfl (flat_len EncL.len _)) (cl_cons cl_c (cl_cons cl_c cl_nil))))
  | some v =>
    obtain ⟨h', last⟩ := v
    rw [hc] at c0
    obtain ⟨b1, b2, b3⟩ := cont_bd hc
    have hps : (L[i].extract 19 L[i].size).size = L[i].size - 19 := by rw [ByteArray.size_extract]; omega
    have hst : (st ++ L[i].extract 19 L[i].size).size ≤ 45 * (i + 1) := by rw [ByteArray.size_append]; omega
    cases last with
    | false =>
      rw [findG_more hc, ← ba_app] at h6
      repeat' (first
 | ((with_reducible apply (r_call (f := 22))); exact rfl; exact rfl; exact c0; exact rfl; exact rfl)
 | ((with_reducible apply (r_cutFrom 19)); exact rfl; exact rfl; exact rfl; exact (by omega); exact rfl)
 | ((with_reducible apply r_adds); exact rfl; exact rfl; exact (by omega); exact rfl)
 | ((with_reducible apply aw_seq))
 | ((with_reducible apply aw_region))
 | ((with_reducible apply aw_block))
 | ((with_reducible apply thn_normal))
 | ((with_reducible apply inb_normal))
 | ((with_reducible apply aw_skip))
 | ((with_reducible apply ao_nil))
 | ((with_reducible apply r_move); exact rfl; exact rfl)
 | ((with_reducible apply r_assign); exact rfl; exact rfl)
 | ((with_reducible apply r_lss); exact rfl; exact rfl; exact rfl)
 | ((with_reducible apply r_add); exact rfl; exact rfl; exact (by first | assumption | (unfold fits; omega)); exact rfl)
 | ((with_reducible apply r_not); exact rfl; exact rfl)
 | ((with_reducible apply r_len_f); exact rfl; exact inferInstance; exact rfl)
 | ((with_reducible apply r_index_f); exact rfl; exact inferInstance; exact rfl; exact rfl; (first | assumption | omega); exact rfl)
 | ((with_reducible apply r_load_f0); exact rfl; exact inferInstance; exact List.getElem?_eq_getElem (by first | assumption | omega); exact rfl; exact rfl)
 | ((with_reducible apply r_extract); exact rfl; exact rfl; exact rfl)
 | (((with_reducible apply aw_cond); exact rfl) <;> intro hg <;> (first | (exact absurd hg (by decide)) | ((try simp only [decide_eq_true_eq, decide_eq_false_iff_not, Bool.not_eq_true', Bool.not_eq_false', Bool.not_true, Bool.not_false, Bool.not_not, Int.not_lt, Int.not_le, Nat.not_lt, Nat.not_le, gt_iff_lt, ge_iff_le, List.cons.injEq, and_true] at hg); first | (exact absurd trivial hg) | (exfalso; omega) | (have hT : True := hg; clear hT hg) | skip)))
 )
      refine ⟨(i + 1, h', st ++ L[i].extract 19 L[i].size, t), ?_, ?_, by refine weak_mk rfl ?_ ?_ <;> repeat (first | exact envW_nil | exact heapW_nil | refine envW_cons rfl rfl ?_ | refine heapW_cons rfl rfl rfl ?_)⟩
      · show _ - (i + 1) < _ - i; omega
      · exact ⟨hi, b3, hst, by show t.gr.length ≤ i + 1; omega, h6⟩
    | true =>
      have c1 := rrecs_con (gl := gl) (st ++ L[i].extract 19 L[i].size) (by omega)
      have hrg := recs_grp (st ++ L[i].extract 19 L[i].size)
      generalize recGo (st ++ L[i].extract 19 L[i].size) 0 [] = v at c1 hrg
      obtain ⟨l, ok⟩ := v
      dsimp only at c1 hrg
      cases ok with
      | false =>
        rw [findG_bad hc (by rw [ba_list]; exact hrg)] at h6
        rw [h6]
        repeat' (first
 | ((with_reducible apply (r_call (f := 22))); exact rfl; exact rfl; exact c0; exact rfl; exact rfl)
 | ((with_reducible apply (r_call (f := 58))); exact rfl; exact rfl; exact c1; exact rfl; exact rfl)
 | ((with_reducible apply (r_cutFrom 19)); exact rfl; exact rfl; exact rfl; exact (by omega); exact rfl)
 | ((with_reducible apply r_adds); exact rfl; exact rfl; exact (by omega); exact rfl)
 | ((with_reducible apply aw_seq))
 | ((with_reducible apply aw_region))
 | ((with_reducible apply aw_block))
 | ((with_reducible apply thn_normal))
 | ((with_reducible apply thn_ret))
 | ((with_reducible apply inb_ret))
 | ((with_reducible apply aw_skip))
 | ((with_reducible apply aw_ret))
 | ((with_reducible apply ao_nil))
 | ((with_reducible apply r_move); exact rfl; exact rfl)
 | ((with_reducible apply r_assign); exact rfl; exact rfl)
 | ((with_reducible apply r_load_pa); exact rfl; exact rfl; exact rfl; exact rfl; exact rfl)
 | ((with_reducible apply r_lss); exact rfl; exact rfl; exact rfl)
 | ((with_reducible apply r_not); exact rfl; exact rfl)
 | ((with_reducible apply r_len_f); exact rfl; exact inferInstance; exact rfl)
 | ((with_reducible apply r_index_f); exact rfl; exact inferInstance; exact rfl; exact rfl; (first | assumption | omega); exact rfl)
 | ((with_reducible apply r_load_f0); exact rfl; exact inferInstance; exact List.getElem?_eq_getElem (by first | assumption | omega); exact rfl; exact rfl)
 | ((with_reducible apply r_store_pa); exact rfl; exact rfl; exact rfl; exact rfl; exact rfl; exact rfl)
 | ((with_reducible apply r_extract); exact rfl; exact rfl; exact rfl)
 | (((with_reducible apply aw_cond); exact rfl) <;> intro hg <;> (first | (exact absurd hg (by decide)) | ((try simp only [decide_eq_true_eq, decide_eq_false_iff_not, Bool.not_eq_true', Bool.not_eq_false', Bool.not_true, Bool.not_false, Bool.not_not, Int.not_lt, Int.not_le, Nat.not_lt, Nat.not_le, gt_iff_lt, ge_iff_le, List.cons.injEq, and_true] at hg); first | (exact absurd trivial hg) | (exfalso; omega) | (have hT : True := hg; clear hT hg) | skip)))
 )
        all_goals exact ret1 (.cell_a inferInstance rfl rfl rfl rfl (cl_cons (cl_vec rfl (flat_len EncL.len _)) (cl_cons cl_c (cl_cons cl_c cl_nil))))
      | true =>
        rw [findG_last hc (by rw [ba_list]; exact hrg)] at h6
        have e1 : (i : Int) + 1 = ((i + 1 : Nat) : Int) := by push_cast; rfl
        repeat' (first
 | ((with_reducible apply (r_call (f := 22))); exact rfl; exact rfl; exact c0; exact rfl; exact rfl)
 | ((with_reducible apply (r_call (f := 58))); exact rfl; exact rfl; exact c1; exact rfl; exact rfl)
 | ((with_reducible apply (r_cutFrom 19)); exact rfl; exact rfl; exact rfl; exact (by omega); exact rfl)
 | ((with_reducible apply r_adds); exact rfl; exact rfl; exact (by omega); exact rfl)
 | ((with_reducible apply r_litq); exact rfl; exact rfl; exact rfl; exact rfl; exact rfl; exact rfl; exact rfl)
 | ((with_reducible apply (r_appendl (enc := grC) (l2 := [l]))); exact rfl; exact rfl; exact inferInstance; exact rfl; exact rfl; exact (by show t.gr.length + 1 < _; omega); exact (by show (t.gr.length + 1) * _ ≤ _; omega); exact rfl)
 | ((with_reducible apply aw_seq))
 | ((with_reducible apply aw_region))
 | ((with_reducible apply aw_block))
 | ((with_reducible apply thn_normal))
 | ((with_reducible apply inb_normal))
 | ((with_reducible apply aw_skip))
 | ((with_reducible apply ao_nil))
 | ((with_reducible apply r_move); exact rfl; exact rfl)
 | ((with_reducible apply r_assign); exact rfl; exact rfl)
 | ((with_reducible apply r_field_p); exact rfl; exact rfl)
 | ((with_reducible apply r_load_p); exact rfl; exact rfl; exact rfl; exact rfl)
 | ((with_reducible apply r_lss); exact rfl; exact rfl; exact rfl)
 | ((with_reducible apply r_add); exact rfl; exact rfl; exact (by first | assumption | (unfold fits; omega)); exact rfl)
 | ((with_reducible apply r_not); exact rfl; exact rfl)
 | ((with_reducible apply r_len_f); exact rfl; exact inferInstance; exact rfl)
 | ((with_reducible apply r_index_f); exact rfl; exact inferInstance; exact rfl; exact rfl; (first | assumption | omega); exact rfl)
 | ((with_reducible apply r_load_f0); exact rfl; exact inferInstance; exact List.getElem?_eq_getElem (by first | assumption | omega); exact rfl; exact rfl)
 | ((with_reducible apply r_store_p); exact rfl; exact rfl; exact rfl; exact rfl; exact rfl; exact rfl)
 | ((with_reducible apply r_extract); exact rfl; exact rfl; exact rfl)
 | (((with_reducible apply aw_cond); exact rfl) <;> intro hg <;> (first | (exact absurd hg (by decide)) | ((try simp only [decide_eq_true_eq, decide_eq_false_iff_not, Bool.not_eq_true', Bool.not_eq_false', Bool.not_true, Bool.not_false, Bool.not_not, Int.not_lt, Int.not_le, Nat.not_lt, Nat.not_le, gt_iff_lt, ge_iff_le, List.cons.injEq, and_true] at hg); first | (exact absurd trivial hg) | (exfalso; omega) | (have hT : True := hg; clear hT hg) | skip)))
 )
        rw [show t.gr.length + [l].length = (t.add l (i + 1) h').gr.length by simp [JS.add]]
        refine ⟨(i + 1, h', ⟨#[]⟩, t.add l (i + 1) h'), ?_, ?_, by refine weak_mk rfl ?_ ?_ <;> repeat (first | exact envW_nil | exact heapW_nil | refine envW_cons rfl rfl ?_ | refine heapW_cons rfl rfl rfl ?_)⟩
        · show _ - (i + 1) < _ - i; omega
        · exact ⟨hi, b3, Nat.zero_le _, by show (t.gr ++ [l]).length ≤ i + 1; simp; omega, h6⟩
theorem divB_last : ∀ (k prev : Nat) (s : ByteArray), s.size ≤ k → s.size ≠ 0 → ∃ h : (divB prev s).1.length - 1 < (divB prev s).1.length, ((divB prev s).1[(divB prev s).1.length - 1]).extract 0 16 = hexS (divB prev s).2 ∧ 16 ≤ ((divB prev s).1[(divB prev s).1.length - 1]).size
  | 0, prev, s, hk, h0 => by omega
  | k + 1, prev, s, hk, h0 => by
    rw [divB_cons h0 rfl rfl rfl]
    obtain ⟨c, hc⟩ : ∃ c, c = chainS prev (restN (markB (decide (s.size ≤ 45))) (min s.size 45) (s.extract 0 (min s.size 45))) := ⟨_, rfl⟩
    rw [← hc]
    have hls : (s.extract (min s.size 45) s.size).size = s.size - min s.size 45 := by rw [ByteArray.size_extract]; omega
    by_cases h45 : s.size ≤ 45
    · rw [divB_nil (by omega)]
      refine ⟨by simp, ?_, ?_⟩
      · exact (cut_blk c _).1
      · show 16 ≤ (hexS c ++ _).size
        rw [ByteArray.size_append, hexS_size]; omega
    · obtain ⟨h1, h2, h3⟩ := divB_last k c (s.extract (min s.size 45) s.size) (by omega) (by omega)
      refine ⟨by simp, ?_, ?_⟩
      · have e : ((hexS c ++ restN (markB (decide (s.size ≤ 45))) (min s.size 45) (s.extract 0 (min s.size 45))) :: (divB c (s.extract (min s.size 45) s.size)).1)[((hexS c ++ restN (markB (decide (s.size ≤ 45))) (min s.size 45) (s.extract 0 (min s.size 45))) :: (divB c (s.extract (min s.size 45) s.size)).1).length - 1]'(by simp) = (divB c (s.extract (min s.size 45) s.size)).1[(divB c (s.extract (min s.size 45) s.size)).1.length - 1] := by
          rw [List.getElem_cons]
          rw [dif_neg (by simp only [List.length_cons]; omega)]
          simp only [List.length_cons, Nat.add_sub_cancel]
        exact (congrArg (fun x : ByteArray => x.extract 0 16) e).trans h2
      · have e : ((hexS c ++ restN (markB (decide (s.size ≤ 45))) (min s.size 45) (s.extract 0 (min s.size 45))) :: (divB c (s.extract (min s.size 45) s.size)).1)[((hexS c ++ restN (markB (decide (s.size ≤ 45))) (min s.size 45) (s.extract 0 (min s.size 45))) :: (divB c (s.extract (min s.size 45) s.size)).1).length - 1]'(by simp) = (divB c (s.extract (min s.size 45) s.size)).1[(divB c (s.extract (min s.size 45) s.size)).1.length - 1] := by
          rw [List.getElem_cons]
          rw [dif_neg (by simp only [List.length_cons]; omega)]
          simp only [List.length_cons, Nat.add_sub_cancel]
        exact (congrArg ByteArray.size e).symm ▸ h3
def rappS (t : JS) (g : List ByteArray) (n : Nat) : JS × List ByteArray × Int :=
  if (divS t.head g).2.2 ≠ 0 then (t, [], (divS t.head g).2.2)
  else if n < t.used + (divS t.head g).1.length then (t, [], 12)
  else (t.add g (t.used + (divS t.head g).1.length) (divS t.head g).2.1, (divS t.head g).1, 0)
theorem rappend_con (t : JS) (g : List ByteArray) (n : Nat) (hg : g.length ≤ 1000000) (hn : n ≤ 1000000) (hu : t.used ≤ 1000000) (hgr : t.gr.length ≤ 1000000) (hh : t.head < 2 ^ 64) : Con Try.prog gl 34 [jV t, LT g, I n] (.tup [jV (rappS t g n).1, LT (rappS t g n).2.1, I (rappS t g n).2.2]) := by
  have c0 := rblocks_con (gl := gl) t.head hh g (by omega)
  have hlen := divS_len t.head g
  have hlt := divS_lt t.head g hh
  have hlast : (divS t.head g).2.2 = 0 → ∃ h : (divS t.head g).1.length - 1 < (divS t.head g).1.length, ((divS t.head g).1[(divS t.head g).1.length - 1]).extract 0 16 = hexS (divS t.head g).2.1 ∧ 16 ≤ ((divS t.head g).1[(divS t.head g).1.length - 1]).size := by
    intro h
    rw [divS_e] at h
    have := divB_last (streamB g).size t.head (streamB g) (Nat.le_refl _) (by have := stream_pos (chk_z h).1; omega)
    rw [divS_ok h]
    exact this
  unfold rappS
  generalize divS t.head g = v at c0 hlen hlt hlast
  obtain ⟨bl, h, e⟩ := v
  dsimp only at c0 hlen hlt hlast ⊢
  refine con_of Try.func34 rfl (by kernel_rfl) rfl ?_
  simp only [Try.ntmps34, Try.results34, argEnv, ofC, of1, List.map]
  by_cases he : e = 0
  rotate_left
  · rw [if_pos he]
    repeat' (first
 | ((with_reducible apply (r_call (f := 13))); exact rfl; exact rfl; exact c0; exact rfl; exact rfl)
 | ((with_reducible apply aw_seq))
 | ((with_reducible apply aw_region))
 | ((with_reducible apply thn_normal))
 | ((with_reducible apply thn_ret))
 | ((with_reducible apply aw_ret))
 | ((with_reducible apply ao_nil))
 | ((with_reducible apply r_move); exact rfl; exact rfl)
 | ((with_reducible apply r_assign); exact rfl; exact rfl)
 | ((with_reducible apply r_field_p); exact rfl; exact rfl)
 | ((with_reducible apply r_load_p); exact rfl; exact rfl; exact rfl; exact rfl)
 | ((with_reducible apply r_load_pa); exact rfl; exact rfl; exact rfl; exact rfl; exact rfl)
 | ((with_reducible apply r_neq); exact rfl; exact rfl; exact rfl)
 | ((with_reducible apply r_box_a); exact rfl; exact rfl)
 | ((with_reducible apply r_store_pa); exact rfl; exact rfl; exact rfl; exact rfl; exact rfl; exact rfl)
 | ((with_reducible apply r_extract); exact rfl; exact rfl; exact rfl)
 | ((with_reducible apply r_alloc); exact rfl)
 | (((with_reducible apply aw_cond); exact rfl) <;> intro hg <;> (first | (exact absurd hg (by decide)) | ((try simp only [decide_eq_true_eq, decide_eq_false_iff_not, Bool.not_eq_true', Bool.not_eq_false', Bool.not_true, Bool.not_false, Bool.not_not, Int.not_lt, Int.not_le, Nat.not_lt, Nat.not_le, gt_iff_lt, ge_iff_le, List.cons.injEq, and_true] at hg); first | (exact absurd trivial hg) | (exfalso; omega) | (have hT : True := hg; clear hT hg) | skip)))
 )
    all_goals exact ret2 (.cons (.cell_a inferInstance rfl rfl rfl rfl (cl_cons cl_c (cl_cons cl_c (cl_cons cl_c cl_nil)))) (.cons (.tmp rfl cl_none) (.cons (.tmp rfl cl_c) .nil)))
  rw [if_neg (by simp [he])]
  subst he
  by_cases hf : n < t.used + bl.length
  · rw [if_pos hf]
    repeat' (first
 | ((with_reducible apply (r_call (f := 13))); exact rfl; exact rfl; exact c0; exact rfl; exact rfl)
 | ((with_reducible apply aw_seq))
 | ((with_reducible apply aw_region))
 | ((with_reducible apply thn_normal))
 | ((with_reducible apply thn_ret))
 | ((with_reducible apply aw_skip))
 | ((with_reducible apply aw_ret))
 | ((with_reducible apply ao_nil))
 | ((with_reducible apply r_move); exact rfl; exact rfl)
 | ((with_reducible apply r_assign); exact rfl; exact rfl)
 | ((with_reducible apply r_field_p); exact rfl; exact rfl)
 | ((with_reducible apply r_load_p); exact rfl; exact rfl; exact rfl; exact rfl)
 | ((with_reducible apply r_load_pa); exact rfl; exact rfl; exact rfl; exact rfl; exact rfl)
 | ((with_reducible apply r_gtr); exact rfl; exact rfl; exact rfl)
 | ((with_reducible apply r_neq); exact rfl; exact rfl; exact rfl)
 | ((with_reducible apply r_sub); exact rfl; exact rfl; exact (by first | assumption | (unfold fits; omega)); exact rfl)
 | ((with_reducible apply r_box_a); exact rfl; exact rfl)
 | ((with_reducible apply r_len_f); exact rfl; exact inferInstance; exact rfl)
 | ((with_reducible apply r_store_pa); exact rfl; exact rfl; exact rfl; exact rfl; exact rfl; exact rfl)
 | ((with_reducible apply r_extract); exact rfl; exact rfl; exact rfl)
 | ((with_reducible apply r_alloc); exact rfl)
 | (((with_reducible apply aw_cond); exact rfl) <;> intro hg <;> (first | (exact absurd hg (by decide)) | ((try simp only [decide_eq_true_eq, decide_eq_false_iff_not, Bool.not_eq_true', Bool.not_eq_false', Bool.not_true, Bool.not_false, Bool.not_not, Int.not_lt, Int.not_le, Nat.not_lt, Nat.not_le, gt_iff_lt, ge_iff_le, List.cons.injEq, and_true] at hg); first | (exact absurd trivial hg) | (exfalso; omega) | (have hT : True := hg; clear hT hg) | skip)))
 )
    all_goals exact ret2 (.cons (.cell_a inferInstance rfl rfl rfl rfl (cl_cons cl_c (cl_cons cl_c (cl_cons cl_c cl_nil)))) (.cons (.tmp rfl cl_none) (.cons (.tmp rfl cl_c) .nil)))
  rw [if_neg hf]
  obtain ⟨q1, q2, q3⟩ := hlast rfl
  have e1 : ((bl.length : Int) - 1) = ((bl.length - 1 : Nat) : Int) := by omega
  have c1 := rnumber_con (gl := gl) (bl[bl.length - 1].extract 0 16) (by rw [q2, hexS_size]; omega)
  rw [q2, numS_hex hlt] at c1
  dsimp only at c1
  rw [← q2] at c1
  have e2 : ((t.used : Nat) : Int) + (bl.length : Int) = ((t.used + bl.length : Nat) : Int) := by push_cast; rfl
  repeat' (first
 | (rw [e1])
 | (rw [e2])
 | ((with_reducible apply (r_call (f := 13))); exact rfl; exact rfl; exact c0; exact rfl; exact rfl)
 | ((with_reducible apply (r_call (f := 52))); exact rfl; exact rfl; exact c1; exact rfl; exact rfl)
 | ((with_reducible apply (r_cutTo 16)); exact rfl; exact rfl; exact rfl; exact (by omega); exact rfl)
 | ((with_reducible apply r_litq); exact rfl; exact rfl; exact rfl; exact rfl; exact rfl; exact rfl; exact rfl)
 | ((with_reducible apply (r_appendl (enc := grC) (l := []) (l2 := t.gr))); exact rfl; exact rfl; exact inferInstance; exact rfl; exact rfl; exact (by omega); exact (by omega); exact rfl)
 | ((with_reducible apply (r_appendl (enc := grC) (l := [] ++ t.gr) (l2 := [g]))); exact rfl; exact rfl; exact inferInstance; exact (by simp); exact rfl; exact (by show 0 + t.gr.length + 1 < _; omega); exact (by show (0 + t.gr.length + 1) * _ ≤ _; omega); exact rfl)
 | ((with_reducible apply aw_seq))
 | ((with_reducible apply aw_region))
 | ((with_reducible apply thn_normal))
 | ((with_reducible apply aw_skip))
 | ((with_reducible apply aw_ret))
 | ((with_reducible apply ao_nil))
 | ((with_reducible apply r_move); exact rfl; exact rfl)
 | ((with_reducible apply r_assign); exact rfl; exact rfl)
 | ((with_reducible apply r_field_p); exact rfl; exact rfl)
 | ((with_reducible apply r_load_p); exact rfl; exact rfl; exact rfl; exact rfl)
 | ((with_reducible apply r_load_pa); exact rfl; exact rfl; exact rfl; exact rfl; exact rfl)
 | ((with_reducible apply r_gtr); exact rfl; exact rfl; exact rfl)
 | ((with_reducible apply r_neq); exact rfl; exact rfl; exact rfl)
 | ((with_reducible apply r_add); exact rfl; exact rfl; exact (by first | assumption | (unfold fits; omega)); exact rfl)
 | ((with_reducible apply r_sub); exact rfl; exact rfl; exact (by first | assumption | (unfold fits; omega)); exact rfl)
 | ((with_reducible apply r_box_a); exact rfl; exact rfl)
 | ((with_reducible apply r_len_f); exact rfl; exact inferInstance; exact rfl)
 | ((with_reducible apply r_index_f); exact rfl; exact inferInstance; exact rfl; exact rfl; (first | assumption | omega); exact rfl)
 | ((with_reducible apply r_load_f0); exact rfl; exact inferInstance; exact List.getElem?_eq_getElem (by first | assumption | omega); exact rfl; exact rfl)
 | ((with_reducible apply r_store_p); exact rfl; exact rfl; exact rfl; exact rfl; exact rfl; exact rfl)
 | ((with_reducible apply r_store_pa); exact rfl; exact rfl; exact rfl; exact rfl; exact rfl; exact rfl)
 | ((with_reducible apply r_extract); exact rfl; exact rfl; exact rfl)
 | ((with_reducible apply r_alloc); exact rfl)
 | (((with_reducible apply aw_cond); exact rfl) <;> intro hg <;> (first | (exact absurd hg (by decide)) | ((try simp only [decide_eq_true_eq, decide_eq_false_iff_not, Bool.not_eq_true', Bool.not_eq_false', Bool.not_true, Bool.not_false, Bool.not_not, Int.not_lt, Int.not_le, Nat.not_lt, Nat.not_le, gt_iff_lt, ge_iff_le, List.cons.injEq, and_true] at hg); first | (exact absurd trivial hg) | (exfalso; omega) | (have hT : True := hg; clear hT hg) | skip)))
 | ((with_reducible apply r_lit0); exact rfl)
 )
  all_goals exact ret2 (.cons (.cell_a inferInstance rfl rfl rfl rfl (cl_cons (cl_vec rfl (by rw [flat_len EncL.len]; simp [JS.add])) (cl_cons cl_c (cl_cons cl_c cl_nil)))) (.cons (.tmp rfl cl_c) (.cons (.tmp rfl cl_c) .nil)))
end Go.Proofs.Ythkjkhffljlidaa.Jo
/- The journal, plain: groups that are appended on a disk that does not crash. -/
namespace Go.Proofs.Ythkjkhffljlidaa.Jo
set_option linter.unusedVariables false
set_option linter.unusedSimpArgs false
open Go.RowKit Go.Proofs.Ythkjkhffljlidaa.Ev Go.Proofs.Ythkjkhffljlidaa.Dk
theorem read_eq {s : DS} (h : s.down = false) (n : Nat) (hn : n < s.blocks.length) : s.read (n : Int) = ((newest s.pend n).getD (s.blocks.getD n ByteArray.empty), 0) := by
  have hi : inB s n = true := (inB_iff s n).2 ⟨n, rfl, hn⟩
  unfold DS.read; rw [h, hi]; simp
theorem contents_quiet {d : DS} (hd : d.down = false) (hp : d.pend = []) : contents d = d.blocks := by
  apply List.ext_getElem
  · rw [contents_len]
  · intro i h1 h2
    have e : (contents d)[i] = (d.read (i : Int)).1 := by simp [contents]
    rw [e, read_eq hd i h2, hp]
    simp [newest, List.getD_eq_getElem?_getD, h2]
theorem openD_quiet {d : DS} (hd : d.down = false) (hp : d.pend = []) : openD d = findG 0 [] 0 d.blocks J0 := by
  unfold openD; rw [contents_quiet hd hp]
structure Inv (n : Nat) (d : DS) (t : JS) : Prop where
  quiet : Quiet d
  len : d.blocks.length = n
  fine : Fine d
  lies : Lies t d.blocks
  stop : t.stop = false
  head : t.head < 2 ^ 64
  rest : ∀ x ∈ d.blocks.drop t.used, x.size ≤ 19
theorem Inv.used {n : Nat} {d : DS} {t : JS} (h : Inv n d t) : t.used ≤ n := h.len ▸ h.lies.le
theorem Inv.new {n : Nat} (hn : 1 ≤ n ∧ n ≤ 4096) : Inv n (DS.new n) J0 :=
  ⟨new_quiet n, by simp [DS.new], Fine.new n hn.1 hn.2, Lies.nil _, rfl, by decide, fun x hx => by
    have hx : x ∈ (List.replicate n ByteArray.empty).drop 0 := hx
    rw [List.drop_zero, List.mem_replicate] at hx
    rw [hx.2]; exact Nat.zero_le _⟩
theorem find_short {h i : Nat} {st : List UInt8} {bl : List ByteArray} {J : JS} (hs : ∀ x ∈ bl, x.size ≤ 19) : findG h st i bl J = J := by
  cases bl with
  | nil => rfl
  | cons b bl => exact findG_none (cont_short (hs b (List.mem_cons_self ..)))
theorem Inv.openD {n : Nat} {d : DS} {t : JS} (h : Inv n d t) : openD d = t := by
  rw [openD_quiet h.quiet.up h.quiet.none, h.lies.find, find_short h.rest]
  have := h.stop
  cases t
  cases this
  rfl
theorem putAt_drop {bl l : List ByteArray} {n : Nat} (h : n + bl.length ≤ l.length) : (putAt l n bl).drop (n + bl.length) = l.drop (n + bl.length) := by
  rw [putAt_eq bl l n h, List.drop_left' (by rw [List.length_append, List.length_take]; omega)]
theorem putAt_mem {bl l : List ByteArray} {n : Nat} (h : n + bl.length ≤ l.length) : ∀ x ∈ putAt l n bl, x ∈ l ∨ x ∈ bl := by
  intro x hx
  rw [putAt_eq bl l n h] at hx
  rcases List.mem_append.1 hx with hx | hx
  · rcases List.mem_append.1 hx with hx | hx
    · exact .inl (List.mem_of_mem_take hx)
    · exact .inr hx
  · exact .inl (List.mem_of_mem_drop hx)
theorem putAt_get {bl l : List ByteArray} {n k : Nat} (h : n + bl.length ≤ l.length) (hk : k < bl.length) : (putAt l n bl)[n + k]? = some bl[k] := by
  rw [putAt_eq bl l n h, List.getElem?_append_left (by rw [List.length_append, List.length_take]; omega), List.getElem?_append_right (by rw [List.length_take]; omega), List.length_take, show n + k - min n l.length = k by omega, List.getElem?_eq_getElem hk]
theorem Inv.add {n : Nat} {d : DS} {t : JS} {g : List ByteArray} (h : Inv n d t) (hc : chkS g = 0) (hl : t.used + (divS t.head g).1.length ≤ n) :
    Inv n { d with blocks := putAt d.blocks t.used (divS t.head g).1 } (t.add g (t.used + (divS t.head g).1.length) (divS t.head g).2.1) := by
  have hl' : t.used + (divS t.head g).1.length ≤ d.blocks.length := by rw [h.len]; exact hl
  refine ⟨⟨h.quiet.up, h.quiet.free, h.quiet.none⟩, ?_, ?_, h.lies.add hc hl', h.stop, divS_lt _ _ h.head, ?_⟩
  · show (putAt _ _ _).length = n
    rw [putAt_len, h.len]
  · refine ⟨?_, ?_, ?_, h.fine.steps, h.fine.mask⟩
    · show 1 ≤ (putAt _ _ _).length ∧ (putAt _ _ _).length ≤ _
      rw [putAt_len]; exact h.fine.len
    · intro x hx
      rcases putAt_mem hl' x hx with hx | hx
      · exact h.fine.text x hx
      · exact divS_size _ _ x hx
    · intro x hx
      have hx : x ∈ d.pend := hx
      rw [h.quiet.none] at hx
      cases hx
  · intro x hx
    have hx : x ∈ (putAt d.blocks t.used (divS t.head g).1).drop (t.used + (divS t.head g).1.length) := hx
    rw [putAt_drop hl'] at hx
    refine h.rest x ?_
    rw [← List.drop_drop] at hx
    exact List.mem_of_mem_drop hx
theorem Inv.app {n : Nat} {d : DS} {t : JS} (h : Inv n d t) (g : List ByteArray) :
    (appS t d g = (t, d, (rappS t g n).2.2) ∧ (rappS t g n).1 = t ∧ (rappS t g n).2.1 = [] ∧ (rappS t g n).2.2 ≠ 0 ∧ ((rappS t g n).2.2 = chkS g ∧ chkS g ≠ 0 ∨ (rappS t g n).2.2 = 12 ∧ chkS g = 0 ∧ n < t.used + (divS t.head g).1.length)) ∨
    (chkS g = 0 ∧ t.used + (divS t.head g).1.length ≤ n ∧ rappS t g n = (t.add g (t.used + (divS t.head g).1.length) (divS t.head g).2.1, (divS t.head g).1, 0) ∧
      appS t d g = (t.add g (t.used + (divS t.head g).1.length) (divS t.head g).2.1, { d with blocks := putAt d.blocks t.used (divS t.head g).1 }, 0)) := by
  by_cases hc : chkS g = 0
  · have he : (divS t.head g).2.2 = 0 := by rw [divS_e, hc]
    by_cases hl : n < t.used + (divS t.head g).1.length
    · refine .inl ?_
      have hr : rappS t g n = (t, [], 12) := by unfold rappS; rw [if_neg (by simp [he]), if_pos hl]
      rw [hr]
      exact ⟨app_full h.stop he (by rw [h.len]; exact hl), rfl, rfl, (by show (12 : Int) ≠ 0; decide), .inr ⟨rfl, hc, hl⟩⟩
    · refine .inr ⟨hc, by omega, ?_, app_quiet h.stop h.quiet he (by rw [h.len]; omega)⟩
      unfold rappS; rw [if_neg (by simp [he]), if_neg hl]
  · refine .inl ?_
    have he : (divS t.head g).2.2 ≠ 0 := by rw [divS_e]; exact hc
    have hr : rappS t g n = (t, [], chkS g) := by unfold rappS; rw [if_pos he, divS_e]
    rw [hr]
    refine ⟨?_, rfl, rfl, hc, .inl ⟨rfl, hc⟩⟩
    unfold appS
    rw [h.stop, if_neg (by decide), if_pos he, divS_e]
end Go.Proofs.Ythkjkhffljlidaa.Jo
/- The law JournalOpens. -/
namespace Go.Proofs.Ythkjkhffljlidaa.Jo
set_option linter.unusedVariables false
set_option linter.unusedSimpArgs false
open Go.RowKit Go.Proofs.Ythkjkhffljlidaa.Ev Go.Proofs.Ythkjkhffljlidaa.Dk
variable {gl : List (Nat × List CV)}
theorem sized_get {n : Int} (h : sizedS n = true) : ∃ m : Nat, n = (m : Int) ∧ 1 ≤ m ∧ m ≤ 100 := by
  unfold sizedS at h
  have h : 1 ≤ n ∧ n ≤ 100 := by simpa using h
  exact ⟨n.toNat, by omega, by omega, by omega⟩
theorem pairs_snoc : ∀ (l : List ByteArray) (n : Nat) (x : ByteArray), pairs n (l ++ [x]) = pairs n l ++ [(((n + l.length : Nat) : Int), x)]
  | [], n, x => rfl
  | y :: l, n, x => by
    rw [List.cons_append, pairs, pairs_snoc l (n + 1) x, pairs, List.length_cons, show n + 1 + l.length = n + (l.length + 1) by omega, List.cons_append]
def dw (L : List ByteArray) (i : Nat) : DS := { DS.new L.length with pend := pairs 0 (L.take i) }
def dl (L : List ByteArray) : DS := { DS.new L.length with blocks := L }
theorem dw_succ {L : List ByteArray} {i : Nat} (hi : i < L.length) (hs : L[i].size ≤ 64) : (dw L i).write (i : Int) L[i] = (dw L (i + 1), 0) := by
  rw [write_free rfl rfl (by show i < (List.replicate _ _).length; simpa using hi) hs]
  unfold dw
  rw [List.take_succ_eq_append_getElem hi, pairs_snoc, List.length_take, show 0 + min i L.length = i by omega]
theorem dw_flush (L : List ByteArray) : (dw L L.length).flush = (dl L, 0) := by
  rw [flush_free rfl rfl]
  unfold dw dl
  dsimp only
  rw [List.take_length, settle_pairs, putAt_eq L _ 0 (by show 0 + L.length ≤ (List.replicate _ _).length; simp)]
  have e : (DS.new L.length).blocks.take 0 ++ L ++ (DS.new L.length).blocks.drop (0 + L.length) = L := by
    rw [List.take_zero, List.nil_append, List.drop_eq_nil_of_le (by show (List.replicate _ _).length ≤ _; simp), List.append_nil]
  rw [e]
  rfl
theorem dl_fine {L : List ByteArray} (h : 1 ≤ L.length ∧ L.length ≤ 4096) (hs : ∀ x ∈ L, x.size ≤ 64) : Fine (dl L) :=
  ⟨h, hs, (fun x hx => by
    have hx : x ∈ ([] : List (Int × ByteArray)) := hx
    cases hx), (by show (0 : Int) ≤ 0 ∧ (0 : Int) ≤ 1099511627776; decide), (by show (0 : Int) ≤ 0 ∧ (0 : Int) < 18446744073709551616; decide)⟩
theorem findG_bd : ∀ (bl : List ByteArray) (h : Nat) (st : List UInt8) (i : Nat) (J : JS), (∀ g ∈ J.gr, g.length ≤ 32) → J.used ≤ i → J.head < 2 ^ 64 → (∀ g ∈ (findG h st i bl J).gr, g.length ≤ 32) ∧ (findG h st i bl J).gr.length ≤ J.gr.length + bl.length ∧ (findG h st i bl J).used ≤ i + bl.length ∧ (findG h st i bl J).head < 2 ^ 64
  | [], h, st, i, J, hg, hu, hh => ⟨hg, Nat.le_refl _, by rw [findG]; exact hu, hh⟩
  | b :: bl, h, st, i, J, hg, hu, hh => by
    have hsame : (∀ g ∈ J.gr, g.length ≤ 32) ∧ J.gr.length ≤ J.gr.length + (b :: bl).length ∧ J.used ≤ i + (b :: bl).length ∧ J.head < 2 ^ 64 := ⟨hg, by omega, by omega, hh⟩
    cases hc : contS h b with
    | none => rw [findG_none hc]; exact hsame
    | some v =>
      obtain ⟨h', last⟩ := v
      cases last with
      | false =>
        rw [findG_more hc]
        obtain ⟨a1, a2, a3, a4⟩ := findG_bd bl h' (st ++ (b.extract 19 b.size).data.toList) (i + 1) J hg (by omega) hh
        exact ⟨a1, by rw [List.length_cons]; omega, by rw [List.length_cons]; omega, a4⟩
      | true =>
        cases hgr : grp ⟨(st ++ (b.extract 19 b.size).data.toList).toArray⟩ with
        | none => rw [findG_bad hc hgr]; exact hsame
        | some l =>
          rw [findG_last hc hgr]
          have hl := grp_len hgr
          obtain ⟨b1, b2, b3⟩ := cont_bd hc
          obtain ⟨a1, a2, a3, a4⟩ := findG_bd bl h' [] (i + 1) (J.add l (i + 1) h') (fun g hx => by
            have hx : g ∈ J.gr ++ [l] := hx
            rcases List.mem_append.1 hx with hx | hx
            · exact hg g hx
            · rw [List.mem_singleton.1 hx]; exact hl) (Nat.le_refl _) b3
          have e1 : (J.add l (i + 1) h').gr.length = J.gr.length + 1 := by simp [JS.add]
          exact ⟨a1, by rw [List.length_cons]; omega, by rw [List.length_cons]; omega, a4⟩
theorem flatten_len : ∀ (l : List (List ByteArray)) (k : Nat), (∀ g ∈ l, g.length ≤ k) → l.flatten.length ≤ l.length * k
  | [], k, h => by simp
  | g :: l, k, h => by
    have := flatten_len l k (fun x hx => h x (List.mem_cons_of_mem _ hx))
    have := h g (List.mem_cons_self ..)
    rw [List.flatten_cons, List.length_append, List.length_cons, Nat.add_mul]
    omega
theorem jopens_law (L : List ByteArray) (_ : (∀ x ∈ L, x.size ≤ maxLen) ∧ L.length ≤ maxLen) : Con Try.prog gl 5 [LT L] T := by
  have ca := awake_con (gl := gl)
  have c0 := sized_con (gl := gl) (L.length : Int)
  cases hz : sizedS (L.length : Int) with
  | false =>
    rw [hz] at c0
    refine con_of Try.func5 rfl (by kernel_rfl) rfl ?_
    simp only [Try.ntmps5, Try.results5, argEnv, ofC, of1, List.map]
    repeat' (first
 | ((with_reducible apply (r_call (f := 15))); exact rfl; exact rfl; exact c0; exact rfl; exact rfl)
 | ((with_reducible apply (r_call (args := []) (f := 11))); exact rfl; exact rfl; exact ca; exact rfl; exact rfl)
 | ((with_reducible apply aw_seq))
 | ((with_reducible apply aw_region))
 | ((with_reducible apply thn_normal))
 | ((with_reducible apply thn_ret))
 | ((with_reducible apply aw_ret))
 | ((with_reducible apply ao_nil))
 | ((with_reducible apply r_move); exact rfl; exact rfl)
 | ((with_reducible apply r_assign); exact rfl; exact rfl)
 | ((with_reducible apply r_not); exact rfl; exact rfl)
 | ((with_reducible apply r_len_f); exact rfl; exact inferInstance; exact rfl)
 | (((with_reducible apply aw_cond); exact rfl) <;> intro hg <;> (first | (exact absurd hg (by decide)) | ((try simp only [decide_eq_true_eq, decide_eq_false_iff_not, Bool.not_eq_true', Bool.not_eq_false', Bool.not_true, Bool.not_false, Bool.not_not, Int.not_lt, Int.not_le, Nat.not_lt, Nat.not_le, gt_iff_lt, ge_iff_le, List.cons.injEq, and_true] at hg); first | (exact absurd trivial hg) | (exfalso; omega) | (have hT : True := hg; clear hT hg) | skip)))
 )
    all_goals exact ret_b rfl rfl
  | true =>
  rw [hz] at c0
  obtain ⟨m, hm, hm1, hm2⟩ := sized_get hz
  have hL : L.length = m := by omega
  refine con_of Try.func5 rfl (by kernel_rfl) rfl ?_
  simp only [Try.ntmps5, Try.results5, argEnv, ofC, of1, List.map]
  repeat' (first
 | ((with_reducible apply (r_call (f := 15))); exact rfl; exact rfl; exact c0; exact rfl; exact rfl)
 | ((with_reducible apply (r_callN (f := 27))); exact dsk_new L.length ⟨by omega, by omega⟩; exact rfl; exact ⟨.inl rfl, trivial⟩; exact rfl)
 | ((with_reducible apply r_eqnilp); exact rfl; exact rfl; exact rfl)
 | ((with_reducible apply aw_seq))
 | ((with_reducible apply aw_region))
 | ((with_reducible apply aw_block))
 | ((with_reducible apply thn_normal))
 | ((with_reducible apply aw_skip))
 | ((with_reducible apply ao_nil))
 | ((with_reducible apply r_move); exact rfl; exact rfl)
 | ((with_reducible apply r_assign); exact rfl; exact rfl)
 | ((with_reducible apply r_neq); exact rfl; exact rfl; exact rfl)
 | ((with_reducible apply r_pick_f); exact rfl; exact rfl; exact rfl)
 | ((with_reducible apply r_not); exact rfl; exact rfl)
 | ((with_reducible apply r_len_f); exact rfl; exact inferInstance; exact rfl)
 | ((with_reducible apply r_extract); exact rfl; exact rfl; exact rfl)
 | (((with_reducible apply r_guard); exact rfl; exact rfl; exact rfl; exact rfl) <;> intro hg <;> (first | (exact absurd hg (by decide)) | ((try simp only [decide_eq_true_eq, decide_eq_false_iff_not, Bool.not_eq_true', Bool.not_eq_false', Bool.not_true, Bool.not_false, Bool.not_not, Int.not_lt, Int.not_le, Nat.not_lt, Nat.not_le, gt_iff_lt, ge_iff_le, List.cons.injEq, and_true] at hg); first | (exact absurd trivial hg) | (exfalso; omega) | (have hT : True := hg; clear hT hg) | skip)))
 | (((with_reducible apply aw_cond); exact rfl) <;> intro hg <;> (first | (exact absurd hg (by decide)) | ((try simp only [decide_eq_true_eq, decide_eq_false_iff_not, Bool.not_eq_true', Bool.not_eq_false', Bool.not_true, Bool.not_false, Bool.not_not, Int.not_lt, Int.not_le, Nat.not_lt, Nat.not_le, gt_iff_lt, ge_iff_le, List.cons.injEq, and_true] at hg); first | (exact absurd trivial hg) | (exfalso; omega) | (have hT : True := hg; clear hT hg) | skip)))
 )
  refine aw_root 0 rfl (fun kd => ?_)
  refine aw_loopG (G := Nat) (fun (i : Nat) => i ≤ L.length ∧ ∀ j (hj : j < L.length), j < i → L[j].size ≤ 64) (fun (i : Nat) => L.length - i) (fun (i : Nat) => [(0, .c (LT L)), (3, .ptr 0 0), (5, A i)]) (fun (i : Nat) => [(0, some (.obj ((dskP (dw L i) i).at kd)))]) 1 0 ?_ (by refine weak_mk rfl ?_ ?_ <;> repeat (first | exact envW_nil | exact heapW_nil | refine envW_cons rfl rfl ?_ | refine heapW_cons rfl rfl rfl ?_)) rfl ?_
  · exact ⟨Nat.zero_le _, fun j _ h => absurd h (Nat.not_lt_zero _)⟩
  rintro i hI
  try dsimp only at hI
  try dsimp only
  obtain ⟨h1, h2⟩ := hI
  by_cases hi : i < L.length
  · by_cases hs : 64 < L[i].size
    · skip
      repeat' (first
 | ((with_reducible apply r_len_s); exact rfl; exact rfl)
 | ((with_reducible apply (r_call (args := []) (f := 11))); exact rfl; exact rfl; exact ca; exact rfl; exact rfl)
 | ((with_reducible apply aw_seq))
 | ((with_reducible apply aw_region))
 | ((with_reducible apply aw_block))
 | ((with_reducible apply thn_normal))
 | ((with_reducible apply thn_ret))
 | ((with_reducible apply inb_ret))
 | ((with_reducible apply aw_skip))
 | ((with_reducible apply aw_ret))
 | ((with_reducible apply ao_nil))
 | ((with_reducible apply r_move); exact rfl; exact rfl)
 | ((with_reducible apply r_assign); exact rfl; exact rfl)
 | ((with_reducible apply r_lss); exact rfl; exact rfl; exact rfl)
 | ((with_reducible apply r_gtr); exact rfl; exact rfl; exact rfl)
 | ((with_reducible apply r_len_f); exact rfl; exact inferInstance; exact rfl)
 | ((with_reducible apply r_index_f); exact rfl; exact inferInstance; exact rfl; exact rfl; (first | assumption | omega); exact rfl)
 | ((with_reducible apply r_load_f0); exact rfl; exact inferInstance; exact List.getElem?_eq_getElem (by first | assumption | omega); exact rfl; exact rfl)
 | (((with_reducible apply aw_cond); exact rfl) <;> intro hg <;> (first | (exact absurd hg (by decide)) | ((try simp only [decide_eq_true_eq, decide_eq_false_iff_not, Bool.not_eq_true', Bool.not_eq_false', Bool.not_true, Bool.not_false, Bool.not_not, Int.not_lt, Int.not_le, Nat.not_lt, Nat.not_le, gt_iff_lt, ge_iff_le, List.cons.injEq, and_true] at hg); first | (exact absurd trivial hg) | (exfalso; omega) | (have hT : True := hg; clear hT hg) | skip)))
 )
      all_goals exact ret_b rfl rfl
    · have cw := (dsk_write (gl := gl) (dw L i) i (by omega) (i : Int) L[i] (by unfold maxLen; omega)).at0 kd
      rw [dw_succ hi (by omega)] at cw
      repeat' (first
 | ((with_reducible apply r_len_s); exact rfl; exact rfl)
 | ((with_reducible apply (r_callO (f := 23) 0)); exact cw; exact rfl; exact rfl; exact rfl; exact rfl)
 | ((with_reducible apply aw_seq))
 | ((with_reducible apply aw_region))
 | ((with_reducible apply aw_block))
 | ((with_reducible apply thn_normal))
 | ((with_reducible apply inb_normal))
 | ((with_reducible apply aw_skip))
 | ((with_reducible apply ao_nil))
 | ((with_reducible apply r_move); exact rfl; exact rfl)
 | ((with_reducible apply r_assign); exact rfl; exact rfl)
 | ((with_reducible apply r_lss); exact rfl; exact rfl; exact rfl)
 | ((with_reducible apply r_gtr); exact rfl; exact rfl; exact rfl)
 | ((with_reducible apply r_neq); exact rfl; exact rfl; exact rfl)
 | ((with_reducible apply r_add); exact rfl; exact rfl; exact (by first | assumption | (unfold fits; omega)); exact rfl)
 | ((with_reducible apply r_len_f); exact rfl; exact inferInstance; exact rfl)
 | ((with_reducible apply r_index_f); exact rfl; exact inferInstance; exact rfl; exact rfl; (first | assumption | omega); exact rfl)
 | ((with_reducible apply r_load_f0); exact rfl; exact inferInstance; exact List.getElem?_eq_getElem (by first | assumption | omega); exact rfl; exact rfl)
 | (((with_reducible apply aw_cond); exact rfl) <;> intro hg <;> (first | (exact absurd hg (by decide)) | ((try simp only [decide_eq_true_eq, decide_eq_false_iff_not, Bool.not_eq_true', Bool.not_eq_false', Bool.not_true, Bool.not_false, Bool.not_not, Int.not_lt, Int.not_le, Nat.not_lt, Nat.not_le, gt_iff_lt, ge_iff_le, List.cons.injEq, and_true] at hg); first | (exact absurd trivial hg) | (exfalso; omega) | (have hT : True := hg; clear hT hg) | skip)))
 )
      refine ⟨i + 1, ?_, ?_, by refine weak_mk rfl ?_ ?_ <;> repeat (first | exact envW_nil | exact heapW_nil | refine envW_cons rfl rfl ?_ | refine heapW_cons rfl rfl rfl ?_)⟩
      · show _ - (i + 1) < _ - i; omega
      · refine ⟨hi, fun j hj hji => ?_⟩
        by_cases e : j = i
        · subst e; omega
        · exact h2 j hj (by have : j < i + 1 := hji; omega)
  obtain rfl : i = L.length := by omega
  have hsz : ∀ x ∈ L, x.size ≤ 64 := fun x hx => by
    obtain ⟨j, hj, rfl⟩ := List.mem_iff_getElem.1 hx
    exact h2 j hj hj
  have cf := (dsk_flush (gl := gl) (dw L L.length) L.length (by omega)).at0 kd
  rw [dw_flush] at cf
  have co := open_up (gl := gl) (dl L) (L.length + 1) kd rfl (dl_fine (by omega) hsz)
  have ho : openD (dl L) = findG 0 [] 0 L J0 := openD_quiet rfl rfl
  rw [ho] at co
  have cr := ropen_con (gl := gl) L (by omega) hsz
  obtain ⟨q1, q2, q3, q4⟩ := findG_bd L 0 [] 0 J0 (fun g h => by cases h) (Nat.le_refl _) (by decide)
  generalize findG 0 [] 0 L J0 = t at co cr q1 q2 q3 q4
  have q2 : t.gr.length ≤ 0 + L.length := q2
  have q3 : t.used ≤ 0 + L.length := q3
  have hfl := flatten_len t.gr 32 q1
  have hrl : t.recs.length ≤ 1000000 := by show t.gr.flatten.length ≤ _; omega
  repeat' (first
 | ((with_reducible apply (r_callO (f := 24) 0)); exact cf; exact rfl; exact rfl; exact rfl; exact rfl)
 | ((with_reducible apply aw_seq))
 | ((with_reducible apply aw_region))
 | ((with_reducible apply thn_normal))
 | ((with_reducible apply thn_exit))
 | ((with_reducible apply inb_exit))
 | ((with_reducible apply aw_exit))
 | ((with_reducible apply ao_nil))
 | ((with_reducible apply r_move); exact rfl; exact rfl)
 | ((with_reducible apply r_lss); exact rfl; exact rfl; exact rfl)
 | ((with_reducible apply r_len_f); exact rfl; exact inferInstance; exact rfl)
 | (((with_reducible apply aw_cond); exact rfl) <;> intro hg <;> (first | (exact absurd hg (by decide)) | ((try simp only [decide_eq_true_eq, decide_eq_false_iff_not, Bool.not_eq_true', Bool.not_eq_false', Bool.not_true, Bool.not_false, Bool.not_not, Int.not_lt, Int.not_le, Nat.not_lt, Nat.not_le, gt_iff_lt, ge_iff_le, List.cons.injEq, and_true] at hg); first | (exact absurd trivial hg) | (exfalso; omega) | (have hT : True := hg; clear hT hg) | skip)))
 )
  refine r_callOE (f := 28) 0 co rfl rfl rfl rfl (fun kj => ?_)
  have d0 := (groups_j (gl := gl) kd t).right ((dskP (dl L) (L.length + 1)).at kd) kj
  have d1 := (records_j (gl := gl) kd t (by omega)).right ((dskP (dl L) (L.length + 1)).at kd) kj
  have d2 := (head_j (gl := gl) kd t).right ((dskP (dl L) (L.length + 1)).at kd) kj
  have d3 := room_dj (gl := gl) (dl L) (L.length + 1) kd kj t (by show L.length ≤ 4096; omega) (by omega)
  have d3 : OCon Try.prog gl 18 [.c (ptrV kj 0)] (DJ (dl L) (L.length + 1) kd kj t) (I ((L.length : Int) - (t.used : Nat))) (DJ (dl L) (L.length + 1) kd kj t) := d3
  have d4 := rrecords_con (gl := gl) t.gr (by omega) (fun i hi => by have := q1 t.gr[i] (List.getElem_mem hi); omega)
  have d5 := same_con (gl := gl) t.recs t.gr.flatten (by omega) (by show t.recs.length ≤ _; omega)
  rw [decide_eq_true (show t.recs = t.gr.flatten from rfl)] at d5
  repeat' (first
 | ((with_reducible apply (r_call (f := 29))); exact rfl; exact rfl; exact cr; exact rfl; exact rfl)
 | ((with_reducible apply (r_callqO (f := 18) 0)); exact d3; exact rfl; exact rfl; exact rfl; exact rfl; exact rfl)
 | ((with_reducible apply (r_callqO (f := 32) 0)); exact d0; exact rfl; exact rfl; exact rfl; exact rfl; exact rfl)
 | ((with_reducible apply (r_callqO (f := 30) 0)); exact d1; exact rfl; exact rfl; exact rfl; exact rfl; exact rfl)
 | ((with_reducible apply (r_callqO (f := 33) 0)); exact d2; exact rfl; exact rfl; exact rfl; exact rfl; exact rfl)
 | ((with_reducible apply (r_call (f := 31))); exact rfl; exact rfl; exact d4; exact rfl; exact rfl)
 | ((with_reducible apply (r_call (f := 14))); exact rfl; exact rfl; exact d5; exact rfl; exact rfl)
 | ((with_reducible apply (r_call (args := []) (f := 11))); exact rfl; exact rfl; exact ca; exact rfl; exact rfl)
 | ((with_reducible apply aw_seq))
 | ((with_reducible apply aw_region))
 | ((with_reducible apply thn_normal))
 | ((with_reducible apply aw_ret))
 | ((with_reducible apply ao_nil))
 | ((with_reducible apply r_move); exact rfl; exact rfl)
 | ((with_reducible apply r_assign); exact rfl; exact rfl)
 | ((with_reducible apply r_field_p); exact rfl; exact rfl)
 | ((with_reducible apply r_load_p); exact rfl; exact rfl; exact rfl; exact rfl)
 | ((with_reducible apply r_eql); exact rfl; exact rfl; exact rfl)
 | ((with_reducible apply r_sub); exact rfl; exact rfl; exact (by first | assumption | (unfold fits; omega)); exact rfl)
 | ((with_reducible apply r_pick_t); exact rfl; exact rfl; exact rfl)
 | ((with_reducible apply r_len_f); exact rfl; exact inferInstance; exact rfl)
 | ((with_reducible apply r_store_pa); exact rfl; exact rfl; exact rfl; exact rfl; exact rfl; exact rfl)
 | ((with_reducible apply r_extract); exact rfl; exact rfl; exact rfl)
 | ((with_reducible apply r_alloc); exact rfl)
 | (refine aw_drawq ?_ ?_; (kernel_rfl))
 | ((with_reducible apply ds_nil))
 | (((with_reducible apply rd_guard); exact rfl; exact rfl; exact rfl) <;> intro hg <;> (first | (exact absurd hg (by decide)) | ((try rw [hg]); (try simp only [decide_eq_true_eq, decide_eq_false_iff_not, Bool.not_eq_true', Bool.not_eq_false', Bool.not_true, Bool.not_false, Bool.not_not, Int.not_lt, Int.not_le, Nat.not_lt, Nat.not_le, gt_iff_lt, ge_iff_le, List.cons.injEq, and_true] at hg); first | (exact absurd trivial hg) | (exfalso; omega) | (have hT : True := hg; clear hT hg) | skip)))
 )
  all_goals exact ret_b rfl (by simp)
end Go.Proofs.Ythkjkhffljlidaa.Jo
/- What comes into the laws on the journal, read as closed values. -/
namespace Go.Proofs.Ythkjkhffljlidaa.Jo
set_option linter.unusedVariables false
set_option linter.unusedSimpArgs false
open Go.RowKit Go.ChangeShapes Go.Proofs.Ythkjkhffljlidaa.Ev
section
variable {H : Type} {de : TypeId × Value → H} {w : World}
theorem fits_of {n : Int} (h : (Lit.int .i64 n).wf = true) : fits n := by
  unfold fits
  simp [Lit.wf, IntKind.min, IntKind.max, IntKind.bits, IntKind.signed] at h
  omega
theorem u8_of {n : Int} (h : (Lit.int .u8 n).wf = true) : 0 ≤ n ∧ n < 256 := by
  simp [Lit.wf, IntKind.min, IntKind.max, IntKind.bits, IntKind.signed] at h
  omega
theorem o_int : Opn de Try.prog w 3 (fun n : Int => [I n]) (fun n => fits n) := (opn_int Try.underlying3).imp id (fun _ => rfl) (fun _ h => fits_of h)
theorem o_u8 : Opn de Try.prog w 5 (fun n : Int => [B8 n]) (fun n => 0 ≤ n ∧ n < 256) := (opn_int Try.underlying5).imp id (fun _ => rfl) (fun _ h => u8_of h)
theorem o_str : Opn de Try.prog w 9 stC (fun b => b.size ≤ maxLen) := opn_string Try.underlying9
abbrev StrsQ (l : List ByteArray) : Prop := (∀ x ∈ l, x.size ≤ maxLen) ∧ l.length ≤ maxLen
theorem o_strs : Opn de Try.prog w 23 (fun l : List ByteArray => [LT l]) StrsQ :=
  opn_slice (size := 1) (enc := stC) Try.underlying23 (by kernel_rfl) (by decide) (fun _ => rfl) o_str
theorem o_strs' : Opn de Try.prog w 23 grC StrsQ := o_strs
theorem o_strss : Opn de Try.prog w 25 (fun l : List (List ByteArray) => [LG l]) (fun l => (∀ g ∈ l, StrsQ g) ∧ l.length ≤ maxLen) :=
  opn_slice (size := 1) (enc := grC) Try.underlying25 (by kernel_rfl) (by decide) (fun _ => rfl) o_strs'
def placeL (x : Int × ByteArray) : List CV := [B8 x.1, STR x.2]
theorem o_place : Opn de Try.prog w 33 placeL (fun x => (0 ≤ x.1 ∧ x.1 < 256) ∧ x.2.size ≤ maxLen) :=
  (opn_struct Try.underlying33 (by kernel_rfl) rfl (opnS_cons o_u8 (opnS_one o_str))).imp id (fun _ => rfl) (fun _ h => h)
end
end Go.Proofs.Ythkjkhffljlidaa.Jo
