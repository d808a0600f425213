/- JL5: texts laid together. -/
import Derived.Test.YthkjkhffljlidaaMrgX8
set_option maxRecDepth 100000
set_option maxHeartbeats 64000000
/- The law JournalDetects. -/
namespace Go.Proofs.Ythkjkhffljlidaa.Jo
set_option linter.unusedVariables false
set_option linter.unusedSimpArgs false
open Go.RowKit Go.Proofs.Ythkjkhffljlidaa.Ev Go.Proofs.Ythkjkhffljlidaa.Dk
variable {gl : List (Nat × List CV)}
theorem num_blk (c : Nat) (hc : c < 2 ^ 64) (r : ByteArray) : numS ((hexS c ++ r).extract 0 16) = (c, 0) := by rw [(cut_blk c r).1, numS_hex hc]
theorem divB_num : ∀ (k prev : Nat) (s : ByteArray), s.size ≤ k → ∀ x ∈ (divB prev s).1, (numS (x.extract 0 16)).2 = 0 ∧ 16 ≤ x.size
  | 0, prev, s, hk => by rw [divB_nil (by omega)]; exact fun x hx => by cases hx
  | k + 1, prev, s, hk => by
    by_cases h0 : s.size = 0
    · rw [divB_nil h0]; exact fun x hx => by cases hx
    · rw [divB_cons h0 rfl rfl rfl]
      intro x hx
      rcases List.mem_cons.1 hx with rfl | hx
      · rw [num_blk _ (chainS_lt _ _)]
        exact ⟨rfl, by rw [ByteArray.size_append, hexS_size]; omega⟩
      · exact divB_num k _ _ (by rw [ByteArray.size_extract]; omega) x hx
theorem divS_num (prev : Nat) (g : List ByteArray) : ∀ x ∈ (divS prev g).1, (numS (x.extract 0 16)).2 = 0 ∧ 16 ≤ x.size := by
  unfold divS
  split
  · exact fun x hx => by cases hx
  · exact divB_num _ _ _ (Nat.le_refl _)
theorem flatB_num : ∀ (gs : List (List ByteArray)) (h : Nat), ∀ x ∈ (flatB h gs).1, (numS (x.extract 0 16)).2 = 0 ∧ 16 ≤ x.size
  | [], h => fun x hx => by cases hx
  | g :: gs, h => fun x hx => by
    rw [flatB] at hx
    rcases List.mem_append.1 hx with hx | hx
    · exact divS_num h g x hx
    · exact flatB_num gs _ x hx
def hashAt (h : Nat) (l : List ByteArray) (a : Nat) : Nat := if a = 0 then h else (numS ((l.getD (a - 1) ByteArray.empty).extract 0 16)).1
theorem find_cut : ∀ (k : Nat) (s : ByteArray) (st : List UInt8) (i prev a : Nat) (J : JS) (x : ByteArray) (rest : List ByteArray), s.size ≤ k → a < (divB prev s).1.length → contS (hashAt prev (divB prev s).1 a) x = none → findG prev st i ((divB prev s).1.take a ++ x :: rest) J = J
  | 0, s, st, i, prev, a, J, x, rest, hk, ha, hc => by
    rw [divB_nil (by omega)] at ha
    exact absurd ha (Nat.not_lt_zero _)
  | k + 1, s, st, i, prev, a, J, x, rest, hk, ha, hc => by
    cases a with
    | zero =>
      rw [List.take_zero, List.nil_append]
      exact findG_none hc
    | succ a =>
      by_cases h0 : s.size = 0
      · rw [divB_nil h0] at ha
        exact absurd ha (Nat.not_lt_zero _)
      have hps : (s.extract 0 (min s.size 45)).size = min s.size 45 := by rw [ByteArray.size_extract]; omega
      have hls : (s.extract (min s.size 45) s.size).size = s.size - min s.size 45 := by rw [ByteArray.size_extract]; omega
      obtain ⟨c, hcc⟩ : ∃ c, c = chainS prev (restN (markB (decide (s.size ≤ 45))) (min s.size 45) (s.extract 0 (min s.size 45))) := ⟨_, rfl⟩
      have hcl : c < 2 ^ 64 := by rw [hcc]; exact chainS_lt _ _
      have hcb := cont_blk (h := prev) (last := decide (s.size ≤ 45)) (p := s.extract 0 (min s.size 45)) (by rw [hps]; omega) hcl
      rw [hps, if_pos hcc] at hcb
      obtain ⟨hcb1, hcb2⟩ := hcb
      rw [divB_cons h0 rfl rfl hcc] at ha hc ⊢
      have ha : a < (divB c (s.extract (min s.size 45) s.size)).1.length := by simpa using ha
      have h45 : ¬ s.size ≤ 45 := fun h => by
        rw [divB_nil (by omega)] at ha
        exact absurd ha (Nat.not_lt_zero _)
      rw [decide_eq_false h45] at hcb1 hcb2 hc ⊢
      show findG prev st i ((hexS c ++ restN (markB false) (min s.size 45) (s.extract 0 (min s.size 45))) :: ((divB c (s.extract (min s.size 45) s.size)).1.take a ++ x :: rest)) J = J
      rw [findG_more hcb1]
      refine find_cut k _ _ _ _ a J x rest (by omega) ha ?_
      have e : hashAt prev ((hexS c ++ restN (markB false) (min s.size 45) (s.extract 0 (min s.size 45))) :: (divB c (s.extract (min s.size 45) s.size)).1) (a + 1) = hashAt c (divB c (s.extract (min s.size 45) s.size)).1 a := by
        unfold hashAt
        rw [if_neg (Nat.succ_ne_zero a), Nat.add_sub_cancel]
        cases a with
        | zero => rw [if_pos rfl, List.getD_cons_zero, num_blk _ hcl]
        | succ a => rw [if_neg (Nat.succ_ne_zero a), List.getD_cons_succ, Nat.add_sub_cancel]
      rw [← e]; exact hc
def befS (h a : Nat) : List (List ByteArray) → List (List ByteArray)
  | [] => []
  | g :: gs => if (divS h g).1.length ≤ a then g :: befS (divS h g).2.1 (a - (divS h g).1.length) gs else []
theorem befS_sub : ∀ (gs : List (List ByteArray)) (h a : Nat), ∀ g ∈ befS h a gs, g ∈ gs
  | [], h, a => fun g hg => by cases hg
  | x :: gs, h, a => fun g hg => by
    rw [befS] at hg
    split at hg
    · rcases List.mem_cons.1 hg with rfl | hg
      · exact List.mem_cons_self ..
      · exact List.mem_cons_of_mem _ (befS_sub gs _ _ g hg)
    · cases hg
theorem befS_len : ∀ (gs : List (List ByteArray)) (h a : Nat), (befS h a gs).length ≤ gs.length
  | [], h, a => Nat.le_refl _
  | x :: gs, h, a => by
    rw [befS]
    split
    · have := befS_len gs (divS h x).2.1 (a - (divS h x).1.length)
      simp only [List.length_cons]; omega
    · exact Nat.zero_le _
theorem befS_all : ∀ (gs : List (List ByteArray)) (h a : Nat), (flatB h gs).1.length ≤ a → befS h a gs = gs
  | [], h, a, _ => rfl
  | x :: gs, h, a, hl => by
    rw [flatB, List.length_append] at hl
    rw [befS, if_pos (by omega), befS_all gs _ _ (by omega)]
theorem befS_snoc : ∀ (gs : List (List ByteArray)) (h a : Nat) (g : List ByteArray), befS h a (gs ++ [g]) = if (flatB h (gs ++ [g])).1.length ≤ a then gs ++ [g] else befS h a gs
  | [], h, a, g => by
    show befS h a [g] = if (flatB h [g]).1.length ≤ a then [g] else []
    have e : (flatB h [g]).1.length = (divS h g).1.length := by simp [flatB]
    rw [e, befS]
    rfl
  | x :: gs, h, a, g => by
    have e : (flatB h (x :: gs ++ [g])).1.length = (divS h x).1.length + (flatB (divS h x).2.1 (gs ++ [g])).1.length := by
      rw [List.cons_append, flatB, List.length_append]
    rw [List.cons_append, befS, ← List.cons_append, e, befS_snoc gs]
    by_cases h1 : (divS h x).1.length ≤ a
    · rw [if_pos h1, befS, if_pos h1]
      by_cases h2 : (flatB (divS h x).2.1 (gs ++ [g])).1.length ≤ a - (divS h x).1.length
      · rw [if_pos h2, if_pos (by omega)]; rfl
      · rw [if_neg h2, if_neg (by omega)]
    · rw [if_neg h1, if_neg (by omega), befS, if_neg h1]
theorem hashAt_app {h c a : Nat} {bl l : List ByteArray} (h1 : bl.length ≤ a) (h0 : 0 < bl.length) (hl : (numS ((bl.getD (bl.length - 1) ByteArray.empty).extract 0 16)).1 = c) : hashAt h (bl ++ l) a = hashAt c l (a - bl.length) := by
  unfold hashAt
  rw [if_neg (by omega)]
  by_cases h2 : a - bl.length = 0
  · rw [if_pos h2, ← hl, List.getD_eq_getElem?_getD, List.getElem?_append_left (by omega), ← List.getD_eq_getElem?_getD, show a - 1 = bl.length - 1 by omega]
  · rw [if_neg h2, List.getD_eq_getElem?_getD, List.getElem?_append_right (by omega), ← List.getD_eq_getElem?_getD, show a - 1 - bl.length = a - bl.length - 1 by omega]
theorem hashAt_lt {h a : Nat} {bl l : List ByteArray} (h1 : a ≤ bl.length) : hashAt h (bl ++ l) a = hashAt h bl a := by
  unfold hashAt
  by_cases h0 : a = 0
  · rw [if_pos h0, if_pos h0]
  · rw [if_neg h0, if_neg h0, List.getD_eq_getElem?_getD, List.getD_eq_getElem?_getD, List.getElem?_append_left (by omega)]
theorem divS_last {h : Nat} {g : List ByteArray} (hg : chkS g = 0) : 0 < (divS h g).1.length ∧ (numS (((divS h g).1.getD ((divS h g).1.length - 1) ByteArray.empty).extract 0 16)).1 = (divS h g).2.1 := by
  have hpos := stream_pos (chk_z hg).1
  obtain ⟨q1, q2, _⟩ := divB_last (streamB g).size h (streamB g) (Nat.le_refl _) (by omega)
  have hlt : (divB h (streamB g)).2 < 2 ^ 64 := by
    rw [divB_cons (by omega) rfl rfl rfl]
    exact (divB_len _ _ _ (Nat.le_refl _)).2 (chainS_lt _ _)
  rw [divS_ok hg]
  dsimp only
  refine ⟨by omega, ?_⟩
  rw [List.getD_eq_getElem?_getD, List.getElem?_eq_getElem q1, Option.getD_some, q2, numS_hex hlt]
theorem cut_one {g : List ByteArray} (hg : chkS g = 0) {prev a i : Nat} {J : JS} {x : ByteArray} {rest : List ByteArray} (ha : a < (divS prev g).1.length) (hx : contS (hashAt prev (divS prev g).1 a) x = none) : findG prev [] i ((divS prev g).1.take a ++ x :: rest) J = J := by
  rw [divS_ok hg] at ha hx ⊢
  exact find_cut (streamB g).size (streamB g) [] i prev a J x rest (Nat.le_refl _) ha hx
theorem find_cut_flat : ∀ (gs : List (List ByteArray)) (gr : List (List ByteArray)) (u h : Nat) (b : Bool) (a : Nat) (x : ByteArray) (rest : List ByteArray), (∀ g ∈ gs, chkS g = 0) → a < (flatB h gs).1.length → contS (hashAt h (flatB h gs).1 a) x = none →
    (findG h [] u ((flatB h gs).1.take a ++ x :: rest) ⟨gr, u, h, b⟩).gr = gr ++ befS h a gs
  | [], gr, u, h, b, a, x, rest, hc, ha, hx => absurd ha (Nat.not_lt_zero _)
  | g :: gs, gr, u, h, b, a, x, rest, hc, ha, hx => by
    have hg := hc g (List.mem_cons_self ..)
    have hgs : ∀ y ∈ gs, chkS y = 0 := fun y hy => hc y (List.mem_cons_of_mem _ hy)
    have hla := divS_last (h := h) hg
    have hfg := fun r => find_group hg u h ⟨gr, u, h, b⟩ r
    have hcut := fun r (h1 : a < (divS h g).1.length) h2 => cut_one (i := u) (J := ⟨gr, u, h, b⟩) (x := x) (rest := r) hg (prev := h) h1 h2
    have ih := find_cut_flat gs (gr ++ [g]) (u + (divS h g).1.length) (divS h g).2.1 b (a - (divS h g).1.length) x rest hgs
    have e1 : flatB h (g :: gs) = ((divS h g).1 ++ (flatB (divS h g).2.1 gs).1, (flatB (divS h g).2.1 gs).2) := rfl
    have e2 : befS h a (g :: gs) = if (divS h g).1.length ≤ a then g :: befS (divS h g).2.1 (a - (divS h g).1.length) gs else [] := rfl
    have e3 : (JS.mk gr u h b).add g (u + (divS h g).1.length) (divS h g).2.1 = ⟨gr ++ [g], u + (divS h g).1.length, (divS h g).2.1, b⟩ := rfl
    rw [e1] at ha hx ⊢
    rw [e2]
    rw [e3] at hfg
    generalize divS h g = v at *
    obtain ⟨bl, c, e⟩ := v
    dsimp only at *
    obtain ⟨l0, l1⟩ := hla
    rw [List.length_append] at ha
    by_cases h1 : bl.length ≤ a
    · rw [if_pos h1, List.take_append, List.take_of_length_le h1, List.append_assoc, hfg, ih (by omega) (by rw [← hx, hashAt_app h1 l0 l1]), List.append_assoc]
      rfl
    · rw [if_neg h1, List.append_nil, List.take_append_of_le_length (by omega), hcut rest (by omega) (by rw [← hx, hashAt_lt (by omega)])]
theorem Lies.take {t : JS} {L : List ByteArray} (h : Lies t L) : L.take t.used = (flatB 0 t.gr).1 := by
  conv => lhs; rw [h.eq]
  rw [List.take_append_of_le_length (by rw [h.len]; exact Nat.le_refl _), ← h.len, List.take_length]
theorem Lies.cut {t : JS} {L : List ByteArray} (h : Lies t L) {a : Nat} (ha : a < t.used) {x : ByteArray} (hx : contS (hashAt 0 L a) x = none) : (findG 0 [] 0 (L.set a x) J0).gr = befS 0 a t.gr := by
  have hle := h.le
  have e : L.set a x = (flatB 0 t.gr).1.take a ++ x :: L.drop (a + 1) := by
    rw [← h.take, List.take_take, show min a t.used = a by omega, List.set_eq_take_append_cons_drop, if_pos (by omega)]
  have e2 : hashAt 0 (L.take t.used) a = hashAt 0 L a := by
    have := hashAt_lt (h := 0) (a := a) (bl := L.take t.used) (l := L.drop t.used) (by rw [List.length_take]; omega)
    rw [List.take_append_drop] at this
    exact this.symm
  have hx' : contS (hashAt 0 (flatB 0 t.gr).1 a) x = none := by
    rw [← h.take, e2]; exact hx
  rw [e, find_cut_flat t.gr [] 0 0 false a x (L.drop (a + 1)) h.ok (by rw [h.len]; exact ha) hx', List.nil_append]
theorem jdetects_law (n : Int) (_ : fits n) (gs : List (List ByteArray)) (_ : (∀ g ∈ gs, (∀ x ∈ g, x.size ≤ maxLen) ∧ g.length ≤ maxLen) ∧ gs.length ≤ maxLen) (pl : Int × ByteArray) (hpl : (0 ≤ pl.1 ∧ pl.1 < 256) ∧ pl.2.size ≤ maxLen) : Con Try.prog gl 4 [I n, LG gs, .agg [B8 pl.1, STR pl.2]] T := by
  obtain ⟨a0, to⟩ := pl
  obtain ⟨ha0, hto⟩ := hpl
  dsimp only at ha0 hto ⊢
  have ca := awake_con (gl := gl)
  have c0 := sized_con (gl := gl) n
  have c1 := small_con (gl := gl) gs
  by_cases hok : sizedS n = true ∧ smallS gs = true ∧ to.size ≤ 64
  rotate_left
  · skip
    refine con_of Try.func4 rfl (by kernel_rfl) rfl ?_
    simp only [Try.ntmps4, Try.results4, argEnv, ofC, of1, List.map]
    cases hz : sizedS n
    all_goals rw [hz] at c0
    all_goals cases hs : smallS gs
    all_goals rw [hs] at c1
    all_goals try simp only [hz, hs, true_and, Nat.not_le] at hok
    all_goals
      repeat' (first
 | ((with_reducible apply (r_call (f := 15))); exact rfl; exact rfl; exact c0; exact rfl; exact rfl)
 | ((with_reducible apply (r_call (f := 10))); exact rfl; exact rfl; exact c1; exact rfl; exact rfl)
 | ((with_reducible apply r_len_s); exact rfl; exact rfl)
 | ((with_reducible apply (r_call (args := []) (f := 11))); exact rfl; exact rfl; exact ca; exact rfl; exact rfl)
 | ((with_reducible apply aw_seq))
 | ((with_reducible apply aw_region))
 | ((with_reducible apply thn_normal))
 | ((with_reducible apply thn_ret))
 | ((with_reducible apply aw_ret))
 | ((with_reducible apply ao_nil))
 | ((with_reducible apply r_move); exact rfl; exact rfl)
 | ((with_reducible apply r_assign); exact rfl; exact rfl)
 | ((with_reducible apply r_field_p); exact rfl; exact rfl)
 | ((with_reducible apply r_load_p); exact rfl; exact rfl; exact rfl; exact rfl)
 | ((with_reducible apply r_gtr); exact rfl; exact rfl; exact rfl)
 | ((with_reducible apply r_box_a); exact rfl; exact rfl)
 | ((with_reducible apply r_pick_t); exact rfl; exact rfl; exact rfl)
 | ((with_reducible apply r_pick_f); exact rfl; exact rfl; exact rfl)
 | ((with_reducible apply r_not); exact rfl; exact rfl)
 | (((with_reducible apply r_guard); exact rfl; exact rfl; exact rfl; exact rfl) <;> intro hg <;> (first | (exact absurd hg (by decide)) | ((try simp only [decide_eq_true_eq, decide_eq_false_iff_not, Bool.not_eq_true', Bool.not_eq_false', Bool.not_true, Bool.not_false, Bool.not_not, Int.not_lt, Int.not_le, Nat.not_lt, Nat.not_le, gt_iff_lt, ge_iff_le, List.cons.injEq, and_true] at hg); first | (exact absurd trivial hg) | (exfalso; omega) | (have hT : True := hg; clear hT hg) | skip)))
 | (((with_reducible apply aw_cond); exact rfl) <;> intro hg <;> (first | (exact absurd hg (by decide)) | ((try simp only [decide_eq_true_eq, decide_eq_false_iff_not, Bool.not_eq_true', Bool.not_eq_false', Bool.not_true, Bool.not_false, Bool.not_not, Int.not_lt, Int.not_le, Nat.not_lt, Nat.not_le, gt_iff_lt, ge_iff_le, List.cons.injEq, and_true] at hg); first | (exact absurd trivial hg) | (exfalso; omega) | (have hT : True := hg; clear hT hg) | skip)))
 )
      all_goals exact ret_b rfl rfl
  obtain ⟨hz, hs, h64⟩ := hok
  rw [hz] at c0
  rw [hs] at c1
  obtain ⟨m, rfl, hm1, hm2⟩ := sized_get hz
  obtain ⟨hb1, hb2⟩ := small_bd hs
  obtain ⟨b0, rfl⟩ : ∃ b0 : Nat, a0 = (b0 : Int) := ⟨a0.toNat, by omega⟩
  have hw0 : IntKind.i64.wrap ((b0 : Nat) : Int) = ((b0 : Nat) : Int) := i64of (by omega)
  obtain ⟨a, ha⟩ : ∃ a, a = b0 % m := ⟨_, rfl⟩
  have ham : a < m := by rw [ha]; exact Nat.mod_lt _ (by omega)
  have hrem : ((b0 : Nat) : Int).tmod ((m : Nat) : Int) = ((a : Nat) : Int) := by rw [Int.tmod_eq_emod_of_nonneg (by omega), ha]; push_cast; rfl
  clear ha
  refine con_of Try.func4 rfl (by kernel_rfl) rfl ?_
  simp only [Try.ntmps4, Try.results4, argEnv, ofC, of1, List.map]
  repeat' (first
 | ((with_reducible apply (r_call (f := 15))); exact rfl; exact rfl; exact c0; exact rfl; exact rfl)
 | ((with_reducible apply (r_call (f := 10))); exact rfl; exact rfl; exact c1; exact rfl; exact rfl)
 | ((with_reducible apply r_len_s); exact rfl; exact rfl)
 | ((with_reducible apply aw_seq))
 | ((with_reducible apply aw_region))
 | ((with_reducible apply thn_normal))
 | ((with_reducible apply aw_skip))
 | ((with_reducible apply ao_nil))
 | ((with_reducible apply r_move); exact rfl; exact rfl)
 | ((with_reducible apply r_assign); exact rfl; exact rfl)
 | ((with_reducible apply r_field_p); exact rfl; exact rfl)
 | ((with_reducible apply r_load_p); exact rfl; exact rfl; exact rfl; exact rfl)
 | ((with_reducible apply r_gtr); exact rfl; exact rfl; exact rfl)
 | ((with_reducible apply r_box_a); exact rfl; exact rfl)
 | ((with_reducible apply r_pick_f); exact rfl; exact rfl; exact rfl)
 | ((with_reducible apply r_not); exact rfl; exact rfl)
 | (((with_reducible apply r_guard); exact rfl; exact rfl; exact rfl; exact rfl) <;> intro hg <;> (first | (exact absurd hg (by decide)) | ((try simp only [decide_eq_true_eq, decide_eq_false_iff_not, Bool.not_eq_true', Bool.not_eq_false', Bool.not_true, Bool.not_false, Bool.not_not, Int.not_lt, Int.not_le, Nat.not_lt, Nat.not_le, gt_iff_lt, ge_iff_le, List.cons.injEq, and_true] at hg); first | (exact absurd trivial hg) | (exfalso; omega) | (have hT : True := hg; clear hT hg) | skip)))
 | (((with_reducible apply aw_cond); exact rfl) <;> intro hg <;> (first | (exact absurd hg (by decide)) | ((try simp only [decide_eq_true_eq, decide_eq_false_iff_not, Bool.not_eq_true', Bool.not_eq_false', Bool.not_true, Bool.not_false, Bool.not_not, Int.not_lt, Int.not_le, Nat.not_lt, Nat.not_le, gt_iff_lt, ge_iff_le, List.cons.injEq, and_true] at hg); first | (exact absurd trivial hg) | (exfalso; omega) | (have hT : True := hg; clear hT hg) | skip)))
 )
  refine r_callNE (open_law m ⟨by omega, by omega⟩) rfl ⟨.inl rfl, trivial⟩ rfl ?_
  rintro ⟨kd, kj⟩
  clear c0 c1
  repeat' (first
 | ((with_reducible apply r_eqnilp); exact rfl; exact rfl; exact rfl)
 | ((with_reducible apply r_conv); exact rfl; exact hw0; exact rfl)
 | ((with_reducible apply r_remv); exact rfl; exact rfl; exact (by omega); exact hrem; exact rfl)
 | ((with_reducible apply aw_seq))
 | ((with_reducible apply aw_region))
 | ((with_reducible apply aw_block))
 | ((with_reducible apply thn_normal))
 | ((with_reducible apply aw_skip))
 | ((with_reducible apply ao_nil))
 | ((with_reducible apply r_move); exact rfl; exact rfl)
 | ((with_reducible apply r_assign); exact rfl; exact rfl)
 | ((with_reducible apply r_field_p); exact rfl; exact rfl)
 | ((with_reducible apply r_load_p); exact rfl; exact rfl; exact rfl; exact rfl)
 | ((with_reducible apply r_extract); exact rfl; exact rfl; exact rfl)
 | (((with_reducible apply aw_cond); exact rfl) <;> intro hg <;> (first | (exact absurd hg (by decide)) | ((try simp only [decide_eq_true_eq, decide_eq_false_iff_not, Bool.not_eq_true', Bool.not_eq_false', Bool.not_true, Bool.not_false, Bool.not_not, Int.not_lt, Int.not_le, Nat.not_lt, Nat.not_le, gt_iff_lt, ge_iff_le, List.cons.injEq, and_true] at hg); first | (exact absurd trivial hg) | (exfalso; omega) | (have hT : True := hg; clear hT hg) | skip)))
 )
  refine aw_nilS 11 1 rfl ?_
  refine aw_loopG (G := Nat × DS × JS) (fun ((i, d, t) : Nat × DS × JS) => i ≤ gs.length ∧ Inv m d t ∧ t.gr.length ≤ i ∧ ∀ x ∈ t.gr, x.length ≤ 40) (fun ((i, d, t) : Nat × DS × JS) => gs.length - i) (fun ((i, d, t) : Nat × DS × JS) => [(0, A m), (1, .c (LG gs)), (5, .ptr 0 0), (7, .ptr 1 0), (8, .c (ptrV kj 0)), (9, A a), (10, .c (U 0)), (11, .c (LG (befS 0 a t.gr))), (12, A i)]) (fun ((i, d, t) : Nat × DS × JS) => [(0, some (.cells 33 [.c (B8 b0), .c (STR to)])), (1, some (.obj (DJ d (5000 * i) kd kj t)))]) 2 (0, DS.new m, J0) ?_ (by refine weak_mk rfl ?_ ?_ <;> repeat (first | exact envW_nil | exact heapW_nil | refine envW_cons rfl rfl ?_ | refine heapW_cons rfl rfl rfl ?_)) rfl ?_
  · exact ⟨Nat.zero_le _, Inv.new ⟨hm1, by omega⟩, Nat.zero_le _, fun x hx => by cases hx⟩
  rintro ⟨i, d, t⟩ hI
  try dsimp only at hI
  try dsimp only
  obtain ⟨h1, h2, h3, h4⟩ := hI
  have hu := h2.used
  have hhd := h2.head
  have hdl := h2.len
  have hfl := flatten_len t.gr 40 h4
  have hrl : t.recs.length ≤ 1000 := by show t.gr.flatten.length ≤ _; omega
  by_cases hi : i < gs.length
  · have hg := (hb2 gs[i] (List.getElem_mem hi)).1
    have ap := append_dj (gl := gl) d (5000 * i) kd kj t gs[i] (by omega) (by omega) (by omega) hhd (by omega) (by omega) (by omega)
    rw [show 5000 * i + 5000 = 5000 * (i + 1) by omega] at ap
    rcases h2.app gs[i] with ⟨e1, _, _, e4, _⟩ | ⟨hc, hl, _, e2⟩
    · rw [e1] at ap
      dsimp only at ap
      generalize (rappS t gs[i] m).2.2 = e at ap e4
      clear e1
      repeat' (first
 | ((with_reducible apply (r_callO (f := 17) 1)); exact ap; exact rfl; exact rfl; exact rfl; exact rfl)
 | ((with_reducible apply aw_seq))
 | ((with_reducible apply aw_region))
 | ((with_reducible apply aw_block))
 | ((with_reducible apply thn_normal))
 | ((with_reducible apply thn_exit))
 | ((with_reducible apply inb_exit))
 | ((with_reducible apply aw_skip))
 | ((with_reducible apply aw_exit))
 | ((with_reducible apply ao_nil))
 | ((with_reducible apply r_move); exact rfl; exact rfl)
 | ((with_reducible apply r_assign); exact rfl; exact rfl)
 | ((with_reducible apply r_lss); exact rfl; exact rfl; exact rfl)
 | ((with_reducible apply r_neq); exact rfl; exact rfl; exact rfl)
 | ((with_reducible apply r_add); exact rfl; exact rfl; exact (by first | assumption | (unfold fits; omega)); exact rfl)
 | ((with_reducible apply r_len_f); exact rfl; exact inferInstance; exact rfl)
 | ((with_reducible apply r_index_f); exact rfl; exact inferInstance; exact rfl; exact rfl; (first | assumption | omega); exact rfl)
 | ((with_reducible apply r_load_f0); exact rfl; exact inferInstance; exact List.getElem?_eq_getElem (by first | assumption | omega); exact rfl; exact rfl)
 | (((with_reducible apply aw_cond); exact rfl) <;> intro hg <;> (first | (exact absurd hg (by decide)) | ((try simp only [decide_eq_true_eq, decide_eq_false_iff_not, Bool.not_eq_true', Bool.not_eq_false', Bool.not_true, Bool.not_false, Bool.not_not, Int.not_lt, Int.not_le, Nat.not_lt, Nat.not_le, gt_iff_lt, ge_iff_le, List.cons.injEq, and_true] at hg); first | (exact absurd trivial hg) | (exfalso; omega) | (have hT : True := hg; clear hT hg) | skip)))
 )
      refine ⟨(i + 1, d, t), ?_, ?_, by refine weak_mk rfl ?_ ?_ <;> repeat (first | exact envW_nil | exact heapW_nil | refine envW_cons rfl rfl ?_ | refine heapW_cons rfl rfl rfl ?_)⟩
      · show _ - (i + 1) < _ - i; omega
      · exact ⟨hi, h2, by show t.gr.length ≤ i + 1; omega, h4⟩
    · obtain ⟨b1, b2⟩ := add_bd (u := t.used + (divS t.head gs[i]).1.length) (h := (divS t.head gs[i]).2.1) h3 h4 hg
      have hi' := h2.add hc hl
      rw [e2] at ap
      dsimp only at ap
      have hbs := befS_snoc t.gr 0 a gs[i]
      have hfb : (flatB 0 (t.gr ++ [gs[i]])).1.length = t.used + (divS t.head gs[i]).1.length := by
        rw [flatB_snoc, h2.lies.head]
        show ((flatB 0 t.gr).1 ++ _).length = _
        rw [List.length_append, h2.lies.len]
      rw [hfb] at hbs
      have hba : t.used + (divS t.head gs[i]).1.length ≤ a → befS 0 a t.gr = t.gr := fun h => befS_all t.gr 0 a (by rw [h2.lies.len]; omega)
      have hgr : (t.add gs[i] (t.used + (divS t.head gs[i]).1.length) (divS t.head gs[i]).2.1).gr = t.gr ++ [gs[i]] := rfl
      have hused : (t.add gs[i] (t.used + (divS t.head gs[i]).1.length) (divS t.head gs[i]).2.1).used = t.used + (divS t.head gs[i]).1.length := rfl
      generalize t.used + (divS t.head gs[i]).1.length = u at *
      generalize t.add gs[i] u (divS t.head gs[i]).2.1 = t' at *
      generalize ({ d with blocks := putAt d.blocks t.used (divS t.head gs[i]).1 } : DS) = d' at *
      have hdl' := hi'.len
      have rm := room_dj (gl := gl) d' (5000 * (i + 1)) kd kj t' (by omega) (by omega)
      rw [hdl', hused] at rm
      have cw := with_con (gl := gl) (befS 0 a t.gr) gs[i] (by have := befS_len t.gr 0 a; omega)
      by_cases hua : u ≤ a
      · rw [if_pos hua, ← hgr] at hbs
        have hba := hba hua
        rw [hba] at cw
        rw [← hgr, ← hbs] at cw
        rw [hba]
        clear e2
        repeat' (first
 | ((with_reducible apply (r_callO (f := 17) 1)); exact ap; exact rfl; exact rfl; exact rfl; exact rfl)
 | ((with_reducible apply (r_callqO (f := 18) 1)); exact rm; exact rfl; exact rfl; exact rfl; exact rfl; exact rfl)
 | ((with_reducible apply (r_call (f := 19))); exact rfl; exact rfl; exact cw; exact rfl; exact rfl)
 | ((with_reducible apply aw_seq))
 | ((with_reducible apply aw_region))
 | ((with_reducible apply aw_block))
 | ((with_reducible apply thn_normal))
 | ((with_reducible apply inb_normal))
 | ((with_reducible apply aw_skip))
 | ((with_reducible apply ao_nil))
 | ((with_reducible apply r_move); exact rfl; exact rfl)
 | ((with_reducible apply r_assign); exact rfl; exact rfl)
 | ((with_reducible apply r_lss); exact rfl; exact rfl; exact rfl)
 | ((with_reducible apply r_leq); exact rfl; exact rfl; exact rfl)
 | ((with_reducible apply r_neq); exact rfl; exact rfl; exact rfl)
 | ((with_reducible apply r_add); exact rfl; exact rfl; exact (by first | assumption | (unfold fits; omega)); exact rfl)
 | ((with_reducible apply r_sub); exact rfl; exact rfl; exact (by first | assumption | (unfold fits; omega)); exact rfl)
 | ((with_reducible apply r_len_f); exact rfl; exact inferInstance; exact rfl)
 | ((with_reducible apply r_index_f); exact rfl; exact inferInstance; exact rfl; exact rfl; (first | assumption | omega); exact rfl)
 | ((with_reducible apply r_load_f0); exact rfl; exact inferInstance; exact List.getElem?_eq_getElem (by first | assumption | omega); exact rfl; exact rfl)
 | (((with_reducible apply aw_cond); exact rfl) <;> intro hg <;> (first | (exact absurd hg (by decide)) | ((try simp only [decide_eq_true_eq, decide_eq_false_iff_not, Bool.not_eq_true', Bool.not_eq_false', Bool.not_true, Bool.not_false, Bool.not_not, Int.not_lt, Int.not_le, Nat.not_lt, Nat.not_le, gt_iff_lt, ge_iff_le, List.cons.injEq, and_true] at hg); first | (exact absurd trivial hg) | (exfalso; omega) | (have hT : True := hg; clear hT hg) | skip)))
 )
        refine ⟨(i + 1, d', t'), ?_, ?_, by refine weak_mk rfl ?_ ?_ <;> repeat (first | exact envW_nil | exact heapW_nil | refine envW_cons rfl rfl ?_ | refine heapW_cons rfl rfl rfl ?_)⟩
        · show _ - (i + 1) < _ - i; omega
        · exact ⟨hi, hi', b1, b2⟩
      · rw [if_neg hua, ← hgr] at hbs
        rw [← hbs]
        clear e2
        repeat' (first
 | ((with_reducible apply (r_callO (f := 17) 1)); exact ap; exact rfl; exact rfl; exact rfl; exact rfl)
 | ((with_reducible apply (r_callqO (f := 18) 1)); exact rm; exact rfl; exact rfl; exact rfl; exact rfl; exact rfl)
 | ((with_reducible apply aw_seq))
 | ((with_reducible apply aw_region))
 | ((with_reducible apply aw_block))
 | ((with_reducible apply thn_normal))
 | ((with_reducible apply inb_normal))
 | ((with_reducible apply aw_skip))
 | ((with_reducible apply ao_nil))
 | ((with_reducible apply r_move); exact rfl; exact rfl)
 | ((with_reducible apply r_assign); exact rfl; exact rfl)
 | ((with_reducible apply r_lss); exact rfl; exact rfl; exact rfl)
 | ((with_reducible apply r_leq); exact rfl; exact rfl; exact rfl)
 | ((with_reducible apply r_neq); exact rfl; exact rfl; exact rfl)
 | ((with_reducible apply r_add); exact rfl; exact rfl; exact (by first | assumption | (unfold fits; omega)); exact rfl)
 | ((with_reducible apply r_sub); exact rfl; exact rfl; exact (by first | assumption | (unfold fits; omega)); exact rfl)
 | ((with_reducible apply r_len_f); exact rfl; exact inferInstance; exact rfl)
 | ((with_reducible apply r_index_f); exact rfl; exact inferInstance; exact rfl; exact rfl; (first | assumption | omega); exact rfl)
 | ((with_reducible apply r_load_f0); exact rfl; exact inferInstance; exact List.getElem?_eq_getElem (by first | assumption | omega); exact rfl; exact rfl)
 | (((with_reducible apply aw_cond); exact rfl) <;> intro hg <;> (first | (exact absurd hg (by decide)) | ((try simp only [decide_eq_true_eq, decide_eq_false_iff_not, Bool.not_eq_true', Bool.not_eq_false', Bool.not_true, Bool.not_false, Bool.not_not, Int.not_lt, Int.not_le, Nat.not_lt, Nat.not_le, gt_iff_lt, ge_iff_le, List.cons.injEq, and_true] at hg); first | (exact absurd trivial hg) | (exfalso; omega) | (have hT : True := hg; clear hT hg) | skip)))
 )
        refine ⟨(i + 1, d', t'), ?_, ?_, by refine weak_mk rfl ?_ ?_ <;> repeat (first | exact envW_nil | exact heapW_nil | refine envW_cons rfl rfl ?_ | refine heapW_cons rfl rfl rfl ?_)⟩
        · show _ - (i + 1) < _ - i; omega
        · exact ⟨hi, hi', b1, b2⟩
  obtain rfl : i = gs.length := by omega
  obtain ⟨c, hc⟩ : ∃ c, c = 5000 * gs.length := ⟨_, rfl⟩
  rw [← hc]
  have rm := room_dj (gl := gl) d c kd kj t (by omega) (by omega)
  rw [hdl] at rm
  by_cases hau : t.used ≤ a
  · skip
    repeat' (first
 | ((with_reducible apply (r_callqO (f := 18) 1)); exact rm; exact rfl; exact rfl; exact rfl; exact rfl; exact rfl)
 | ((with_reducible apply (r_call (args := []) (f := 11))); exact rfl; exact rfl; exact ca; exact rfl; exact rfl)
 | ((with_reducible apply aw_seq))
 | ((with_reducible apply aw_region))
 | ((with_reducible apply thn_normal))
 | ((with_reducible apply thn_ret))
 | ((with_reducible apply thn_exit))
 | ((with_reducible apply inb_exit))
 | ((with_reducible apply aw_exit))
 | ((with_reducible apply aw_ret))
 | ((with_reducible apply ao_nil))
 | ((with_reducible apply r_move); exact rfl; exact rfl)
 | ((with_reducible apply r_assign); exact rfl; exact rfl)
 | ((with_reducible apply r_lss); exact rfl; exact rfl; exact rfl)
 | ((with_reducible apply r_geq); exact rfl; exact rfl; exact rfl)
 | ((with_reducible apply r_sub); exact rfl; exact rfl; exact (by first | assumption | (unfold fits; omega)); exact rfl)
 | ((with_reducible apply r_len_f); exact rfl; exact inferInstance; exact rfl)
 | (((with_reducible apply aw_cond); exact rfl) <;> intro hg <;> (first | (exact absurd hg (by decide)) | ((try simp only [decide_eq_true_eq, decide_eq_false_iff_not, Bool.not_eq_true', Bool.not_eq_false', Bool.not_true, Bool.not_false, Bool.not_not, Int.not_lt, Int.not_le, Nat.not_lt, Nat.not_le, gt_iff_lt, ge_iff_le, List.cons.injEq, and_true] at hg); first | (exact absurd trivial hg) | (exfalso; omega) | (have hT : True := hg; clear hT hg) | skip)))
 )
    all_goals exact ret_b rfl rfl
  obtain ⟨h, hh⟩ : ∃ h, h = hashAt 0 d.blocks a := ⟨_, rfl⟩
  have hhlt : h < 2 ^ 64 := by
    rw [hh]; unfold hashAt
    split
    · decide
    · exact numS_bd _
  have cc := continues_con (gl := gl) h hhlt to (by omega)
  unfold conV at cc
  have cw := ((dsk_write (gl := gl) d c (by omega) (a : Int) to hto).at0 kd).left kj (jP kd t)
  rw [write_free h2.quiet.up h2.quiet.free (n := a) (by omega) h64] at cw
  dsimp only at cw
  have cf := ((dsk_flush (gl := gl) { d with pend := d.pend ++ [((a : Int), to)] } (c + 1) (by omega)).at0 kd).left kj (jP kd t)
  rw [flush_free (d := { d with pend := d.pend ++ [((a : Int), to)] }) h2.quiet.up h2.quiet.free] at cf
  dsimp only at cf
  have hset : settleGo (fun _ => true) 0 (d.pend ++ [((a : Int), to)]) d.blocks = d.blocks.set a to := by
    rw [h2.quiet.none]; rfl
  rw [hset] at cf
  have hfine : Fine ({ d with blocks := d.blocks.set a to, pend := [] } : DS) := by
    refine ⟨?_, ?_, ?_, h2.fine.steps, h2.fine.mask⟩
    · show 1 ≤ (d.blocks.set a to).length ∧ _ ; rw [List.length_set]; exact h2.fine.len
    · intro x hx
      rcases List.mem_or_eq_of_mem_set hx with hx | hx
      · exact h2.fine.text x hx
      · rw [hx]; exact h64
    · intro x hx
      have hx : x ∈ ([] : List (Int × ByteArray)) := hx
      cases hx
  have co := (again_up (gl := gl) ({ d with blocks := d.blocks.set a to, pend := [] } : DS) (c + 1 + 1) kd h2.quiet.up hfine).left kj (jP kd t)
  have hop : openD ({ d with blocks := d.blocks.set a to, pend := [] } : DS) = findG 0 [] 0 (d.blocks.set a to) J0 := openD_quiet h2.quiet.up rfl
  have hcut : contS h to = none → (openD ({ d with blocks := d.blocks.set a to, pend := [] } : DS)).gr = befS 0 a t.gr := fun hn => by
    rw [hop]; exact h2.lies.cut (by omega) (by rw [← hh]; exact hn)
  generalize openD ({ d with blocks := d.blocks.set a to, pend := [] } : DS) = t2 at co hcut
  have hcnt : contS h to = none → ∃ b : Bool, b = true ∧ ∀ kk, OCon Try.prog gl 26 [.c (ptrV kk 0), .c (LG (befS 0 a t.gr))] (starP (DJ ({ d with blocks := d.blocks.set a to, pend := [] } : DS) (c + 1 + 1) kd kk t2) kj (jP kd t)) (BO b) (starP (DJ ({ d with blocks := d.blocks.set a to, pend := [] } : DS) (c + 1 + 1) kd kk t2) kj (jP kd t)) := fun hn => by
    have e := hcut hn
    have hl := befS_len t.gr 0 a
    have h40 : ∀ g ∈ befS 0 a t.gr, g.length ≤ 40 := fun g hg => h4 g (befS_sub t.gr 0 a g hg)
    have hf2 := flatten_len (befS 0 a t.gr) 40 h40
    refine ⟨isS t2 (befS 0 a t.gr), ?_, fun kk => (is_dj (gl := gl) _ (c + 1 + 1) kd kk t2 (befS 0 a t.gr) (by omega) (fun i hi => by have := h40 _ (List.getElem_mem hi); omega) (by show t2.gr.flatten.length ≤ _; rw [e]; omega) (by rw [e]; omega)).left kj (jP kd t)⟩
    unfold isS
    rw [decide_eq_true (by rw [e]), decide_eq_true (by show t2.gr.flatten = _; rw [e])]
    rfl
  have hrd : 0 < a → ∃ x, d.read (((a : Nat) : Int) - 1) = (x, 0) ∧ 16 ≤ x.size ∧ numS (x.extract 0 16) = (h, 0) := fun h0 => by
    have hb : a - 1 < d.blocks.length := by omega
    refine ⟨d.blocks[a - 1], ?_, ?_⟩
    · rw [show ((a : Nat) : Int) - 1 = ((a - 1 : Nat) : Int) by omega, read_eq h2.quiet.up (a - 1) hb, h2.quiet.none]
      simp [newest, List.getD_eq_getElem?_getD, hb]
    · have hmem : d.blocks[a - 1] ∈ (flatB 0 t.gr).1 := by
        rw [← h2.lies.take]
        exact List.mem_take_iff_getElem.2 ⟨a - 1, by omega, rfl⟩
      obtain ⟨q1, q2⟩ := flatB_num t.gr 0 _ hmem
      refine ⟨q2, Prod.ext ?_ q1⟩
      rw [hh]; unfold hashAt
      rw [if_neg (by omega), List.getD_eq_getElem?_getD, List.getElem?_eq_getElem hb]
      rfl
  clear hop hset
  generalize ({ d with blocks := d.blocks.set a to, pend := [] } : DS) = d2 at cf co hcnt
  cases hcs : contS h to with
  | some v =>
    obtain ⟨v1, v2⟩ := v
    rw [hcs] at cc
    by_cases h0 : 0 < a
    · obtain ⟨x, e1, e2, e3⟩ := hrd h0
      have cr := ((dsk_read (gl := gl) d c (((a : Nat) : Int) - 1)).at0 kd).left kj (jP kd t)
      rw [e1] at cr
      have cn := number_con (gl := gl) (x.extract 0 16) (by rw [ByteArray.size_extract]; omega)
      rw [e3] at cn
      have hmin : min (16 : Int) (x.size : Int) = ((16 : Nat) : Int) := by omega
      repeat' (first
 | (rw [hmin])
 | ((with_reducible apply (r_callqO (f := 18) 1)); exact rm; exact rfl; exact rfl; exact rfl; exact rfl; exact rfl)
 | ((with_reducible apply (r_callqO (f := 20) 1)); exact cr; exact rfl; exact rfl; exact rfl; exact rfl; exact rfl)
 | ((with_reducible apply r_len_s); exact rfl; exact rfl)
 | ((with_reducible apply (r_cutTo 16)); exact rfl; exact rfl; exact rfl; exact e2; exact rfl)
 | ((with_reducible apply (r_call (f := 21))); exact rfl; exact rfl; exact cn; exact rfl; exact rfl)
 | ((with_reducible apply (r_call (f := 22))); exact rfl; exact rfl; exact cc; exact rfl; exact rfl)
 | ((with_reducible apply (r_call (args := []) (f := 11))); exact rfl; exact rfl; exact ca; exact rfl; exact rfl)
 | ((with_reducible apply aw_seq))
 | ((with_reducible apply aw_region))
 | ((with_reducible apply thn_normal))
 | ((with_reducible apply thn_ret))
 | ((with_reducible apply thn_exit))
 | ((with_reducible apply inb_exit))
 | ((with_reducible apply aw_skip))
 | ((with_reducible apply aw_exit))
 | ((with_reducible apply aw_ret))
 | ((with_reducible apply ao_nil))
 | ((with_reducible apply r_move); exact rfl; exact rfl)
 | ((with_reducible apply r_assign); exact rfl; exact rfl)
 | ((with_reducible apply r_field_p); exact rfl; exact rfl)
 | ((with_reducible apply r_load_p); exact rfl; exact rfl; exact rfl; exact rfl)
 | ((with_reducible apply r_lss); exact rfl; exact rfl; exact rfl)
 | ((with_reducible apply r_gtr); exact rfl; exact rfl; exact rfl)
 | ((with_reducible apply r_geq); exact rfl; exact rfl; exact rfl)
 | ((with_reducible apply r_neq); exact rfl; exact rfl; exact rfl)
 | ((with_reducible apply r_sub); exact rfl; exact rfl; exact (by first | assumption | (unfold fits; omega)); exact rfl)
 | ((with_reducible apply r_min); exact rfl; exact rfl; exact rfl)
 | ((with_reducible apply r_pick_f); exact rfl; exact rfl; exact rfl)
 | ((with_reducible apply r_len_f); exact rfl; exact inferInstance; exact rfl)
 | ((with_reducible apply r_extract); exact rfl; exact rfl; exact rfl)
 | (((with_reducible apply r_guard); exact rfl; exact rfl; exact rfl; exact rfl) <;> intro hg <;> (first | (exact absurd hg (by decide)) | ((try simp only [decide_eq_true_eq, decide_eq_false_iff_not, Bool.not_eq_true', Bool.not_eq_false', Bool.not_true, Bool.not_false, Bool.not_not, Int.not_lt, Int.not_le, Nat.not_lt, Nat.not_le, gt_iff_lt, ge_iff_le, List.cons.injEq, and_true] at hg); first | (exact absurd trivial hg) | (exfalso; omega) | (have hT : True := hg; clear hT hg) | skip)))
 | (((with_reducible apply aw_cond); exact rfl) <;> intro hg <;> (first | (exact absurd hg (by decide)) | ((try simp only [decide_eq_true_eq, decide_eq_false_iff_not, Bool.not_eq_true', Bool.not_eq_false', Bool.not_true, Bool.not_false, Bool.not_not, Int.not_lt, Int.not_le, Nat.not_lt, Nat.not_le, gt_iff_lt, ge_iff_le, List.cons.injEq, and_true] at hg); first | (exact absurd trivial hg) | (exfalso; omega) | (have hT : True := hg; clear hT hg) | skip)))
 )
      all_goals exact ret_b rfl rfl
    · have e0 : h = 0 := by rw [hh]; unfold hashAt; rw [if_pos (by omega)]
      rw [e0] at cc
      repeat' (first
 | ((with_reducible apply (r_callqO (f := 18) 1)); exact rm; exact rfl; exact rfl; exact rfl; exact rfl; exact rfl)
 | ((with_reducible apply (r_call (f := 22))); exact rfl; exact rfl; exact cc; exact rfl; exact rfl)
 | ((with_reducible apply (r_call (args := []) (f := 11))); exact rfl; exact rfl; exact ca; exact rfl; exact rfl)
 | ((with_reducible apply aw_seq))
 | ((with_reducible apply aw_region))
 | ((with_reducible apply thn_normal))
 | ((with_reducible apply thn_ret))
 | ((with_reducible apply thn_exit))
 | ((with_reducible apply inb_exit))
 | ((with_reducible apply aw_skip))
 | ((with_reducible apply aw_exit))
 | ((with_reducible apply aw_ret))
 | ((with_reducible apply ao_nil))
 | ((with_reducible apply r_move); exact rfl; exact rfl)
 | ((with_reducible apply r_assign); exact rfl; exact rfl)
 | ((with_reducible apply r_field_p); exact rfl; exact rfl)
 | ((with_reducible apply r_load_p); exact rfl; exact rfl; exact rfl; exact rfl)
 | ((with_reducible apply r_lss); exact rfl; exact rfl; exact rfl)
 | ((with_reducible apply r_gtr); exact rfl; exact rfl; exact rfl)
 | ((with_reducible apply r_geq); exact rfl; exact rfl; exact rfl)
 | ((with_reducible apply r_sub); exact rfl; exact rfl; exact (by first | assumption | (unfold fits; omega)); exact rfl)
 | ((with_reducible apply r_len_f); exact rfl; exact inferInstance; exact rfl)
 | ((with_reducible apply r_extract); exact rfl; exact rfl; exact rfl)
 | (((with_reducible apply aw_cond); exact rfl) <;> intro hg <;> (first | (exact absurd hg (by decide)) | ((try simp only [decide_eq_true_eq, decide_eq_false_iff_not, Bool.not_eq_true', Bool.not_eq_false', Bool.not_true, Bool.not_false, Bool.not_not, Int.not_lt, Int.not_le, Nat.not_lt, Nat.not_le, gt_iff_lt, ge_iff_le, List.cons.injEq, and_true] at hg); first | (exact absurd trivial hg) | (exfalso; omega) | (have hT : True := hg; clear hT hg) | skip)))
 )
      all_goals exact ret_b rfl rfl
  | none =>
    rw [hcs] at cc
    obtain ⟨b, hb, ci⟩ := hcnt hcs
    subst hb
    by_cases h0 : 0 < a
    · obtain ⟨x, e1, e2, e3⟩ := hrd h0
      have cr := ((dsk_read (gl := gl) d c (((a : Nat) : Int) - 1)).at0 kd).left kj (jP kd t)
      rw [e1] at cr
      have cn := number_con (gl := gl) (x.extract 0 16) (by rw [ByteArray.size_extract]; omega)
      rw [e3] at cn
      have hmin : min (16 : Int) (x.size : Int) = ((16 : Nat) : Int) := by omega
      repeat' (first
 | (rw [hmin])
 | ((with_reducible apply (r_callqO (f := 18) 1)); exact rm; exact rfl; exact rfl; exact rfl; exact rfl; exact rfl)
 | ((with_reducible apply (r_callqO (f := 20) 1)); exact cr; exact rfl; exact rfl; exact rfl; exact rfl; exact rfl)
 | ((with_reducible apply r_len_s); exact rfl; exact rfl)
 | ((with_reducible apply (r_cutTo 16)); exact rfl; exact rfl; exact rfl; exact e2; exact rfl)
 | ((with_reducible apply (r_call (f := 21))); exact rfl; exact rfl; exact cn; exact rfl; exact rfl)
 | ((with_reducible apply (r_call (f := 22))); exact rfl; exact rfl; exact cc; exact rfl; exact rfl)
 | ((with_reducible apply (r_callO (f := 23) 1)); exact cw; exact rfl; exact rfl; exact rfl; exact rfl)
 | ((with_reducible apply (r_callO (f := 24) 1)); exact cf; exact rfl; exact rfl; exact rfl; exact rfl)
 | ((with_reducible apply aw_seq))
 | ((with_reducible apply aw_region))
 | ((with_reducible apply thn_normal))
 | ((with_reducible apply thn_exit))
 | ((with_reducible apply inb_exit))
 | ((with_reducible apply aw_skip))
 | ((with_reducible apply aw_exit))
 | ((with_reducible apply ao_nil))
 | ((with_reducible apply r_move); exact rfl; exact rfl)
 | ((with_reducible apply r_assign); exact rfl; exact rfl)
 | ((with_reducible apply r_field_p); exact rfl; exact rfl)
 | ((with_reducible apply r_load_p); exact rfl; exact rfl; exact rfl; exact rfl)
 | ((with_reducible apply r_lss); exact rfl; exact rfl; exact rfl)
 | ((with_reducible apply r_gtr); exact rfl; exact rfl; exact rfl)
 | ((with_reducible apply r_geq); exact rfl; exact rfl; exact rfl)
 | ((with_reducible apply r_neq); exact rfl; exact rfl; exact rfl)
 | ((with_reducible apply r_sub); exact rfl; exact rfl; exact (by first | assumption | (unfold fits; omega)); exact rfl)
 | ((with_reducible apply r_min); exact rfl; exact rfl; exact rfl)
 | ((with_reducible apply r_pick_f); exact rfl; exact rfl; exact rfl)
 | ((with_reducible apply r_len_f); exact rfl; exact inferInstance; exact rfl)
 | ((with_reducible apply r_extract); exact rfl; exact rfl; exact rfl)
 | (((with_reducible apply r_guard); exact rfl; exact rfl; exact rfl; exact rfl) <;> intro hg <;> (first | (exact absurd hg (by decide)) | ((try simp only [decide_eq_true_eq, decide_eq_false_iff_not, Bool.not_eq_true', Bool.not_eq_false', Bool.not_true, Bool.not_false, Bool.not_not, Int.not_lt, Int.not_le, Nat.not_lt, Nat.not_le, gt_iff_lt, ge_iff_le, List.cons.injEq, and_true] at hg); first | (exact absurd trivial hg) | (exfalso; omega) | (have hT : True := hg; clear hT hg) | skip)))
 | (((with_reducible apply aw_cond); exact rfl) <;> intro hg <;> (first | (exact absurd hg (by decide)) | ((try simp only [decide_eq_true_eq, decide_eq_false_iff_not, Bool.not_eq_true', Bool.not_eq_false', Bool.not_true, Bool.not_false, Bool.not_not, Int.not_lt, Int.not_le, Nat.not_lt, Nat.not_le, gt_iff_lt, ge_iff_le, List.cons.injEq, and_true] at hg); first | (exact absurd trivial hg) | (exfalso; omega) | (have hT : True := hg; clear hT hg) | skip)))
 )
      refine r_callOE (f := 25) 1 co rfl rfl rfl rfl (fun kk => ?_)
      have ci := ci kk
      repeat' (first
 | ((with_reducible apply (r_callqO (f := 26) 1)); exact ci; exact rfl; exact rfl; exact rfl; exact rfl; exact rfl)
 | ((with_reducible apply r_neqnil1); exact rfl; exact rfl; exact rfl)
 | ((with_reducible apply (r_call (args := []) (f := 11))); exact rfl; exact rfl; exact ca; exact rfl; exact rfl)
 | ((with_reducible apply aw_seq))
 | ((with_reducible apply aw_region))
 | ((with_reducible apply thn_normal))
 | ((with_reducible apply aw_ret))
 | ((with_reducible apply ao_nil))
 | ((with_reducible apply r_move); exact rfl; exact rfl)
 | ((with_reducible apply r_assign); exact rfl; exact rfl)
 | ((with_reducible apply r_pick_t); exact rfl; exact rfl; exact rfl)
 | (((with_reducible apply r_guard); exact rfl; exact rfl; exact rfl; exact rfl) <;> intro hg <;> (first | (exact absurd hg (by decide)) | ((try simp only [decide_eq_true_eq, decide_eq_false_iff_not, Bool.not_eq_true', Bool.not_eq_false', Bool.not_true, Bool.not_false, Bool.not_not, Int.not_lt, Int.not_le, Nat.not_lt, Nat.not_le, gt_iff_lt, ge_iff_le, List.cons.injEq, and_true] at hg); first | (exact absurd trivial hg) | (exfalso; omega) | (have hT : True := hg; clear hT hg) | skip)))
 )
      all_goals exact ret_b rfl rfl
    · have e0 : h = 0 := by rw [hh]; unfold hashAt; rw [if_pos (by omega)]
      rw [e0] at cc
      repeat' (first
 | ((with_reducible apply (r_callqO (f := 18) 1)); exact rm; exact rfl; exact rfl; exact rfl; exact rfl; exact rfl)
 | ((with_reducible apply (r_call (f := 22))); exact rfl; exact rfl; exact cc; exact rfl; exact rfl)
 | ((with_reducible apply (r_callO (f := 23) 1)); exact cw; exact rfl; exact rfl; exact rfl; exact rfl)
 | ((with_reducible apply (r_callO (f := 24) 1)); exact cf; exact rfl; exact rfl; exact rfl; exact rfl)
 | ((with_reducible apply aw_seq))
 | ((with_reducible apply aw_region))
 | ((with_reducible apply thn_normal))
 | ((with_reducible apply thn_exit))
 | ((with_reducible apply inb_exit))
 | ((with_reducible apply aw_skip))
 | ((with_reducible apply aw_exit))
 | ((with_reducible apply ao_nil))
 | ((with_reducible apply r_move); exact rfl; exact rfl)
 | ((with_reducible apply r_assign); exact rfl; exact rfl)
 | ((with_reducible apply r_field_p); exact rfl; exact rfl)
 | ((with_reducible apply r_load_p); exact rfl; exact rfl; exact rfl; exact rfl)
 | ((with_reducible apply r_lss); exact rfl; exact rfl; exact rfl)
 | ((with_reducible apply r_gtr); exact rfl; exact rfl; exact rfl)
 | ((with_reducible apply r_geq); exact rfl; exact rfl; exact rfl)
 | ((with_reducible apply r_neq); exact rfl; exact rfl; exact rfl)
 | ((with_reducible apply r_sub); exact rfl; exact rfl; exact (by first | assumption | (unfold fits; omega)); exact rfl)
 | ((with_reducible apply r_pick_f); exact rfl; exact rfl; exact rfl)
 | ((with_reducible apply r_len_f); exact rfl; exact inferInstance; exact rfl)
 | ((with_reducible apply r_extract); exact rfl; exact rfl; exact rfl)
 | (((with_reducible apply r_guard); exact rfl; exact rfl; exact rfl; exact rfl) <;> intro hg <;> (first | (exact absurd hg (by decide)) | ((try simp only [decide_eq_true_eq, decide_eq_false_iff_not, Bool.not_eq_true', Bool.not_eq_false', Bool.not_true, Bool.not_false, Bool.not_not, Int.not_lt, Int.not_le, Nat.not_lt, Nat.not_le, gt_iff_lt, ge_iff_le, List.cons.injEq, and_true] at hg); first | (exact absurd trivial hg) | (exfalso; omega) | (have hT : True := hg; clear hT hg) | skip)))
 | (((with_reducible apply aw_cond); exact rfl) <;> intro hg <;> (first | (exact absurd hg (by decide)) | ((try simp only [decide_eq_true_eq, decide_eq_false_iff_not, Bool.not_eq_true', Bool.not_eq_false', Bool.not_true, Bool.not_false, Bool.not_not, Int.not_lt, Int.not_le, Nat.not_lt, Nat.not_le, gt_iff_lt, ge_iff_le, List.cons.injEq, and_true] at hg); first | (exact absurd trivial hg) | (exfalso; omega) | (have hT : True := hg; clear hT hg) | skip)))
 )
      refine r_callOE (f := 25) 1 co rfl rfl rfl rfl (fun kk => ?_)
      have ci := ci kk
      repeat' (first
 | ((with_reducible apply (r_callqO (f := 26) 1)); exact ci; exact rfl; exact rfl; exact rfl; exact rfl; exact rfl)
 | ((with_reducible apply r_neqnil1); exact rfl; exact rfl; exact rfl)
 | ((with_reducible apply (r_call (args := []) (f := 11))); exact rfl; exact rfl; exact ca; exact rfl; exact rfl)
 | ((with_reducible apply aw_seq))
 | ((with_reducible apply aw_region))
 | ((with_reducible apply thn_normal))
 | ((with_reducible apply aw_ret))
 | ((with_reducible apply ao_nil))
 | ((with_reducible apply r_move); exact rfl; exact rfl)
 | ((with_reducible apply r_assign); exact rfl; exact rfl)
 | ((with_reducible apply r_pick_t); exact rfl; exact rfl; exact rfl)
 | (((with_reducible apply r_guard); exact rfl; exact rfl; exact rfl; exact rfl) <;> intro hg <;> (first | (exact absurd hg (by decide)) | ((try simp only [decide_eq_true_eq, decide_eq_false_iff_not, Bool.not_eq_true', Bool.not_eq_false', Bool.not_true, Bool.not_false, Bool.not_not, Int.not_lt, Int.not_le, Nat.not_lt, Nat.not_le, gt_iff_lt, ge_iff_le, List.cons.injEq, and_true] at hg); first | (exact absurd trivial hg) | (exfalso; omega) | (have hT : True := hg; clear hT hg) | skip)))
 )
      all_goals exact ret_b rfl rfl
end Go.Proofs.Ythkjkhffljlidaa.Jo
