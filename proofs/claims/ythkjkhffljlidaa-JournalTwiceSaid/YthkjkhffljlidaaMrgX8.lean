/- JL7: texts laid together. -/
import Derived.Test.YthkjkhffljlidaaMrgX7
set_option maxRecDepth 100000
set_option maxHeartbeats 64000000
/- The journal: the reference's Clash. -/
namespace Go.Proofs.Ythkjkhffljlidaa.Jo
set_option linter.unusedVariables false
set_option linter.unusedSimpArgs false
open Go.RowKit Go.Proofs.Ythkjkhffljlidaa.Ev Go.Proofs.Ythkjkhffljlidaa.Dk
variable {gl : List (Nat × List CV)}
theorem divS_ent (p : Nat) (g : List ByteArray) : (divS p g).1 = (entS p g).map blk := by
  unfold entS
  by_cases hc : chkS g = 0
  · rw [if_pos hc, divS_ok hc]
    exact divB_E _ _ _ (Nat.le_refl _)
  · rw [if_neg hc]
    unfold divS
    rw [if_pos hc]; rfl
structure EG (p : Nat) (F : List Ent) : Prop where
  lt : ∀ k (hk : k < F.length), F[k].2.1 < 2 ^ 64
  rest : ∀ k (hk : k < F.length), F[k].2.2.size ≤ 48
  first : ∀ h : 0 < F.length, F[0].1 = p
  next : ∀ k (hk : k + 1 < F.length), F[k + 1].1 = F[k].2.1
theorem entS_facts (p : Nat) (g : List ByteArray) : EG p (entS p g) := by
  unfold entS
  split
  · have F := divE_facts (streamB g).size p (streamB g) (Nat.le_refl _)
    refine ⟨fun k hk => (F.ok k hk).lt, fun k hk => ?_, F.first, F.next⟩
    obtain ⟨q, h1, h2, h3, _⟩ := (F.ok k hk).rest
    rw [h3, restN_size]; omega
  · exact ⟨fun k hk => absurd hk (Nat.not_lt_zero _), fun k hk => absurd hk (Nat.not_lt_zero _), fun h => absurd h (Nat.not_lt_zero _), fun k hk => absurd hk (Nat.not_lt_zero _)⟩
theorem EG.before {p : Nat} {F : List Ent} (h : EG p F) (hp : p < 2 ^ 64) : ∀ k (hk : k < F.length), F[k].1 < 2 ^ 64 := fun k hk => by
  cases k with
  | zero => rw [h.first hk]; exact hp
  | succ k => rw [h.next k hk]; exact h.lt k (Nat.lt_of_succ_lt hk)
theorem tab_succ : ∀ (ps : List Nat) (gs : List (List ByteArray)) (i : Nat) (hp : i < ps.length) (hg : i < gs.length), tab (ps.take (i + 1)) (gs.take (i + 1)) = tab (ps.take i) (gs.take i) ++ entS ps[i] gs[i]
  | p :: ps, g :: gs, 0, _, _ => by simp [tab]
  | p :: ps, g :: gs, i + 1, hp, hg => by
    have := tab_succ ps gs i (by simpa using hp) (by simpa using hg)
    simp only [List.take_succ_cons, tab, List.getElem_cons_succ]
    rw [this, List.append_assoc]
theorem tab_bd : ∀ (ps : List Nat) (gs : List (List ByteArray)), (∀ p ∈ ps, p < 2 ^ 64) → ∀ e ∈ tab ps gs, e.1 < 2 ^ 64 ∧ e.2.1 < 2 ^ 64 ∧ e.2.2.size ≤ 48
  | p :: ps, g :: gs, hp, e, he => by
    rw [tab] at he
    rcases List.mem_append.1 he with he | he
    · obtain ⟨k, hk, rfl⟩ := List.mem_iff_getElem.1 he
      have F := entS_facts p g
      exact ⟨F.before (hp p (List.mem_cons_self ..)) k hk, F.lt k hk, F.rest k hk⟩
    · exact tab_bd ps gs (fun q hq => hp q (List.mem_cons_of_mem _ hq)) e he
  | [], gs, hp, e, he => by simp [tab] at he
  | p :: ps, [], hp, e, he => by simp [tab] at he
theorem tab_len : ∀ (ps : List Nat) (gs : List (List ByteArray)), (tab ps gs).length ≤ 600000 * gs.length
  | p :: ps, g :: gs => by
    have := tab_len ps gs
    have h2 := divS_len p g
    rw [divS_ent, List.length_map] at h2
    rw [tab, List.length_append, List.length_cons]; omega
  | [], gs => by simp [tab]
  | p :: ps, [] => by simp [tab]
def hitL (B H : List Nat) (R : List ByteArray) (al : List Nat) (i : Nat) : Prop :=
  (∃ k, k < i ∧ H.getD i 0 = H.getD k 0 ∧ (B.getD i 0 ≠ B.getD k 0 ∨ R.getD i ByteArray.empty ≠ R.getD k ByteArray.empty)) ∨ ∃ a ∈ al, a ≠ B.getD i 0 ∧ chainS a (R.getD i ByteArray.empty) = H.getD i 0
theorem clash_hit {ps : List Nat} {gs : List (List ByteArray)} : Clash ps gs ↔ ∃ i, i < ((tab ps gs).map (fun e => e.2.2)).length ∧ hitL ((tab ps gs).map (fun e => e.1)) ((tab ps gs).map (fun e => e.2.1)) ((tab ps gs).map (fun e => e.2.2)) (0 :: ps ++ (tab ps gs).map (fun e => e.2.1)) i := by
  unfold Clash ClashE hitL
  generalize tab ps gs = E
  have gB : ∀ i (hi : i < E.length), (E.map (fun e => e.1)).getD i 0 = E[i].1 := fun i hi => by simp [List.getD_eq_getElem?_getD, hi]
  have gH : ∀ i (hi : i < E.length), (E.map (fun e => e.2.1)).getD i 0 = E[i].2.1 := fun i hi => by simp [List.getD_eq_getElem?_getD, hi]
  have gR : ∀ i (hi : i < E.length), (E.map (fun e => e.2.2)).getD i ByteArray.empty = E[i].2.2 := fun i hi => by simp [List.getD_eq_getElem?_getD, hi]
  rw [List.length_map]
  constructor
  · rintro ⟨i, hi, h⟩
    refine ⟨i, hi, ?_⟩
    rw [gB i hi, gH i hi, gR i hi]
    rcases h with ⟨k, hk, h1, h2⟩ | ⟨a, h1, h2, h3⟩
    · refine .inl ⟨k, hk, ?_⟩
      rw [gB k (by omega), gH k (by omega), gR k (by omega)]
      exact ⟨h1, h2⟩
    · exact .inr ⟨a, h1, h2, h3⟩
  · rintro ⟨i, hi, h⟩
    refine ⟨i, hi, ?_⟩
    rw [gB i hi, gH i hi, gR i hi] at h
    rcases h with ⟨k, hk, h1⟩ | ⟨a, h1, h2, h3⟩
    · rw [gB k (by omega), gH k (by omega), gR k (by omega)] at h1
      exact .inl ⟨k, hk, h1⟩
    · exact .inr ⟨a, h1, h2, h3⟩
theorem getD_at {α : Type} {l : List α} {i : Nat} (h : i < l.length) (x : α) : l.getD i x = l[i] := by simp [List.getD_eq_getElem?_getD, h]
theorem clash_con (ps : List Nat) (gs : List (List ByteArray)) (b : Bool) (hb : b = true ↔ Clash ps gs) (hlen : ps.length = gs.length) (hl : gs.length ≤ 100) (hp : ∀ p ∈ ps, p < 2 ^ 64) (hg : ∀ g ∈ gs, g.length ≤ 1000) : Con Try.prog gl 38 [LH ps, LG gs] (BO b) := by
  rw [clash_hit] at hb
  refine con_of Try.func38 rfl (by kernel_rfl) rfl ?_
  simp only [Try.ntmps38, Try.results38, argEnv, ofC, of1, List.map]
  repeat' (first
 | ((with_reducible apply aw_seq))
 | ((with_reducible apply aw_region))
 | ((with_reducible apply aw_block))
 | ((with_reducible apply thn_normal))
 | ((with_reducible apply ao_nil))
 | ((with_reducible apply r_assign); exact rfl; exact rfl)
 )
  refine aw_nilvec 5 22 1 rfl rfl ?_
  refine aw_nilvec 6 22 1 rfl rfl ?_
  refine aw_nilvec 7 9 1 rfl rfl ?_
  refine aw_loopG (G := Nat × List Nat × List Nat × List ByteArray) (fun ((i, B, H, R) : Nat × List Nat × List Nat × List ByteArray) => i ≤ gs.length ∧ B = (tab (ps.take i) (gs.take i)).map (fun e => e.1) ∧ H = (tab (ps.take i) (gs.take i)).map (fun e => e.2.1) ∧ R = (tab (ps.take i) (gs.take i)).map (fun e => e.2.2)) (fun ((i, B, H, R) : Nat × List Nat × List Nat × List ByteArray) => gs.length - i) (fun ((i, B, H, R) : Nat × List Nat × List Nat × List ByteArray) => [(0, .c (LH ps)), (1, .c (LG gs)), (5, .vec 0 B.length), (6, .vec 1 H.length), (7, .vec 2 R.length), (8, A i)]) (fun ((i, B, H, R) : Nat × List Nat × List Nat × List ByteArray) => [(0, some (.vec 22 1 (B.flatMap hdC))), (1, some (.vec 22 1 (H.flatMap hdC))), (2, some (.vec 9 1 (R.flatMap stC)))]) 3 (0, [], [], []) ?_ (by refine weak_mk rfl ?_ ?_ <;> repeat (first | exact envW_nil | exact heapW_nil | refine envW_cons rfl rfl ?_ | refine heapW_cons rfl rfl rfl ?_)) rfl ?_
  · exact ⟨Nat.zero_le _, by simp [tab], by simp [tab], by simp [tab]⟩
  rintro ⟨i, B, H, R⟩ hI
  try dsimp only at hI
  try dsimp only
  obtain ⟨h1, h2, h3, h4⟩ := hI
  have htl := tab_len (ps.take i) (gs.take i)
  have hgt : (gs.take i).length ≤ 100 := by rw [List.length_take]; omega
  have lB : B.length ≤ 60000000 := by rw [h2, List.length_map]; omega
  have lH : H.length ≤ 60000000 := by rw [h3, List.length_map]; omega
  have lR : R.length ≤ 60000000 := by rw [h4, List.length_map]; omega
  by_cases hi : i < gs.length
  · have hip : i < ps.length := by omega
    have hpi := hp ps[i] (List.getElem_mem hip)
    have hgi := hg gs[i] (List.getElem_mem hi)
    have rb := rblocks_con (gl := gl) ps[i] hpi gs[i] (by omega)
    have hts := tab_succ ps gs i hip hi
    have F := entS_facts ps[i] gs[i]
    have hFl := divS_len ps[i] gs[i]
    have hde := divS_ent ps[i] gs[i]
    rw [hde] at rb hFl
    rw [List.length_map] at hFl
    generalize entS ps[i] gs[i] = E at rb hts F hFl
    obtain ⟨l, hll⟩ : ∃ l, l = E.map blk := ⟨_, rfl⟩
    rw [← hll] at rb
    have hlE : l.length = E.length := by rw [hll, List.length_map]
    clear hde
    repeat' (first
 | ((with_reducible apply (r_call (f := 13))); exact rfl; exact rfl; exact rb; exact rfl; exact rfl)
 | ((with_reducible apply aw_seq))
 | ((with_reducible apply aw_region))
 | ((with_reducible apply aw_block))
 | ((with_reducible apply thn_normal))
 | ((with_reducible apply aw_skip))
 | ((with_reducible apply ao_nil))
 | ((with_reducible apply r_move); exact rfl; exact rfl)
 | ((with_reducible apply r_assign); exact rfl; exact rfl)
 | ((with_reducible apply r_lss); exact rfl; exact rfl; exact rfl)
 | ((with_reducible apply r_pick_t); exact rfl; exact rfl; exact rfl)
 | ((with_reducible apply r_len_f); exact rfl; exact inferInstance; exact rfl)
 | ((with_reducible apply r_index_f); exact rfl; exact inferInstance; exact rfl; exact rfl; (first | assumption | omega); exact rfl)
 | ((with_reducible apply r_load_f0); exact rfl; exact inferInstance; exact List.getElem?_eq_getElem (by first | assumption | omega); exact rfl; exact rfl)
 | ((with_reducible apply r_extract); exact rfl; exact rfl; exact rfl)
 | (((with_reducible apply r_guard); exact rfl; exact rfl; exact rfl; exact rfl) <;> intro hg <;> (first | (exact absurd hg (by decide)) | ((try simp only [decide_eq_true_eq, decide_eq_false_iff_not, Bool.not_eq_true', Bool.not_eq_false', Bool.not_true, Bool.not_false, Bool.not_not, Int.not_lt, Int.not_le, Nat.not_lt, Nat.not_le, gt_iff_lt, ge_iff_le, List.cons.injEq, and_true] at hg); first | (exact absurd trivial hg) | (exfalso; omega) | (have hT : True := hg; clear hT hg) | skip)))
 | (((with_reducible apply aw_cond); exact rfl) <;> intro hg <;> (first | (exact absurd hg (by decide)) | ((try simp only [decide_eq_true_eq, decide_eq_false_iff_not, Bool.not_eq_true', Bool.not_eq_false', Bool.not_true, Bool.not_false, Bool.not_not, Int.not_lt, Int.not_le, Nat.not_lt, Nat.not_le, gt_iff_lt, ge_iff_le, List.cons.injEq, and_true] at hg); first | (exact absurd trivial hg) | (exfalso; omega) | (have hT : True := hg; clear hT hg) | skip)))
 | (refine aw_drawq ?_ ?_; (kernel_rfl))
 | ((with_reducible apply ds_nil))
 )
    refine aw_loopG (G := Nat × Nat × List Nat × List Nat × List ByteArray) (fun ((k, q, B', H', R') : Nat × Nat × List Nat × List Nat × List ByteArray) => k ≤ E.length ∧ q < 2 ^ 64 ∧ (∀ hk : k < E.length, E[k].1 = q) ∧ B' = B ++ (E.take k).map (fun e => e.1) ∧ H' = H ++ (E.take k).map (fun e => e.2.1) ∧ R' = R ++ (E.take k).map (fun e => e.2.2)) (fun ((k, q, B', H', R') : Nat × Nat × List Nat × List Nat × List ByteArray) => E.length - k) (fun ((k, q, B', H', R') : Nat × Nat × List Nat × List Nat × List ByteArray) => [(0, .c (LH ps)), (1, .c (LG gs)), (5, .vec 0 B'.length), (6, .vec 1 H'.length), (7, .vec 2 R'.length), (8, A i), (9, .c (LT l)), (11, .c (U q)), (12, A k)]) (fun ((k, q, B', H', R') : Nat × Nat × List Nat × List Nat × List ByteArray) => [(0, some (.vec 22 1 (B'.flatMap hdC))), (1, some (.vec 22 1 (H'.flatMap hdC))), (2, some (.vec 9 1 (R'.flatMap stC)))]) 3 (0, ps[i], B, H, R) ?_ (by refine weak_mk rfl ?_ ?_ <;> repeat (first | exact envW_nil | exact heapW_nil | refine envW_cons rfl rfl ?_ | refine heapW_cons rfl rfl rfl ?_)) rfl ?_
    · exact ⟨Nat.zero_le _, hpi, fun hk => F.first hk, by simp, by simp, by simp⟩
    rintro ⟨k, q, B', H', R'⟩ hI
    try dsimp only at hI
    try dsimp only
    obtain ⟨g1, g2, g3, g4, g5, g6⟩ := hI
    have lB' : B'.length ≤ 61000000 := by rw [g4, List.length_append, List.length_map, List.length_take]; omega
    have lH' : H'.length ≤ 61000000 := by rw [g5, List.length_append, List.length_map, List.length_take]; omega
    have lR' : R'.length ≤ 61000000 := by rw [g6, List.length_append, List.length_map, List.length_take]; omega
    by_cases hk : k < E.length
    · have hkl : k < l.length := by omega
      have hlk : l[k] = hexS E[k].2.1 ++ E[k].2.2 := by subst hll; rw [List.getElem_map]; rfl
      obtain ⟨k1, k2⟩ := cut_blk E[k].2.1 E[k].2.2
      have hsz : 16 ≤ l[k].size := by rw [hlk, ByteArray.size_append, hexS_size]; omega
      have c1 := rnumber_con (gl := gl) (l[k].extract 0 16) (by rw [hlk, k1, hexS_size]; omega)
      have hnum : numS (l[k].extract 0 16) = (E[k].2.1, 0) := by rw [hlk, k1, numS_hex (F.lt k hk)]
      rw [hnum] at c1
      have hrest : l[k].extract 16 l[k].size = E[k].2.2 := by rw [hlk]; exact k2
      repeat' (first
 | ((with_reducible apply (r_call (f := 52))); exact rfl; exact rfl; exact c1; exact rfl; exact rfl)
 | ((with_reducible apply (r_cutTo 16)); exact rfl; exact rfl; exact rfl; exact hsz; exact rfl)
 | ((with_reducible apply (r_cutFrom 16)); exact rfl; exact rfl; exact rfl; exact hsz; exact rfl)
 | ((with_reducible apply r_litq); exact rfl; exact rfl; exact rfl; exact rfl; exact rfl; exact rfl; exact rfl)
 | ((with_reducible apply (r_appendl (enc := hdC) (l := B') (l2 := [q]))); exact rfl; exact rfl; exact inferInstance; exact rfl; exact rfl; exact (by show B'.length + 1 < _; omega); exact (by show (B'.length + 1) * _ ≤ _; omega); exact rfl)
 | ((with_reducible apply (r_appendl (enc := hdC) (l := H') (l2 := [E[k].2.1]))); exact rfl; exact rfl; exact inferInstance; exact rfl; exact rfl; exact (by show H'.length + 1 < _; omega); exact (by show (H'.length + 1) * _ ≤ _; omega); exact rfl)
 | ((with_reducible apply (r_appendl (enc := stC) (l := R') (l2 := [l[k].extract 16 l[k].size]))); exact rfl; exact rfl; exact inferInstance; exact rfl; exact rfl; exact (by show R'.length + 1 < _; omega); exact (by show (R'.length + 1) * _ ≤ _; omega); exact rfl)
 | ((with_reducible apply aw_seq))
 | ((with_reducible apply aw_region))
 | ((with_reducible apply aw_block))
 | ((with_reducible apply thn_normal))
 | ((with_reducible apply inb_normal))
 | ((with_reducible apply aw_skip))
 | ((with_reducible apply ao_nil))
 | ((with_reducible apply r_move); exact rfl; exact rfl)
 | ((with_reducible apply r_assign); exact rfl; exact rfl)
 | ((with_reducible apply r_lss); exact rfl; exact rfl; exact rfl)
 | ((with_reducible apply r_add); exact rfl; exact rfl; exact (by first | assumption | (unfold fits; omega)); exact rfl)
 | ((with_reducible apply r_len_f); exact rfl; exact inferInstance; exact rfl)
 | ((with_reducible apply r_index_f); exact rfl; exact inferInstance; exact rfl; exact rfl; (first | assumption | omega); exact rfl)
 | ((with_reducible apply r_load_f0); exact rfl; exact inferInstance; exact List.getElem?_eq_getElem (by first | assumption | omega); exact rfl; exact rfl)
 | ((with_reducible apply r_extract); exact rfl; exact rfl; exact rfl)
 | (((with_reducible apply aw_cond); exact rfl) <;> intro hg <;> (first | (exact absurd hg (by decide)) | ((try simp only [decide_eq_true_eq, decide_eq_false_iff_not, Bool.not_eq_true', Bool.not_eq_false', Bool.not_true, Bool.not_false, Bool.not_not, Int.not_lt, Int.not_le, Nat.not_lt, Nat.not_le, gt_iff_lt, ge_iff_le, List.cons.injEq, and_true] at hg); first | (exact absurd trivial hg) | (exfalso; omega) | (have hT : True := hg; clear hT hg) | skip)))
 )
      rw [show B'.length + [q].length = (B' ++ [q]).length by simp, show H'.length + [E[k].2.1].length = (H' ++ [E[k].2.1]).length by simp, show R'.length + [l[k].extract 16 l[k].size].length = (R' ++ [l[k].extract 16 l[k].size]).length by simp]
      refine ⟨(k + 1, E[k].2.1, B' ++ [q], H' ++ [E[k].2.1], R' ++ [l[k].extract 16 l[k].size]), ?_, ?_, by refine weak_mk rfl ?_ ?_ <;> repeat (first | exact envW_nil | exact heapW_nil | refine envW_cons rfl rfl ?_ | refine heapW_cons rfl rfl rfl ?_)⟩
      · show _ - (k + 1) < _ - k; omega
      · refine ⟨hk, F.lt k hk, fun hk' => F.next k hk', ?_, ?_, ?_⟩
        · show B' ++ [q] = _
          rw [List.take_succ_eq_append_getElem hk, List.map_append, g4, ← g3 hk, List.append_assoc]; rfl
        · show H' ++ [E[k].2.1] = _
          rw [List.take_succ_eq_append_getElem hk, List.map_append, g5, List.append_assoc]; rfl
        · show R' ++ [l[k].extract 16 l[k].size] = _
          rw [List.take_succ_eq_append_getElem hk, List.map_append, g6, hrest, List.append_assoc]; rfl
    · have e : E.take k = E := List.take_of_length_le (by omega)
      rw [e] at g4 g5 g6
      repeat' (first
 | ((with_reducible apply aw_seq))
 | ((with_reducible apply aw_region))
 | ((with_reducible apply thn_normal))
 | ((with_reducible apply thn_exit))
 | ((with_reducible apply inb_normal))
 | ((with_reducible apply inb_exit))
 | ((with_reducible apply aw_exit))
 | ((with_reducible apply ao_nil))
 | ((with_reducible apply r_move); exact rfl; exact rfl)
 | ((with_reducible apply r_assign); exact rfl; exact rfl)
 | ((with_reducible apply r_lss); exact rfl; exact rfl; exact rfl)
 | ((with_reducible apply r_add); exact rfl; exact rfl; exact (by first | assumption | (unfold fits; omega)); exact rfl)
 | ((with_reducible apply r_len_f); exact rfl; exact inferInstance; exact rfl)
 | (((with_reducible apply aw_cond); exact rfl) <;> intro hg <;> (first | (exact absurd hg (by decide)) | ((try simp only [decide_eq_true_eq, decide_eq_false_iff_not, Bool.not_eq_true', Bool.not_eq_false', Bool.not_true, Bool.not_false, Bool.not_not, Int.not_lt, Int.not_le, Nat.not_lt, Nat.not_le, gt_iff_lt, ge_iff_le, List.cons.injEq, and_true] at hg); first | (exact absurd trivial hg) | (exfalso; omega) | (have hT : True := hg; clear hT hg) | skip)))
 )
      refine ⟨(i + 1, B', H', R'), ?_, ?_, by refine weak_mk rfl ?_ ?_ <;> repeat (first | exact envW_nil | exact heapW_nil | refine envW_cons rfl rfl ?_ | refine heapW_cons rfl rfl rfl ?_)⟩
      · show _ - (i + 1) < _ - i; omega
      · refine ⟨hi, ?_, ?_, ?_⟩
        · show B' = (tab (ps.take (i + 1)) (gs.take (i + 1))).map _
          rw [hts, List.map_append, g4, h2]
        · show H' = (tab (ps.take (i + 1)) (gs.take (i + 1))).map _
          rw [hts, List.map_append, g5, h3]
        · show R' = (tab (ps.take (i + 1)) (gs.take (i + 1))).map _
          rw [hts, List.map_append, g6, h4]
  obtain rfl : i = gs.length := by omega
  have e1 : ps.take gs.length = ps := List.take_of_length_le (by omega)
  rw [e1, List.take_length] at h2 h3 h4
  have hbd := tab_bd ps gs hp
  have bB : ∀ i (hi : i < B.length), B[i] < 2 ^ 64 := fun i hi => by subst h2; rw [List.getElem_map]; exact (hbd _ (List.getElem_mem _)).1
  have bH : ∀ i (hi : i < H.length), H[i] < 2 ^ 64 := fun i hi => by subst h3; rw [List.getElem_map]; exact (hbd _ (List.getElem_mem _)).2.1
  have bR : ∀ i (hi : i < R.length), R[i].size ≤ 48 := fun i hi => by subst h4; rw [List.getElem_map]; exact (hbd _ (List.getElem_mem _)).2.2
  have lBR : B.length = R.length := by rw [h2, h4, List.length_map, List.length_map]
  have lHR : H.length = R.length := by rw [h3, h4, List.length_map, List.length_map]
  rw [← h2, ← h3, ← h4] at hb
  obtain ⟨al, hal⟩ : ∃ al, al = 0 :: ps ++ H := ⟨_, rfl⟩
  have bA : ∀ k (hk : k < al.length), al[k] < 2 ^ 64 := fun k hk => by
    have hm : al[k] ∈ al := List.getElem_mem hk
    generalize al[k] = a at hm ⊢
    rw [hal] at hm
    rcases List.mem_append.1 hm with hm | hm
    · rcases List.mem_cons.1 hm with e | hm
      · rw [e]; decide
      · exact hp _ hm
    · obtain ⟨j, hj, e⟩ := List.mem_iff_getElem.1 hm
      rw [← e]; exact bH j hj
  have lA : al.length ≤ 70000000 := by rw [hal, List.length_append, List.length_cons]; omega
  have hale : [0] ++ ps ++ H = al := by rw [hal]; rfl
  have lal : al.length = 1 + ps.length + H.length := by rw [hal, List.length_append, List.length_cons]; omega
  rw [← hal] at hb
  clear h2 h3 h4 htl hgt
  repeat' (first
 | ((with_reducible apply (r_freeze 5)); exact rfl; exact rfl; exact (by rw [flat_len EncL.len]))
 | ((with_reducible apply (r_freeze 6)); exact rfl; exact rfl; exact (by rw [flat_len EncL.len]))
 | ((with_reducible apply (r_freeze 7)); exact rfl; exact rfl; exact (by rw [flat_len EncL.len]))
 | ((with_reducible apply (r_appendl (enc := hdC) (l := [0]) (l2 := ps))); exact rfl; exact rfl; exact inferInstance; exact rfl; exact rfl; exact (by show 1 + ps.length < _; omega); exact (by show (1 + ps.length) * _ ≤ _; omega); exact rfl)
 | ((with_reducible apply (r_appendl (enc := hdC) (l := [0] ++ ps) (l2 := H))); exact rfl; exact rfl; exact inferInstance; exact (by simp; omega); exact rfl; exact (by show 1 + ps.length + H.length < _; omega); exact (by show (1 + ps.length + H.length) * _ ≤ _; omega); exact rfl)
 | ((with_reducible apply (r_freeze 13)); exact rfl; exact rfl; exact (by rw [flat_len EncL.len]; first | omega | (simp; omega)))
 | (rw [hale])
 | ((with_reducible apply aw_seq))
 | ((with_reducible apply aw_region))
 | ((with_reducible apply aw_block))
 | ((with_reducible apply thn_normal))
 | ((with_reducible apply thn_exit))
 | ((with_reducible apply inb_exit))
 | ((with_reducible apply aw_exit))
 | ((with_reducible apply ao_nil))
 | ((with_reducible apply r_move); exact rfl; exact rfl)
 | ((with_reducible apply r_assign); exact rfl; exact rfl)
 | ((with_reducible apply r_lss); exact rfl; exact rfl; exact rfl)
 | ((with_reducible apply r_pick_f); exact rfl; exact rfl; exact rfl)
 | ((with_reducible apply r_len_f); exact rfl; exact inferInstance; exact rfl)
 | (((with_reducible apply r_guard); exact rfl; exact rfl; exact rfl; exact rfl) <;> intro hg <;> (first | (exact absurd hg (by decide)) | ((try simp only [decide_eq_true_eq, decide_eq_false_iff_not, Bool.not_eq_true', Bool.not_eq_false', Bool.not_true, Bool.not_false, Bool.not_not, Int.not_lt, Int.not_le, Nat.not_lt, Nat.not_le, gt_iff_lt, ge_iff_le, List.cons.injEq, and_true] at hg); first | (exact absurd trivial hg) | (exfalso; omega) | (have hT : True := hg; clear hT hg) | skip)))
 | (((with_reducible apply aw_cond); exact rfl) <;> intro hg <;> (first | (exact absurd hg (by decide)) | ((try simp only [decide_eq_true_eq, decide_eq_false_iff_not, Bool.not_eq_true', Bool.not_eq_false', Bool.not_true, Bool.not_false, Bool.not_not, Int.not_lt, Int.not_le, Nat.not_lt, Nat.not_le, gt_iff_lt, ge_iff_le, List.cons.injEq, and_true] at hg); first | (exact absurd trivial hg) | (exfalso; omega) | (have hT : True := hg; clear hT hg) | skip)))
 | ((with_reducible apply r_lit); exact rfl; exact rfl; exact rfl; exact rfl; exact rfl; exact rfl; exact rfl)
 )
  refine aw_loopG (G := Nat) (fun (i : Nat) => i ≤ R.length ∧ ∀ i', i' < i → ¬ hitL B H R al i') (fun (i : Nat) => R.length - i) (fun (i : Nat) => [(5, .c (LH B)), (6, .c (LH H)), (7, .c (LT R)), (13, .c (LH al)), (14, A i)]) (fun (i : Nat) => []) 4 0 ?_ (by refine weak_mk rfl ?_ ?_ <;> repeat (first | exact envW_nil | exact heapW_nil | refine envW_cons rfl rfl ?_ | refine heapW_cons rfl rfl rfl ?_)) rfl ?_
  · exact ⟨Nat.zero_le _, fun i' h => absurd h (Nat.not_lt_zero _)⟩
  rintro i hI
  try dsimp only at hI
  try dsimp only
  obtain ⟨q1, q2⟩ := hI
  by_cases hi : i < R.length
  rotate_left
  · have hbf : b = false := by
      cases hbb : b with
      | false => rfl
      | true =>
        obtain ⟨j, hj, h⟩ := hb.1 hbb
        exact absurd h (q2 j (by omega))
    rw [hbf]
    repeat' (first
 | ((with_reducible apply aw_seq))
 | ((with_reducible apply aw_region))
 | ((with_reducible apply thn_normal))
 | ((with_reducible apply thn_exit))
 | ((with_reducible apply inb_exit))
 | ((with_reducible apply aw_exit))
 | ((with_reducible apply aw_ret))
 | ((with_reducible apply ao_nil))
 | ((with_reducible apply r_move); exact rfl; exact rfl)
 | ((with_reducible apply r_assign); exact rfl; exact rfl)
 | ((with_reducible apply r_lss); exact rfl; exact rfl; exact rfl)
 | ((with_reducible apply r_len_f); exact rfl; exact inferInstance; exact rfl)
 | (((with_reducible apply aw_cond); exact rfl) <;> intro hg <;> (first | (exact absurd hg (by decide)) | ((try simp only [decide_eq_true_eq, decide_eq_false_iff_not, Bool.not_eq_true', Bool.not_eq_false', Bool.not_true, Bool.not_false, Bool.not_not, Int.not_lt, Int.not_le, Nat.not_lt, Nat.not_le, gt_iff_lt, ge_iff_le, List.cons.injEq, and_true] at hg); first | (exact absurd trivial hg) | (exfalso; omega) | (have hT : True := hg; clear hT hg) | skip)))
 )
    all_goals exact ret1 (.tmp rfl cl_c)
  have hiB : i < B.length := by omega
  have hiH : i < H.length := by omega
  repeat' (first
 | ((with_reducible apply aw_seq))
 | ((with_reducible apply aw_region))
 | ((with_reducible apply aw_block))
 | ((with_reducible apply thn_normal))
 | ((with_reducible apply aw_skip))
 | ((with_reducible apply ao_nil))
 | ((with_reducible apply r_move); exact rfl; exact rfl)
 | ((with_reducible apply r_assign); exact rfl; exact rfl)
 | ((with_reducible apply r_lss); exact rfl; exact rfl; exact rfl)
 | ((with_reducible apply r_len_f); exact rfl; exact inferInstance; exact rfl)
 | (((with_reducible apply aw_cond); exact rfl) <;> intro hg <;> (first | (exact absurd hg (by decide)) | ((try simp only [decide_eq_true_eq, decide_eq_false_iff_not, Bool.not_eq_true', Bool.not_eq_false', Bool.not_true, Bool.not_false, Bool.not_not, Int.not_lt, Int.not_le, Nat.not_lt, Nat.not_le, gt_iff_lt, ge_iff_le, List.cons.injEq, and_true] at hg); first | (exact absurd trivial hg) | (exfalso; omega) | (have hT : True := hg; clear hT hg) | skip)))
 )
  refine aw_loopG (G := Nat) (fun (k : Nat) => k ≤ i ∧ ∀ k', k' < k → ¬ (H.getD i 0 = H.getD k' 0 ∧ (B.getD i 0 ≠ B.getD k' 0 ∨ R.getD i ByteArray.empty ≠ R.getD k' ByteArray.empty))) (fun (k : Nat) => i - k) (fun (k : Nat) => [(5, .c (LH B)), (6, .c (LH H)), (7, .c (LT R)), (13, .c (LH al)), (14, A i), (15, A k)]) (fun (k : Nat) => []) 4 0 ?_ (by refine weak_mk rfl ?_ ?_ <;> repeat (first | exact envW_nil | exact heapW_nil | refine envW_cons rfl rfl ?_ | refine heapW_cons rfl rfl rfl ?_)) rfl ?_
  · exact ⟨Nat.zero_le _, fun i' h => absurd h (Nat.not_lt_zero _)⟩
  rintro k hI
  try dsimp only at hI
  try dsimp only
  obtain ⟨p1, p2⟩ := hI
  by_cases hk : k < i
  · have hkB : k < B.length := by omega
    have hkH : k < H.length := by omega
    have hkR : k < R.length := by omega
    have step : ¬ (H[i] = H[k] ∧ (B[i] ≠ B[k] ∨ R[i] ≠ R[k])) → ∀ k', k' < k + 1 → ¬ (H.getD i 0 = H.getD k' 0 ∧ (B.getD i 0 ≠ B.getD k' 0 ∨ R.getD i ByteArray.empty ≠ R.getD k' ByteArray.empty)) := fun hn k' hk' => by
      by_cases e : k' = k
      · subst e
        rw [getD_at hiH, getD_at hkH, getD_at hiB, getD_at hkB, getD_at hi, getD_at hkR]
        exact hn
      · exact p2 k' (by omega)
    have stop : H[i] = H[k] ∧ (B[i] ≠ B[k] ∨ R[i] ≠ R[k]) → b = true := fun h => hb.2 ⟨i, hi, .inl ⟨k, hk, by
      rw [getD_at hiH, getD_at hkH, getD_at hiB, getD_at hkB, getD_at hi, getD_at hkR]
      exact h⟩⟩
    by_cases a1 : H[i] = H[k]
    rotate_left
    · skip
      repeat' (first
 | ((with_reducible apply aw_seq))
 | ((with_reducible apply aw_region))
 | ((with_reducible apply aw_block))
 | ((with_reducible apply thn_normal))
 | ((with_reducible apply inb_normal))
 | ((with_reducible apply aw_skip))
 | ((with_reducible apply ao_nil))
 | ((with_reducible apply r_move); exact rfl; exact rfl)
 | ((with_reducible apply r_assign); exact rfl; exact rfl)
 | ((with_reducible apply r_lss); exact rfl; exact rfl; exact rfl)
 | ((with_reducible apply r_eql); exact rfl; exact rfl; exact rfl)
 | ((with_reducible apply r_add); exact rfl; exact rfl; exact (by first | assumption | (unfold fits; omega)); exact rfl)
 | ((with_reducible apply r_pick_f); exact rfl; exact rfl; exact rfl)
 | ((with_reducible apply r_index_f); exact rfl; exact inferInstance; exact rfl; exact rfl; (first | assumption | omega); exact rfl)
 | ((with_reducible apply r_load_f0); exact rfl; exact inferInstance; exact List.getElem?_eq_getElem (by first | assumption | omega); exact rfl; exact rfl)
 | (((with_reducible apply aw_cond); exact rfl) <;> intro hg <;> (first | (exact absurd hg (by decide)) | ((try simp only [decide_eq_true_eq, decide_eq_false_iff_not, Bool.not_eq_true', Bool.not_eq_false', Bool.not_true, Bool.not_false, Bool.not_not, Int.not_lt, Int.not_le, Nat.not_lt, Nat.not_le, gt_iff_lt, ge_iff_le, List.cons.injEq, and_true] at hg); first | (exact absurd trivial hg) | (exfalso; omega) | (have hT : True := hg; clear hT hg) | skip)))
 | (refine aw_drawq ?_ ?_; (kernel_rfl))
 | ((with_reducible apply ds_nil))
 | (((with_reducible apply rd_guard); exact rfl; exact rfl; exact rfl) <;> intro hg <;> (first | (exact absurd hg (by decide)) | ((try rw [hg]); (try simp only [decide_eq_true_eq, decide_eq_false_iff_not, Bool.not_eq_true', Bool.not_eq_false', Bool.not_true, Bool.not_false, Bool.not_not, Int.not_lt, Int.not_le, Nat.not_lt, Nat.not_le, gt_iff_lt, ge_iff_le, List.cons.injEq, and_true] at hg); first | (exact absurd trivial hg) | (exfalso; omega) | (have hT : True := hg; clear hT hg) | skip)))
 | ((with_reducible apply rd_guard_n); exact rfl; exact rfl; exact rfl)
 )
      refine ⟨k + 1, ?_, ?_, by refine weak_mk rfl ?_ ?_ <;> repeat (first | exact envW_nil | exact heapW_nil | refine envW_cons rfl rfl ?_ | refine heapW_cons rfl rfl rfl ?_)⟩
      · show _ - (k + 1) < _ - k; omega
      · exact ⟨hk, step (fun h => a1 h.1)⟩
    by_cases a2 : B[i] = B[k]
    rotate_left
    · rw [stop ⟨a1, .inl a2⟩]
      repeat' (first
 | ((with_reducible apply aw_seq))
 | ((with_reducible apply aw_region))
 | ((with_reducible apply aw_block))
 | ((with_reducible apply thn_normal))
 | ((with_reducible apply thn_ret))
 | ((with_reducible apply inb_ret))
 | ((with_reducible apply aw_skip))
 | ((with_reducible apply aw_ret))
 | ((with_reducible apply ao_nil))
 | ((with_reducible apply r_move); exact rfl; exact rfl)
 | ((with_reducible apply r_assign); exact rfl; exact rfl)
 | ((with_reducible apply r_lss); exact rfl; exact rfl; exact rfl)
 | ((with_reducible apply r_eql); exact rfl; exact rfl; exact rfl)
 | ((with_reducible apply r_neq); exact rfl; exact rfl; exact rfl)
 | ((with_reducible apply r_pick_t); exact rfl; exact rfl; exact rfl)
 | ((with_reducible apply r_index_f); exact rfl; exact inferInstance; exact rfl; exact rfl; (first | assumption | omega); exact rfl)
 | ((with_reducible apply r_load_f0); exact rfl; exact inferInstance; exact List.getElem?_eq_getElem (by first | assumption | omega); exact rfl; exact rfl)
 | (((with_reducible apply aw_cond); exact rfl) <;> intro hg <;> (first | (exact absurd hg (by decide)) | ((try simp only [decide_eq_true_eq, decide_eq_false_iff_not, Bool.not_eq_true', Bool.not_eq_false', Bool.not_true, Bool.not_false, Bool.not_not, Int.not_lt, Int.not_le, Nat.not_lt, Nat.not_le, gt_iff_lt, ge_iff_le, List.cons.injEq, and_true] at hg); first | (exact absurd trivial hg) | (exfalso; omega) | (have hT : True := hg; clear hT hg) | skip)))
 | (refine aw_drawq ?_ ?_; (kernel_rfl))
 | ((with_reducible apply ds_nil))
 | (((with_reducible apply rd_guard); exact rfl; exact rfl; exact rfl) <;> intro hg <;> (first | (exact absurd hg (by decide)) | ((try rw [hg]); (try simp only [decide_eq_true_eq, decide_eq_false_iff_not, Bool.not_eq_true', Bool.not_eq_false', Bool.not_true, Bool.not_false, Bool.not_not, Int.not_lt, Int.not_le, Nat.not_lt, Nat.not_le, gt_iff_lt, ge_iff_le, List.cons.injEq, and_true] at hg); first | (exact absurd trivial hg) | (exfalso; omega) | (have hT : True := hg; clear hT hg) | skip)))
 )
      all_goals exact ret1 (.tmp rfl cl_c)
    by_cases a3 : R[i] = R[k]
    · have hs : (R[i].toList == R[k].toList) = true := by rw [a3]; simp
      repeat' (first
 | ((with_reducible apply r_neqstr_v); exact rfl; exact rfl; exact hs; exact rfl)
 | ((with_reducible apply aw_seq))
 | ((with_reducible apply aw_region))
 | ((with_reducible apply aw_block))
 | ((with_reducible apply thn_normal))
 | ((with_reducible apply inb_normal))
 | ((with_reducible apply aw_skip))
 | ((with_reducible apply ao_nil))
 | ((with_reducible apply r_move); exact rfl; exact rfl)
 | ((with_reducible apply r_assign); exact rfl; exact rfl)
 | ((with_reducible apply r_lss); exact rfl; exact rfl; exact rfl)
 | ((with_reducible apply r_eql); exact rfl; exact rfl; exact rfl)
 | ((with_reducible apply r_neq); exact rfl; exact rfl; exact rfl)
 | ((with_reducible apply r_add); exact rfl; exact rfl; exact (by first | assumption | (unfold fits; omega)); exact rfl)
 | ((with_reducible apply r_pick_t); exact rfl; exact rfl; exact rfl)
 | ((with_reducible apply r_pick_f); exact rfl; exact rfl; exact rfl)
 | ((with_reducible apply r_index_f); exact rfl; exact inferInstance; exact rfl; exact rfl; (first | assumption | omega); exact rfl)
 | ((with_reducible apply r_load_f0); exact rfl; exact inferInstance; exact List.getElem?_eq_getElem (by first | assumption | omega); exact rfl; exact rfl)
 | (((with_reducible apply aw_cond); exact rfl) <;> intro hg <;> (first | (exact absurd hg (by decide)) | ((try simp only [decide_eq_true_eq, decide_eq_false_iff_not, Bool.not_eq_true', Bool.not_eq_false', Bool.not_true, Bool.not_false, Bool.not_not, Int.not_lt, Int.not_le, Nat.not_lt, Nat.not_le, gt_iff_lt, ge_iff_le, List.cons.injEq, and_true] at hg); first | (exact absurd trivial hg) | (exfalso; omega) | (have hT : True := hg; clear hT hg) | skip)))
 | (refine aw_drawq ?_ ?_; (kernel_rfl))
 | ((with_reducible apply ds_nil))
 | (((with_reducible apply rd_guard); exact rfl; exact rfl; exact rfl) <;> intro hg <;> (first | (exact absurd hg (by decide)) | ((try rw [hg]); (try simp only [decide_eq_true_eq, decide_eq_false_iff_not, Bool.not_eq_true', Bool.not_eq_false', Bool.not_true, Bool.not_false, Bool.not_not, Int.not_lt, Int.not_le, Nat.not_lt, Nat.not_le, gt_iff_lt, ge_iff_le, List.cons.injEq, and_true] at hg); first | (exact absurd trivial hg) | (exfalso; omega) | (have hT : True := hg; clear hT hg) | skip)))
 )
      refine ⟨k + 1, ?_, ?_, by refine weak_mk rfl ?_ ?_ <;> repeat (first | exact envW_nil | exact heapW_nil | refine envW_cons rfl rfl ?_ | refine heapW_cons rfl rfl rfl ?_)⟩
      · show _ - (k + 1) < _ - k; omega
      · exact ⟨hk, step (fun h => by
          rcases h.2 with h | h
          · exact h a2
          · exact h a3)⟩
    · have hs := ba_ne a3
      rw [stop ⟨a1, .inr a3⟩]
      repeat' (first
 | ((with_reducible apply r_neqstr_v); exact rfl; exact rfl; exact hs; exact rfl)
 | ((with_reducible apply aw_seq))
 | ((with_reducible apply aw_region))
 | ((with_reducible apply aw_block))
 | ((with_reducible apply thn_normal))
 | ((with_reducible apply thn_ret))
 | ((with_reducible apply inb_ret))
 | ((with_reducible apply aw_skip))
 | ((with_reducible apply aw_ret))
 | ((with_reducible apply ao_nil))
 | ((with_reducible apply r_move); exact rfl; exact rfl)
 | ((with_reducible apply r_assign); exact rfl; exact rfl)
 | ((with_reducible apply r_lss); exact rfl; exact rfl; exact rfl)
 | ((with_reducible apply r_eql); exact rfl; exact rfl; exact rfl)
 | ((with_reducible apply r_neq); exact rfl; exact rfl; exact rfl)
 | ((with_reducible apply r_pick_t); exact rfl; exact rfl; exact rfl)
 | ((with_reducible apply r_pick_f); exact rfl; exact rfl; exact rfl)
 | ((with_reducible apply r_index_f); exact rfl; exact inferInstance; exact rfl; exact rfl; (first | assumption | omega); exact rfl)
 | ((with_reducible apply r_load_f0); exact rfl; exact inferInstance; exact List.getElem?_eq_getElem (by first | assumption | omega); exact rfl; exact rfl)
 | (((with_reducible apply aw_cond); exact rfl) <;> intro hg <;> (first | (exact absurd hg (by decide)) | ((try simp only [decide_eq_true_eq, decide_eq_false_iff_not, Bool.not_eq_true', Bool.not_eq_false', Bool.not_true, Bool.not_false, Bool.not_not, Int.not_lt, Int.not_le, Nat.not_lt, Nat.not_le, gt_iff_lt, ge_iff_le, List.cons.injEq, and_true] at hg); first | (exact absurd trivial hg) | (exfalso; omega) | (have hT : True := hg; clear hT hg) | skip)))
 | (refine aw_drawq ?_ ?_; (kernel_rfl))
 | ((with_reducible apply ds_nil))
 | (((with_reducible apply rd_guard); exact rfl; exact rfl; exact rfl) <;> intro hg <;> (first | (exact absurd hg (by decide)) | ((try rw [hg]); (try simp only [decide_eq_true_eq, decide_eq_false_iff_not, Bool.not_eq_true', Bool.not_eq_false', Bool.not_true, Bool.not_false, Bool.not_not, Int.not_lt, Int.not_le, Nat.not_lt, Nat.not_le, gt_iff_lt, ge_iff_le, List.cons.injEq, and_true] at hg); first | (exact absurd trivial hg) | (exfalso; omega) | (have hT : True := hg; clear hT hg) | skip)))
 )
      all_goals exact ret1 (.tmp rfl cl_c)
  repeat' (first
 | ((with_reducible apply aw_seq))
 | ((with_reducible apply aw_region))
 | ((with_reducible apply aw_block))
 | ((with_reducible apply thn_normal))
 | ((with_reducible apply thn_exit))
 | ((with_reducible apply inb_exit))
 | ((with_reducible apply aw_exit))
 | ((with_reducible apply ao_nil))
 | ((with_reducible apply r_move); exact rfl; exact rfl)
 | ((with_reducible apply r_assign); exact rfl; exact rfl)
 | ((with_reducible apply r_lss); exact rfl; exact rfl; exact rfl)
 | (((with_reducible apply aw_cond); exact rfl) <;> intro hg <;> (first | (exact absurd hg (by decide)) | ((try simp only [decide_eq_true_eq, decide_eq_false_iff_not, Bool.not_eq_true', Bool.not_eq_false', Bool.not_true, Bool.not_false, Bool.not_not, Int.not_lt, Int.not_le, Nat.not_lt, Nat.not_le, gt_iff_lt, ge_iff_le, List.cons.injEq, and_true] at hg); first | (exact absurd trivial hg) | (exfalso; omega) | (have hT : True := hg; clear hT hg) | skip)))
 )
  refine aw_loopG (G := Nat) (fun (k : Nat) => k ≤ al.length ∧ ∀ k' (hk' : k' < al.length), k' < k → ¬ (al[k'] ≠ B.getD i 0 ∧ chainS al[k'] (R.getD i ByteArray.empty) = H.getD i 0)) (fun (k : Nat) => al.length - k) (fun (k : Nat) => [(5, .c (LH B)), (6, .c (LH H)), (7, .c (LT R)), (13, .c (LH al)), (14, A i), (16, A k)]) (fun (k : Nat) => []) 4 0 ?_ (by refine weak_mk rfl ?_ ?_ <;> repeat (first | exact envW_nil | exact heapW_nil | refine envW_cons rfl rfl ?_ | refine heapW_cons rfl rfl rfl ?_)) rfl ?_
  · exact ⟨Nat.zero_le _, fun k' _ h => absurd h (Nat.not_lt_zero _)⟩
  rintro k hI
  try dsimp only at hI
  try dsimp only
  obtain ⟨r1, r2⟩ := hI
  by_cases hk : k < al.length
  rotate_left
  · skip
    repeat' (first
 | ((with_reducible apply aw_seq))
 | ((with_reducible apply aw_region))
 | ((with_reducible apply thn_normal))
 | ((with_reducible apply thn_exit))
 | ((with_reducible apply inb_normal))
 | ((with_reducible apply inb_exit))
 | ((with_reducible apply aw_exit))
 | ((with_reducible apply ao_nil))
 | ((with_reducible apply r_move); exact rfl; exact rfl)
 | ((with_reducible apply r_assign); exact rfl; exact rfl)
 | ((with_reducible apply r_lss); exact rfl; exact rfl; exact rfl)
 | ((with_reducible apply r_add); exact rfl; exact rfl; exact (by first | assumption | (unfold fits; omega)); exact rfl)
 | ((with_reducible apply r_len_f); exact rfl; exact inferInstance; exact rfl)
 | (((with_reducible apply aw_cond); exact rfl) <;> intro hg <;> (first | (exact absurd hg (by decide)) | ((try simp only [decide_eq_true_eq, decide_eq_false_iff_not, Bool.not_eq_true', Bool.not_eq_false', Bool.not_true, Bool.not_false, Bool.not_not, Int.not_lt, Int.not_le, Nat.not_lt, Nat.not_le, gt_iff_lt, ge_iff_le, List.cons.injEq, and_true] at hg); first | (exact absurd trivial hg) | (exfalso; omega) | (have hT : True := hg; clear hT hg) | skip)))
 )
    refine ⟨i + 1, ?_, ?_, by refine weak_mk rfl ?_ ?_ <;> repeat (first | exact envW_nil | exact heapW_nil | refine envW_cons rfl rfl ?_ | refine heapW_cons rfl rfl rfl ?_)⟩
    · show _ - (i + 1) < _ - i; omega
    · refine ⟨hi, fun i' hi' => ?_⟩
      by_cases e : i' = i
      · subst e
        rintro (⟨k', h1, h2⟩ | ⟨a, h1, h2⟩)
        · exact p2 k' (by omega) h2
        · obtain ⟨k', h3, rfl⟩ := List.mem_iff_getElem.1 h1
          exact r2 k' h3 (by omega) h2
      · exact q2 i' (by have : i' < i + 1 := hi'; omega)
  have step : ¬ (al[k] ≠ B[i] ∧ chainS al[k] R[i] = H[i]) → ∀ k' (hk' : k' < al.length), k' < k + 1 → ¬ (al[k'] ≠ B.getD i 0 ∧ chainS al[k'] (R.getD i ByteArray.empty) = H.getD i 0) := fun hn k' hk' h => by
    by_cases e : k' = k
    · subst e
      rw [getD_at hiH, getD_at hiB, getD_at hi]
      exact hn
    · exact r2 k' hk' (by omega)
  have stop : al[k] ≠ B[i] ∧ chainS al[k] R[i] = H[i] → b = true := fun h => hb.2 ⟨i, hi, .inr ⟨al[k], List.getElem_mem hk, by
    rw [getD_at hiH, getD_at hiB, getD_at hi]
    exact h⟩⟩
  have cc := rchain_con (gl := gl) al[k] (bA k hk) R[i] (by have := bR i hi; omega)
  have hcl := chainS_lt al[k] R[i]
  generalize chainS al[k] R[i] = ch at cc hcl step stop
  by_cases a1 : al[k] = B[i]
  · skip
    repeat' (first
 | ((with_reducible apply (r_call (f := 46))); exact rfl; exact rfl; exact cc; exact rfl; exact rfl)
 | ((with_reducible apply aw_seq))
 | ((with_reducible apply aw_region))
 | ((with_reducible apply aw_block))
 | ((with_reducible apply thn_normal))
 | ((with_reducible apply inb_normal))
 | ((with_reducible apply aw_skip))
 | ((with_reducible apply ao_nil))
 | ((with_reducible apply r_move); exact rfl; exact rfl)
 | ((with_reducible apply r_assign); exact rfl; exact rfl)
 | ((with_reducible apply r_lss); exact rfl; exact rfl; exact rfl)
 | ((with_reducible apply r_neq); exact rfl; exact rfl; exact rfl)
 | ((with_reducible apply r_add); exact rfl; exact rfl; exact (by first | assumption | (unfold fits; omega)); exact rfl)
 | ((with_reducible apply r_pick_f); exact rfl; exact rfl; exact rfl)
 | ((with_reducible apply r_len_f); exact rfl; exact inferInstance; exact rfl)
 | ((with_reducible apply r_index_f); exact rfl; exact inferInstance; exact rfl; exact rfl; (first | assumption | omega); exact rfl)
 | ((with_reducible apply r_load_f0); exact rfl; exact inferInstance; exact List.getElem?_eq_getElem (by first | assumption | omega); exact rfl; exact rfl)
 | (((with_reducible apply aw_cond); exact rfl) <;> intro hg <;> (first | (exact absurd hg (by decide)) | ((try simp only [decide_eq_true_eq, decide_eq_false_iff_not, Bool.not_eq_true', Bool.not_eq_false', Bool.not_true, Bool.not_false, Bool.not_not, Int.not_lt, Int.not_le, Nat.not_lt, Nat.not_le, gt_iff_lt, ge_iff_le, List.cons.injEq, and_true] at hg); first | (exact absurd trivial hg) | (exfalso; omega) | (have hT : True := hg; clear hT hg) | skip)))
 | (refine aw_drawq ?_ ?_; (kernel_rfl))
 | ((with_reducible apply ds_nil))
 | (((with_reducible apply rd_guard); exact rfl; exact rfl; exact rfl) <;> intro hg <;> (first | (exact absurd hg (by decide)) | ((try rw [hg]); (try simp only [decide_eq_true_eq, decide_eq_false_iff_not, Bool.not_eq_true', Bool.not_eq_false', Bool.not_true, Bool.not_false, Bool.not_not, Int.not_lt, Int.not_le, Nat.not_lt, Nat.not_le, gt_iff_lt, ge_iff_le, List.cons.injEq, and_true] at hg); first | (exact absurd trivial hg) | (exfalso; omega) | (have hT : True := hg; clear hT hg) | skip)))
 )
    refine ⟨k + 1, ?_, ?_, by refine weak_mk rfl ?_ ?_ <;> repeat (first | exact envW_nil | exact heapW_nil | refine envW_cons rfl rfl ?_ | refine heapW_cons rfl rfl rfl ?_)⟩
    · show _ - (k + 1) < _ - k; omega
    · exact ⟨hk, step (fun h => h.1 a1)⟩
  by_cases a2 : ch = H[i]
  · rw [stop ⟨a1, a2⟩]
    repeat' (first
 | ((with_reducible apply (r_call (f := 46))); exact rfl; exact rfl; exact cc; exact rfl; exact rfl)
 | ((with_reducible apply aw_seq))
 | ((with_reducible apply aw_region))
 | ((with_reducible apply aw_block))
 | ((with_reducible apply thn_normal))
 | ((with_reducible apply thn_ret))
 | ((with_reducible apply inb_ret))
 | ((with_reducible apply aw_skip))
 | ((with_reducible apply aw_ret))
 | ((with_reducible apply ao_nil))
 | ((with_reducible apply r_move); exact rfl; exact rfl)
 | ((with_reducible apply r_assign); exact rfl; exact rfl)
 | ((with_reducible apply r_lss); exact rfl; exact rfl; exact rfl)
 | ((with_reducible apply r_eql); exact rfl; exact rfl; exact rfl)
 | ((with_reducible apply r_neq); exact rfl; exact rfl; exact rfl)
 | ((with_reducible apply r_pick_t); exact rfl; exact rfl; exact rfl)
 | ((with_reducible apply r_len_f); exact rfl; exact inferInstance; exact rfl)
 | ((with_reducible apply r_index_f); exact rfl; exact inferInstance; exact rfl; exact rfl; (first | assumption | omega); exact rfl)
 | ((with_reducible apply r_load_f0); exact rfl; exact inferInstance; exact List.getElem?_eq_getElem (by first | assumption | omega); exact rfl; exact rfl)
 | (((with_reducible apply aw_cond); exact rfl) <;> intro hg <;> (first | (exact absurd hg (by decide)) | ((try simp only [decide_eq_true_eq, decide_eq_false_iff_not, Bool.not_eq_true', Bool.not_eq_false', Bool.not_true, Bool.not_false, Bool.not_not, Int.not_lt, Int.not_le, Nat.not_lt, Nat.not_le, gt_iff_lt, ge_iff_le, List.cons.injEq, and_true] at hg); first | (exact absurd trivial hg) | (exfalso; omega) | (have hT : True := hg; clear hT hg) | skip)))
 | (refine aw_drawq ?_ ?_; (kernel_rfl))
 | ((with_reducible apply ds_nil))
 | (((with_reducible apply rd_guard); exact rfl; exact rfl; exact rfl) <;> intro hg <;> (first | (exact absurd hg (by decide)) | ((try rw [hg]); (try simp only [decide_eq_true_eq, decide_eq_false_iff_not, Bool.not_eq_true', Bool.not_eq_false', Bool.not_true, Bool.not_false, Bool.not_not, Int.not_lt, Int.not_le, Nat.not_lt, Nat.not_le, gt_iff_lt, ge_iff_le, List.cons.injEq, and_true] at hg); first | (exact absurd trivial hg) | (exfalso; omega) | (have hT : True := hg; clear hT hg) | skip)))
 )
    all_goals exact ret1 (.tmp rfl cl_c)
  · skip
    repeat' (first
 | ((with_reducible apply (r_call (f := 46))); exact rfl; exact rfl; exact cc; exact rfl; exact rfl)
 | ((with_reducible apply aw_seq))
 | ((with_reducible apply aw_region))
 | ((with_reducible apply aw_block))
 | ((with_reducible apply thn_normal))
 | ((with_reducible apply inb_normal))
 | ((with_reducible apply aw_skip))
 | ((with_reducible apply ao_nil))
 | ((with_reducible apply r_move); exact rfl; exact rfl)
 | ((with_reducible apply r_assign); exact rfl; exact rfl)
 | ((with_reducible apply r_lss); exact rfl; exact rfl; exact rfl)
 | ((with_reducible apply r_eql); exact rfl; exact rfl; exact rfl)
 | ((with_reducible apply r_neq); exact rfl; exact rfl; exact rfl)
 | ((with_reducible apply r_add); exact rfl; exact rfl; exact (by first | assumption | (unfold fits; omega)); exact rfl)
 | ((with_reducible apply r_pick_t); exact rfl; exact rfl; exact rfl)
 | ((with_reducible apply r_len_f); exact rfl; exact inferInstance; exact rfl)
 | ((with_reducible apply r_index_f); exact rfl; exact inferInstance; exact rfl; exact rfl; (first | assumption | omega); exact rfl)
 | ((with_reducible apply r_load_f0); exact rfl; exact inferInstance; exact List.getElem?_eq_getElem (by first | assumption | omega); exact rfl; exact rfl)
 | (((with_reducible apply aw_cond); exact rfl) <;> intro hg <;> (first | (exact absurd hg (by decide)) | ((try simp only [decide_eq_true_eq, decide_eq_false_iff_not, Bool.not_eq_true', Bool.not_eq_false', Bool.not_true, Bool.not_false, Bool.not_not, Int.not_lt, Int.not_le, Nat.not_lt, Nat.not_le, gt_iff_lt, ge_iff_le, List.cons.injEq, and_true] at hg); first | (exact absurd trivial hg) | (exfalso; omega) | (have hT : True := hg; clear hT hg) | skip)))
 | (refine aw_drawq ?_ ?_; (kernel_rfl))
 | ((with_reducible apply ds_nil))
 | (((with_reducible apply rd_guard); exact rfl; exact rfl; exact rfl) <;> intro hg <;> (first | (exact absurd hg (by decide)) | ((try rw [hg]); (try simp only [decide_eq_true_eq, decide_eq_false_iff_not, Bool.not_eq_true', Bool.not_eq_false', Bool.not_true, Bool.not_false, Bool.not_not, Int.not_lt, Int.not_le, Nat.not_lt, Nat.not_le, gt_iff_lt, ge_iff_le, List.cons.injEq, and_true] at hg); first | (exact absurd trivial hg) | (exfalso; omega) | (have hT : True := hg; clear hT hg) | skip)))
 )
    refine ⟨k + 1, ?_, ?_, by refine weak_mk rfl ?_ ?_ <;> repeat (first | exact envW_nil | exact heapW_nil | refine envW_cons rfl rfl ?_ | refine heapW_cons rfl rfl rfl ?_)⟩
    · show _ - (k + 1) < _ - k; omega
    · exact ⟨hk, step (fun h => a2 h.2)⟩
end Go.Proofs.Ythkjkhffljlidaa.Jo
