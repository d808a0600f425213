/- JL9: texts laid together. -/
import Derived.Test.YthkjkhffljlidaaMrgX9
import Derived.Test.YthkjkhffljlidaaMrgE4
set_option maxRecDepth 100000
set_option maxHeartbeats 64000000
/- The law JournalTwice. -/
namespace Go.Proofs.Ythkjkhffljlidaa.Jo
set_option linter.unusedVariables false
set_option linter.unusedSimpArgs false
open Go.RowKit Go.Proofs.Ythkjkhffljlidaa.Ev Go.Proofs.Ythkjkhffljlidaa.Dk
variable {gl : List (Nat × List CV)}
instance : ArrP Try.prog 77 2 1 := ⟨by kernel_rfl⟩
instance : ArrP Try.prog 78 2 2 := ⟨by kernel_rfl⟩
abbrev twE (kj : Nat) (fo : List (List ByteArray)) (nf nt nh : Nat) (i : Int) : List (Nat × AV) := [(4, .ptr 0 0), (5, .ptr 1 0), (7, .ptr 2 0), (8, .c (ptrV kj 0)), (9, .c (LG fo)), (10, .vec 3 nf), (11, .vec 4 nt), (12, .vec 5 nh), (13, A i)]
abbrev twH (g0 g1 : List (List ByteArray)) (st0 mk0 st1 mk1 : Int) (p : ObjP) (fa tr : List (List ByteArray)) (hd : List Nat) : List (Nat × Option AB) := [(0, some (.cells 77 [.c (LG g0), .c (LG g1)])), (1, some (.cells 78 [A st0, .c (U mk0), A st1, .c (U mk1)])), (2, some (.obj p)), (3, some (.vec 23 1 (fa.flatMap grC))), (4, some (.vec 23 1 (tr.flatMap grC))), (5, some (.vec 22 1 (hd.flatMap hdC)))]
theorem aftS_mem {t : JS} {gs : List (List ByteArray)} : ∀ (fs : List (List ByteArray)), (∃ g ∈ fs, t.gr = gs ++ [g]) → (aftS t gs fs).2 = true
  | [], ⟨g, h, _⟩ => by cases h
  | f :: fs, ⟨g, h, e⟩ => by
    rw [aftS]
    by_cases hi : isS t (gs ++ [f]) = true
    · rw [if_pos hi]
    · rw [if_neg hi]
      rcases List.mem_cons.1 h with rfl | h
      · exact absurd (isS_yes e) hi
      · exact aftS_mem fs ⟨g, h, e⟩
theorem after_yes {t : JS} {gs fs : List (List ByteArray)} (h : t.gr = gs ∨ ∃ g ∈ fs, t.gr = gs ++ [g]) : (afterS t gs fs).2 = true := by
  unfold afterS
  by_cases hi : isS t gs = true
  · rw [if_pos hi]
  · rw [if_neg hi]
    rcases h with h | h
    · exact absurd (isS_yes h) hi
    · exact aftS_mem fs h
theorem Rounded.bd {n : Nat} {d : DS} {t : JS} {gs : List (List ByteArray)} {R : Rd} {da : DS} {ta : JS} (r : Rounded n d t gs R da ta) (h1 : gs.length ≤ 12) (h2 : ∀ g ∈ gs, g.length ≤ 40) (ht : t.head < 2 ^ 64) :
    (R.acked.length ≤ 12 ∧ R.tried.length ≤ 12 ∧ R.heads.length = R.tried.length ∧ R.failed.length ≤ 1) ∧ (∀ g ∈ R.tried, g.length ≤ 40) ∧ (∀ g ∈ R.acked, g.length ≤ 40) ∧ (∀ g ∈ R.failed, g.length ≤ 40) ∧ ∀ p ∈ R.heads, p < 2 ^ 64 := by
  have hm := r.many
  have hT40 : ∀ g ∈ R.tried, g.length ≤ 40 := fun g hg => h2 g (r.ok g hg).2
  refine ⟨⟨by omega, by omega, ?_, ?_⟩, hT40, fun g hg => hT40 g (by rw [r.tried]; exact List.mem_append.2 (.inl hg)), fun g hg => hT40 g (by rw [r.tried]; exact List.mem_append.2 (.inr hg)), fun p hp => ?_⟩
  · rw [r.heads, List.length_map, ← trs_g R.tried t.head t.used, List.length_map, trs_g]
  · rcases r.fin with ⟨e, _⟩ | ⟨g, e, _⟩
    · rw [e]; exact Nat.zero_le _
    · rw [e]; exact Nat.le_refl _
  · rw [r.heads] at hp
    obtain ⟨x, hx, rfl⟩ := List.mem_map.1 hp
    exact trs_lt _ _ _ ht x hx
theorem found_bd {d : DS} (h : Quiet d) (hl : d.blocks.length ≤ 100) : (openD d).gr.length ≤ 100 ∧ (openD d).recs.length ≤ 10000 := by
  rw [openD_quiet h.up h.none]
  obtain ⟨q1, q2, _, _⟩ := findG_bd d.blocks 0 [] 0 J0 (fun g h => by cases h) (Nat.le_refl _) (by decide)
  have q2 : (findG 0 [] 0 d.blocks J0).gr.length ≤ 0 + d.blocks.length := q2
  have := flatten_len _ 32 q1
  refine ⟨by omega, ?_⟩
  show (findG 0 [] 0 d.blocks J0).gr.flatten.length ≤ 10000
  omega
theorem jtwice_law (n : Int) (_ : fits n) (gg : List (List ByteArray) × List (List ByteArray)) (_ : ((∀ g ∈ gg.1, (∀ x ∈ g, x.size ≤ maxLen) ∧ g.length ≤ maxLen) ∧ gg.1.length ≤ maxLen) ∧ ((∀ g ∈ gg.2, (∀ x ∈ g, x.size ≤ maxLen) ∧ g.length ≤ maxLen) ∧ gg.2.length ≤ maxLen)) (cr : (Int × Int) × (Int × Int)) (hcr : (fits cr.1.1 ∧ (0 ≤ cr.1.2 ∧ cr.1.2 < 18446744073709551616)) ∧ (fits cr.2.1 ∧ (0 ≤ cr.2.2 ∧ cr.2.2 < 18446744073709551616))) : Con Try.prog gl 9 [I n, .agg [LG gg.1, LG gg.2], .agg [I cr.1.1, U cr.1.2, I cr.2.1, U cr.2.2]] T := by
  obtain ⟨g0, g1⟩ := gg
  obtain ⟨⟨st0, mk0⟩, ⟨st1, mk1⟩⟩ := cr
  obtain ⟨⟨_, hmk0⟩, ⟨_, hmk1⟩⟩ := hcr
  dsimp only at hmk0 hmk1 ⊢
  have ca := awake_con (gl := gl)
  have c0 := sized_con (gl := gl) n
  have c1 := small_con (gl := gl) g0
  have c2 := small_con (gl := gl) g1
  by_cases hok : sizedS n = true ∧ smallS g0 = true ∧ smallS g1 = true ∧ (0 ≤ st0 ∧ st0 ≤ 1000) ∧ (0 ≤ st1 ∧ st1 ≤ 1000)
  rotate_left
  · skip
    refine con_of Try.func9 rfl (by kernel_rfl) rfl ?_
    simp only [Try.ntmps9, Try.results9, argEnv, ofC, of1, List.map]
    cases hz : sizedS n
    all_goals rw [hz] at c0
    all_goals cases hs0 : smallS g0
    all_goals rw [hs0] at c1
    all_goals cases hs1 : smallS g1
    all_goals rw [hs1] at c2
    all_goals try simp only [hz, hs0, hs1, true_and] at hok
    all_goals
      repeat' (first
 | ((with_reducible apply (r_call (f := 15))); exact rfl; exact rfl; exact c0; exact rfl; exact rfl)
 | ((with_reducible apply (r_call (f := 10))); exact rfl; exact rfl; (first | exact c1 | exact c2); exact rfl; exact rfl)
 | ((with_reducible apply (r_index_p 0)); exact rfl; exact rfl; exact rfl; decide; exact rfl)
 | ((with_reducible apply (r_index_p 1)); exact rfl; exact rfl; exact rfl; decide; exact rfl)
 | ((with_reducible apply (r_call (args := []) (f := 11))); exact rfl; exact rfl; exact ca; exact rfl; exact rfl)
 | ((with_reducible apply aw_seq))
 | ((with_reducible apply aw_region))
 | ((with_reducible apply thn_normal))
 | ((with_reducible apply thn_ret))
 | ((with_reducible apply aw_ret))
 | ((with_reducible apply ao_nil))
 | ((with_reducible apply r_move); exact rfl; exact rfl)
 | ((with_reducible apply r_assign); exact rfl; exact rfl)
 | ((with_reducible apply r_field_p); exact rfl; exact rfl)
 | ((with_reducible apply r_load_p); exact rfl; exact rfl; exact rfl; exact rfl)
 | ((with_reducible apply r_lss); exact rfl; exact rfl; exact rfl)
 | ((with_reducible apply r_gtr); exact rfl; exact rfl; exact rfl)
 | ((with_reducible apply r_box_a); exact rfl; exact rfl)
 | ((with_reducible apply r_pick_t); exact rfl; exact rfl; exact rfl)
 | ((with_reducible apply r_pick_f); exact rfl; exact rfl; exact rfl)
 | ((with_reducible apply r_not); exact rfl; exact rfl)
 | (((with_reducible apply r_guard); exact rfl; exact rfl; exact rfl; exact rfl) <;> intro hg <;> (first | (exact absurd hg (by decide)) | ((try simp only [decide_eq_true_eq, decide_eq_false_iff_not, Bool.not_eq_true', Bool.not_eq_false', Bool.not_true, Bool.not_false, Bool.not_not, Int.not_lt, Int.not_le, Nat.not_lt, Nat.not_le, gt_iff_lt, ge_iff_le, List.cons.injEq, and_true] at hg); first | (exact absurd trivial hg) | (exfalso; omega) | (have hT : True := hg; clear hT hg) | skip)))
 | (((with_reducible apply aw_cond); exact rfl) <;> intro hg <;> (first | (exact absurd hg (by decide)) | ((try simp only [decide_eq_true_eq, decide_eq_false_iff_not, Bool.not_eq_true', Bool.not_eq_false', Bool.not_true, Bool.not_false, Bool.not_not, Int.not_lt, Int.not_le, Nat.not_lt, Nat.not_le, gt_iff_lt, ge_iff_le, List.cons.injEq, and_true] at hg); first | (exact absurd trivial hg) | (exfalso; omega) | (have hT : True := hg; clear hT hg) | skip)))
 )
      all_goals exact ret_b rfl rfl
  obtain ⟨hz, hs0, hs1, hst0, hst1⟩ := hok
  rw [hz] at c0
  rw [hs0] at c1
  rw [hs1] at c2
  obtain ⟨m, rfl, hm1, hm2⟩ := sized_get hz
  obtain ⟨hb01, hb02⟩ := small_bd hs0
  obtain ⟨hb11, hb12⟩ := small_bd hs1
  have h400 : ∀ g ∈ g0, g.length ≤ 40 := fun g hg => (hb02 g hg).1
  have h401 : ∀ g ∈ g1, g.length ≤ 40 := fun g hg => (hb12 g hg).1
  have hU0 : Up m (DS.new m) J0 := (Inv.new ⟨hm1, by omega⟩).toUp
  have har0 : (DS.new m).arm st0 mk0 = (armS (DS.new m) st0 mk0, 0) := arm_eq rfl hst0
  have hUp0 := hU0.arm hst0 hmk0
  obtain ⟨d1, hd1⟩ : ∃ d1, d1 = armS (DS.new m) st0 mk0 := ⟨_, rfl⟩
  rw [← hd1] at hUp0 har0
  have hshort : ∀ (q : Nat) (x : ByteArray), d1.blocks[q]? = some x → x.size ≤ 19 := fun q x hx => by
    rw [hd1] at hx
    have hx : (List.replicate m ByteArray.empty)[q]? = some x := hx
    have := List.mem_of_getElem? hx
    rw [List.mem_replicate] at this
    rw [this.2]; exact Nat.zero_le _
  obtain ⟨da1, ta1, r1⟩ := round_ok g0 d1 J0 hUp0
  have cr1 := fun kd kj => round_dj (gl := gl) d1 1 kd kj J0 g0 m hUp0 (by omega) (by omega) (by omega) h400 (Nat.zero_le _) (fun g hg => by
    have hg : g ∈ ([] : List (List ByteArray)) := hg
    cases hg)
  generalize roundS J0 d1 g0 = R1 at r1 cr1
  obtain ⟨k1, hk1, hk2, hk3, hk4, hk5⟩ := crash_one r1 (fun q _ x hx => hshort q x hx) mk0
  have ha1 := r1.crash mk0
  have hUk : Up m (crashS R1.d mk0) k1 := ⟨ha1.quiet.up, ha1.quiet.none, ha1.len, ha1.fine, hk2, hk3, hk4⟩
  have har1 : (crashS R1.d mk0).arm st1 mk1 = (armS (crashS R1.d mk0) st1 mk1, 0) := arm_eq ha1.quiet.up hst1
  have hUp1 := hUk.arm hst1 hmk1
  obtain ⟨d2, hd2⟩ : ∃ d2, d2 = armS (crashS R1.d mk0) st1 mk1 := ⟨_, rfl⟩
  rw [← hd2] at hUp1 har1
  have hd2b : d2.blocks = (crashS R1.d mk0).blocks := by rw [hd2]; rfl
  obtain ⟨⟨b1, b2, b3, b4⟩, b5, b6, b7, b8⟩ := r1.bd hb01 h400 (by decide)
  obtain ⟨⟨restk, hrest⟩, _⟩ := r1.sub hk5
  have hkl : k1.gr.length ≤ 12 := by
    have := congrArg List.length hrest
    rw [List.length_append] at this; omega
  have hk40 : ∀ g ∈ k1.gr, g.length ≤ 40 := fun g hg => b5 g (by rw [hrest]; exact List.mem_append.2 (.inl hg))
  have hkr : k1.recs.length ≤ 1000 := by
    have := flatten_len k1.gr 40 hk40
    show k1.gr.flatten.length ≤ _
    omega
  obtain ⟨da2, ta2, r2⟩ := round_ok g1 d2 k1 hUp1
  have cr2 := fun kd kj => round_dj (gl := gl) d2 (1 + 5000 * g0.length + 2 + 1) kd kj k1 g1 m hUp1 (by omega) (by omega) (by omega) h401 (by omega) hk40
  generalize roundS k1 d2 g1 = R2 at r2 cr2
  obtain ⟨⟨e1, e2, e3, e4⟩, e5, e6, e7, e8⟩ := r2.bd hb11 h401 hk4
  have ha2 := r2.crash mk1
  obtain ⟨k2, hk2e⟩ : ∃ k2, openD (crashS R2.d mk1) = k2 := ⟨_, rfl⟩
  have hk2b := found_bd ha2.quiet (by rw [ha2.len]; exact hm2)
  have htwo : Clash (R1.heads ++ R2.heads) (R1.tried ++ R2.tried) ∨ (afterS k2 (k1.gr ++ R2.acked) (R1.failed ++ R2.failed)).2 = true := by
    by_cases h : Clash (R1.heads ++ R2.heads) (R1.tried ++ R2.tried)
    · exact .inl h
    · refine .inr (after_yes ?_)
      rw [← hk2e]
      rcases crash_two r1 hshort mk0 hk2 hk5 hd2b r2 mk1 h with e | ⟨g, hg, e⟩
      · rw [e]; exact .inl r2.gr
      · exact .inr ⟨g, hg, by rw [e, r2.gr]⟩
  rw [hk2e] at hk2b
  have hcases : (k1.gr = R1.acked) ∨ ∃ g, R1.failed = [g] ∧ k1.gr = R1.acked ++ [g] := by
    rcases hk5 with e | ⟨g, e1, e2⟩
    · exact .inl (by rw [e, r1.gr]; rfl)
    · exact .inr ⟨g, e1, by rw [e2]; show ta1.gr ++ [g] = _; rw [r1.gr]; rfl⟩
  have hfine1 := ha1.fine
  have hup1 := ha1.quiet.up
  have hfine2 := ha2.fine
  have hup2 := ha2.quiet.up
  have hcc : Clash (R1.heads ++ R2.heads) (R1.tried ++ R2.tried) → Con Try.prog gl 38 [LH (R1.heads ++ R2.heads), LG (R1.tried ++ R2.tried)] (BO true) := fun h =>
    clash_con (gl := gl) (R1.heads ++ R2.heads) (R1.tried ++ R2.tried) true ⟨fun _ => h, fun _ => rfl⟩ (by rw [List.length_append, List.length_append, b3, e3]) (by rw [List.length_append]; omega) (fun p hp => by
      rcases List.mem_append.1 hp with hp | hp
      · exact b8 p hp
      · exact e8 p hp) (fun g hg => by
      rcases List.mem_append.1 hg with hg | hg
      · have := b5 g hg; omega
      · have := e5 g hg; omega)
  clear hz hs0 hs1 hUk hUp0 hUp1 hU0 r1 r2 ha1 ha2 hk5 hk2 hrest hb02 hb12 hshort hd2b hd1 hd2
  refine con_of Try.func9 rfl (by kernel_rfl) rfl ?_
  simp only [Try.ntmps9, Try.results9, argEnv, ofC, of1, List.map]
  repeat' (first
 | ((with_reducible apply (r_call (f := 15))); exact rfl; exact rfl; exact c0; exact rfl; exact rfl)
 | ((with_reducible apply (r_call (f := 10))); exact rfl; exact rfl; (first | exact c1 | exact c2); exact rfl; exact rfl)
 | ((with_reducible apply (r_index_p 0)); exact rfl; exact rfl; exact rfl; decide; exact rfl)
 | ((with_reducible apply (r_index_p 1)); exact rfl; exact rfl; exact rfl; decide; exact rfl)
 | ((with_reducible apply aw_seq))
 | ((with_reducible apply aw_region))
 | ((with_reducible apply thn_normal))
 | ((with_reducible apply aw_skip))
 | ((with_reducible apply ao_nil))
 | ((with_reducible apply r_move); exact rfl; exact rfl)
 | ((with_reducible apply r_assign); exact rfl; exact rfl)
 | ((with_reducible apply r_field_p); exact rfl; exact rfl)
 | ((with_reducible apply r_load_p); exact rfl; exact rfl; exact rfl; exact rfl)
 | ((with_reducible apply r_lss); exact rfl; exact rfl; exact rfl)
 | ((with_reducible apply r_gtr); exact rfl; exact rfl; exact rfl)
 | ((with_reducible apply r_box_a); exact rfl; exact rfl)
 | ((with_reducible apply r_pick_f); exact rfl; exact rfl; exact rfl)
 | ((with_reducible apply r_not); exact rfl; exact rfl)
 | (((with_reducible apply r_guard); exact rfl; exact rfl; exact rfl; exact rfl) <;> intro hg <;> (first | (exact absurd hg (by decide)) | ((try simp only [decide_eq_true_eq, decide_eq_false_iff_not, Bool.not_eq_true', Bool.not_eq_false', Bool.not_true, Bool.not_false, Bool.not_not, Int.not_lt, Int.not_le, Nat.not_lt, Nat.not_le, gt_iff_lt, ge_iff_le, List.cons.injEq, and_true] at hg); first | (exact absurd trivial hg) | (exfalso; omega) | (have hT : True := hg; clear hT hg) | skip)))
 | (((with_reducible apply aw_cond); exact rfl) <;> intro hg <;> (first | (exact absurd hg (by decide)) | ((try simp only [decide_eq_true_eq, decide_eq_false_iff_not, Bool.not_eq_true', Bool.not_eq_false', Bool.not_true, Bool.not_false, Bool.not_not, Int.not_lt, Int.not_le, Nat.not_lt, Nat.not_le, gt_iff_lt, ge_iff_le, List.cons.injEq, and_true] at hg); first | (exact absurd trivial hg) | (exfalso; omega) | (have hT : True := hg; clear hT hg) | skip)))
 )
  refine r_callNE (open_law m ⟨by omega, by omega⟩) rfl ⟨.inl rfl, trivial⟩ rfl ?_
  rintro ⟨kd, kj⟩
  clear c0 c1 c2
  repeat' (first
 | ((with_reducible apply r_eqnilp); exact rfl; exact rfl; exact rfl)
 | ((with_reducible apply aw_seq))
 | ((with_reducible apply aw_region))
 | ((with_reducible apply aw_block))
 | ((with_reducible apply thn_normal))
 | ((with_reducible apply aw_skip))
 | ((with_reducible apply ao_nil))
 | ((with_reducible apply r_move); exact rfl; exact rfl)
 | ((with_reducible apply r_assign); exact rfl; exact rfl)
 | ((with_reducible apply r_extract); exact rfl; exact rfl; exact rfl)
 | (((with_reducible apply aw_cond); exact rfl) <;> intro hg <;> (first | (exact absurd hg (by decide)) | ((try simp only [decide_eq_true_eq, decide_eq_false_iff_not, Bool.not_eq_true', Bool.not_eq_false', Bool.not_true, Bool.not_false, Bool.not_not, Int.not_lt, Int.not_le, Nat.not_lt, Nat.not_le, gt_iff_lt, ge_iff_le, List.cons.injEq, and_true] at hg); first | (exact absurd trivial hg) | (exfalso; omega) | (have hT : True := hg; clear hT hg) | skip)))
 )
  refine aw_nilS 9 1 rfl ?_
  refine aw_nilvec 10 23 1 rfl rfl ?_
  refine aw_nilvec 11 23 1 rfl rfl ?_
  refine aw_nilvec 12 22 1 rfl rfl ?_
  obtain ⟨cn, hcn⟩ : ∃ cn, cn = 1 + 5000 * g0.length := ⟨_, rfl⟩
  have hcn1 : cn ≤ 60001 := by omega
  have cr1 := cr1 kd kj
  rw [← hcn] at cr1 cr2
  refine aw_loopG (G := Nat × List (Nat × AV) × List (Nat × Option AB)) (fun (i, ev, hp) => (i = 0 ∧ ev = twE kj [] 0 0 0 0 ∧ hp = twH g0 g1 st0 mk0 st1 mk1 (DJ (DS.new m) 0 kd kj J0) [] [] []) ∨ (i = 1 ∧ ∃ kk, ev = twE kk k1.gr R1.failed.length R1.tried.length R1.heads.length 1 ∧ hp = twH g0 g1 st0 mk0 st1 mk1 (starP (DJ (crashS R1.d mk0) (cn + 2) kd kk k1) kj (jP kd R1.t)) R1.failed R1.tried R1.heads) ∨ (i = 2 ∧ ev = [(13, A 2)] ∧ hp = [])) (fun (i, ev, hp) => 2 - i) (fun (i, ev, hp) => ev) (fun (i, ev, hp) => hp) 6 (0, twE kj [] 0 0 0 0, twH g0 g1 st0 mk0 st1 mk1 (DJ (DS.new m) 0 kd kj J0) [] [] []) ?_ (by dsimp only [twE, twH]; refine weak_mk rfl ?_ ?_ <;> repeat (first | exact envW_nil | exact heapW_nil | refine envW_cons rfl rfl ?_ | refine heapW_cons rfl rfl rfl ?_)) rfl ?_
  · exact .inl ⟨rfl, rfl, rfl⟩
  rintro ⟨i, ev, hp⟩ hI
  dsimp only at hI ⊢
  rcases hI with ⟨rfl, rfl, rfl⟩ | ⟨rfl, kj', rfl, rfl⟩ | ⟨rfl, rfl, rfl⟩
  all_goals dsimp only [twE, twH]
  · -- the first run
    have car := ((dsk_arm (gl := gl) (DS.new m) 0 st0 mk0 hmk0).at0 kd).left kj (jP kd J0)
    rw [har0] at car
    have co := (crashed_o (gl := gl) R1.d cn kd mk0 hmk0 (by omega) hfine1 hup1).left kj (jP kd R1.t)
    rw [hk1] at co
    repeat' (first
 | (refine aw_drawt 9 ?_ ?_; (kernel_rfl); (simp only [List.take_succ_cons, List.take_zero, List.drop_succ_cons, List.drop_zero]))
 | ((with_reducible apply (r_callO (f := 35) 2)); exact car; exact rfl; exact rfl; exact rfl; exact rfl)
 | ((with_reducible apply (r_callO (f := 36) 2)); exact cr1; exact rfl; exact rfl; exact rfl; exact rfl)
 | ((with_reducible apply (r_index_p 0)); exact rfl; exact rfl; exact rfl; decide; exact rfl)
 | ((with_reducible apply (r_appendl (n' := 0) (enc := grC) (l := []) (l2 := R1.failed))); exact rfl; exact rfl; exact inferInstance; exact rfl; exact rfl; exact (by omega); exact (by omega); exact rfl)
 | ((with_reducible apply (r_appendl (n' := 0) (enc := grC) (l := []) (l2 := R1.tried))); exact rfl; exact rfl; exact inferInstance; exact rfl; exact rfl; exact (by omega); exact (by omega); exact rfl)
 | ((with_reducible apply (r_appendl (n' := 0) (enc := hdC) (l := []) (l2 := R1.heads))); exact rfl; exact rfl; exact inferInstance; exact rfl; exact rfl; exact (by omega); exact (by omega); exact rfl)
 | ((with_reducible apply aw_seq))
 | ((with_reducible apply aw_region))
 | ((with_reducible apply aw_block))
 | ((with_reducible apply thn_normal))
 | ((with_reducible apply aw_skip))
 | ((with_reducible apply ao_nil))
 | ((with_reducible apply r_move); exact rfl; exact rfl)
 | ((with_reducible apply r_assign); exact rfl; exact rfl)
 | ((with_reducible apply r_field_p); exact rfl; exact rfl)
 | ((with_reducible apply r_load_p); exact rfl; exact rfl; exact rfl; exact rfl)
 | ((with_reducible apply r_lss); exact rfl; exact rfl; exact rfl)
 | ((with_reducible apply r_neq); exact rfl; exact rfl; exact rfl)
 | ((with_reducible apply r_not); exact rfl; exact rfl)
 | ((with_reducible apply r_extract); exact rfl; exact rfl; exact rfl)
 | (((with_reducible apply aw_cond); exact rfl) <;> intro hg <;> (first | (exact absurd hg (by decide)) | ((try simp only [decide_eq_true_eq, decide_eq_false_iff_not, Bool.not_eq_true', Bool.not_eq_false', Bool.not_true, Bool.not_false, Bool.not_not, Int.not_lt, Int.not_le, Nat.not_lt, Nat.not_le, gt_iff_lt, ge_iff_le, List.cons.injEq, and_true] at hg); first | (exact absurd trivial hg) | (exfalso; omega) | (have hT : True := hg; clear hT hg) | skip)))
 | ((with_reducible apply ds_nil))
 )
    rw [Nat.zero_add R1.failed.length, Nat.zero_add R1.tried.length, Nat.zero_add R1.heads.length]
    refine r_callOE (f := 37) 2 co rfl rfl rfl rfl (fun kk => ?_)
    have ij := (is_dj (gl := gl) (crashS R1.d mk0) (cn + 2) kd kk k1 R1.acked (by omega) (fun i hi => by have := b6 _ (List.getElem_mem hi); omega) (by omega) (by omega)).left kj (jP kd R1.t)
    repeat' (first
 | ((with_reducible apply r_eqnil1); exact rfl; exact rfl; exact rfl)
 | ((with_reducible apply (r_appendl (n' := 0) (enc := grC) (l := []) (l2 := []))); exact rfl; exact rfl; exact inferInstance; exact rfl; exact rfl; decide; exact (by show (0 + 0) * _ ≤ _; omega); exact rfl)
 | ((with_reducible apply (r_appendl (n' := 0) (enc := grC) (l := []) (l2 := R1.acked))); exact rfl; exact rfl; exact inferInstance; exact rfl; exact rfl; exact (by omega); exact (by omega); exact rfl)
 | ((with_reducible apply (r_freeze 119)); exact rfl; exact rfl; exact (by rw [flat_len EncL.len]; simp))
 | ((with_reducible apply aw_seq))
 | ((with_reducible apply aw_region))
 | ((with_reducible apply thn_normal))
 | ((with_reducible apply aw_skip))
 | ((with_reducible apply ao_nil))
 | ((with_reducible apply r_move); exact rfl; exact rfl)
 | ((with_reducible apply r_assign); exact rfl; exact rfl)
 | (((with_reducible apply aw_cond); exact rfl) <;> intro hg <;> (first | (exact absurd hg (by decide)) | ((try simp only [decide_eq_true_eq, decide_eq_false_iff_not, Bool.not_eq_true', Bool.not_eq_false', Bool.not_true, Bool.not_false, Bool.not_not, Int.not_lt, Int.not_le, Nat.not_lt, Nat.not_le, gt_iff_lt, ge_iff_le, List.cons.injEq, and_true] at hg); first | (exact absurd trivial hg) | (exfalso; omega) | (have hT : True := hg; clear hT hg) | skip)))
 | ((with_reducible apply r_lit0); exact rfl)
 )
    refine r_in2 Try.func39 rfl Try.results39 (by kernel_rfl) Try.ntmps39 rfl rfl rfl rfl ?_
    rcases hcases with hka | ⟨g, hfg, hka⟩
    · rw [isS_yes hka] at ij
      repeat' (first
 | ((with_reducible apply (r_callqO (f := 26) 2)); exact ij; exact rfl; exact rfl; exact rfl; exact rfl; exact rfl)
 | ((with_reducible apply aw_seq))
 | ((with_reducible apply aw_region))
 | ((with_reducible apply thn_normal))
 | ((with_reducible apply thn_ret))
 | ((with_reducible apply aw_ret))
 | ((with_reducible apply ao_nil))
 | ((with_reducible apply r_move); exact rfl; exact rfl)
 | ((with_reducible apply r_assign); exact rfl; exact rfl)
 | (((with_reducible apply aw_cond); exact rfl) <;> intro hg <;> (first | (exact absurd hg (by decide)) | ((try simp only [decide_eq_true_eq, decide_eq_false_iff_not, Bool.not_eq_true', Bool.not_eq_false', Bool.not_true, Bool.not_false, Bool.not_not, Int.not_lt, Int.not_le, Nat.not_lt, Nat.not_le, gt_iff_lt, ge_iff_le, List.cons.injEq, and_true] at hg); first | (exact absurd trivial hg) | (exfalso; omega) | (have hT : True := hg; clear hT hg) | skip)))
 )
      all_goals refine back2_ret (.inr rfl) rfl rfl ?_
      all_goals try dsimp only
      repeat' (first
 | ((with_reducible apply aw_seq))
 | ((with_reducible apply aw_region))
 | ((with_reducible apply thn_normal))
 | ((with_reducible apply inb_normal))
 | ((with_reducible apply aw_skip))
 | ((with_reducible apply ao_nil))
 | ((with_reducible apply r_move); exact rfl; exact rfl)
 | ((with_reducible apply r_assign); exact rfl; exact rfl)
 | ((with_reducible apply r_add); exact rfl; exact rfl; exact (by first | assumption | (unfold fits; omega)); exact rfl)
 | ((with_reducible apply r_not); exact rfl; exact rfl)
 | ((with_reducible apply r_extract); exact rfl; exact rfl; exact rfl)
 | (((with_reducible apply aw_cond); exact rfl) <;> intro hg <;> (first | (exact absurd hg (by decide)) | ((try simp only [decide_eq_true_eq, decide_eq_false_iff_not, Bool.not_eq_true', Bool.not_eq_false', Bool.not_true, Bool.not_false, Bool.not_not, Int.not_lt, Int.not_le, Nat.not_lt, Nat.not_le, gt_iff_lt, ge_iff_le, List.cons.injEq, and_true] at hg); first | (exact absurd trivial hg) | (exfalso; omega) | (have hT : True := hg; clear hT hg) | skip)))
 )
      refine ⟨(1, twE kk R1.acked R1.failed.length R1.tried.length R1.heads.length 1, twH g0 g1 st0 mk0 st1 mk1 (starP (DJ (crashS R1.d mk0) (cn + 2) kd kk k1) kj (jP kd R1.t)) R1.failed R1.tried R1.heads), ?_, ?_, by dsimp only [twE, twH]; refine weak_mk rfl ?_ ?_ <;> repeat (first | exact envW_nil | exact heapW_nil | refine envW_cons rfl rfl ?_ | refine heapW_cons rfl rfl rfl ?_)⟩
      · show 2 - 1 < 2 - 0; omega
      · exact .inr (.inl ⟨rfl, kk, by rw [hka], rfl⟩)
    · rw [isS_no (by rw [hka]; simp)] at ij
      have ik := (is_dj (gl := gl) (crashS R1.d mk0) (cn + 2) kd kk k1 k1.gr (by omega) (fun i hi => by have := hk40 _ (List.getElem_mem hi); omega) (by omega) (by omega)).left kj (jP kd R1.t)
      rw [isS_yes rfl] at ik
      have cw := with_con (gl := gl) R1.acked g (by omega)
      rw [← hka] at cw
      have hg1 : ([g] : List (List ByteArray)).length = 1 := rfl
      rw [hfg]
      repeat' (first
 | ((with_reducible apply (r_callqO (f := 26) 2)); exact ij; exact rfl; exact rfl; exact rfl; exact rfl; exact rfl)
 | ((with_reducible apply aw_seq))
 | ((with_reducible apply aw_region))
 | ((with_reducible apply aw_block))
 | ((with_reducible apply thn_normal))
 | ((with_reducible apply aw_skip))
 | ((with_reducible apply ao_nil))
 | ((with_reducible apply r_move); exact rfl; exact rfl)
 | ((with_reducible apply r_assign); exact rfl; exact rfl)
 | (((with_reducible apply aw_cond); exact rfl) <;> intro hg <;> (first | (exact absurd hg (by decide)) | ((try simp only [decide_eq_true_eq, decide_eq_false_iff_not, Bool.not_eq_true', Bool.not_eq_false', Bool.not_true, Bool.not_false, Bool.not_not, Int.not_lt, Int.not_le, Nat.not_lt, Nat.not_le, gt_iff_lt, ge_iff_le, List.cons.injEq, and_true] at hg); first | (exact absurd trivial hg) | (exfalso; omega) | (have hT : True := hg; clear hT hg) | skip)))
 )
      refine aw_loopG (G := Nat) (fun (j : Nat) => j = 0) (fun (j : Nat) => 1 - j) (fun (j : Nat) => [(0, .c (ptrV kk 0)), (1, .c (LG R1.acked)), (2, .vec 3 [g].length), (8, A j)]) (fun (j : Nat) => [(0, some (.cells 77 [.c (LG g0), .c (LG g1)])), (1, some (.cells 78 [A st0, .c (U mk0), A st1, .c (U mk1)])), (2, some (.obj (starP (DJ (crashS R1.d mk0) (cn + 2) kd kk k1) kj (jP kd R1.t)))), (3, some (.vec 23 1 ([g].flatMap grC))), (4, some (.vec 23 1 (R1.tried.flatMap grC))), (5, some (.vec 22 1 (R1.heads.flatMap hdC)))]) 7 0 ?_ (by refine weak_mk rfl ?_ ?_ <;> repeat (first | exact envW_nil | exact heapW_nil | refine envW_cons rfl rfl ?_ | refine heapW_cons rfl rfl rfl ?_)) rfl ?_
      · rfl
      rintro j hI
      try dsimp only at hI
      try dsimp only
      subst hI
      repeat' (first
 | ((with_reducible apply (r_callqO (f := 26) 2)); exact ik; exact rfl; exact rfl; exact rfl; exact rfl; exact rfl)
 | ((with_reducible apply (r_call (f := 19))); exact rfl; exact rfl; exact cw; exact rfl; exact rfl)
 | ((with_reducible apply aw_seq))
 | ((with_reducible apply aw_region))
 | ((with_reducible apply aw_block))
 | ((with_reducible apply thn_normal))
 | ((with_reducible apply thn_ret))
 | ((with_reducible apply inb_ret))
 | ((with_reducible apply aw_skip))
 | ((with_reducible apply aw_ret))
 | ((with_reducible apply ao_nil))
 | ((with_reducible apply r_move); exact rfl; exact rfl)
 | ((with_reducible apply r_assign); exact rfl; exact rfl)
 | ((with_reducible apply r_lss); exact rfl; exact rfl; exact rfl)
 | ((with_reducible apply r_index_vf); exact rfl; exact rfl; exact inferInstance; (first | exact rfl | assumption | omega); exact rfl; exact rfl; (first | assumption | omega); exact rfl)
 | ((with_reducible apply r_load_vf0); exact rfl; exact rfl; exact inferInstance; (first | exact rfl | assumption | omega); exact List.getElem?_eq_getElem (by first | assumption | omega); exact rfl; exact rfl)
 | ((with_reducible apply r_len_v); exact rfl; exact rfl; (first | (exact flat_len EncL.len _) | (rw [flat_len EncL.len]; first | assumption | omega | (congr 1; omega))); exact rfl)
 | (((with_reducible apply aw_cond); exact rfl) <;> intro hg <;> (first | (exact absurd hg (by decide)) | ((try simp only [decide_eq_true_eq, decide_eq_false_iff_not, Bool.not_eq_true', Bool.not_eq_false', Bool.not_true, Bool.not_false, Bool.not_not, Int.not_lt, Int.not_le, Nat.not_lt, Nat.not_le, gt_iff_lt, ge_iff_le, List.cons.injEq, and_true] at hg); first | (exact absurd trivial hg) | (exfalso; omega) | (have hT : True := hg; clear hT hg) | skip)))
 )
      all_goals refine back2_ret (.inr rfl) rfl rfl ?_
      all_goals try dsimp only
      repeat' (first
 | ((with_reducible apply aw_seq))
 | ((with_reducible apply aw_region))
 | ((with_reducible apply thn_normal))
 | ((with_reducible apply inb_normal))
 | ((with_reducible apply aw_skip))
 | ((with_reducible apply ao_nil))
 | ((with_reducible apply r_move); exact rfl; exact rfl)
 | ((with_reducible apply r_assign); exact rfl; exact rfl)
 | ((with_reducible apply r_add); exact rfl; exact rfl; exact (by first | assumption | (unfold fits; omega)); exact rfl)
 | ((with_reducible apply r_not); exact rfl; exact rfl)
 | ((with_reducible apply r_extract); exact rfl; exact rfl; exact rfl)
 | (((with_reducible apply aw_cond); exact rfl) <;> intro hg <;> (first | (exact absurd hg (by decide)) | ((try simp only [decide_eq_true_eq, decide_eq_false_iff_not, Bool.not_eq_true', Bool.not_eq_false', Bool.not_true, Bool.not_false, Bool.not_not, Int.not_lt, Int.not_le, Nat.not_lt, Nat.not_le, gt_iff_lt, ge_iff_le, List.cons.injEq, and_true] at hg); first | (exact absurd trivial hg) | (exfalso; omega) | (have hT : True := hg; clear hT hg) | skip)))
 )
      refine ⟨(1, twE kk k1.gr [g].length R1.tried.length R1.heads.length 1, twH g0 g1 st0 mk0 st1 mk1 (starP (DJ (crashS R1.d mk0) (cn + 2) kd kk k1) kj (jP kd R1.t)) [g] R1.tried R1.heads), ?_, ?_, by dsimp only [twE, twH]; refine weak_mk rfl ?_ ?_ <;> repeat (first | exact envW_nil | exact heapW_nil | refine envW_cons rfl rfl ?_ | refine heapW_cons rfl rfl rfl ?_)⟩
      · show 2 - 1 < 2 - 0; omega
      · exact .inr (.inl ⟨rfl, kk, rfl, rfl⟩)
  · -- the second run
    have car := (((dsk_arm (gl := gl) (crashS R1.d mk0) (cn + 2) st1 mk1 hmk1).at0 kd).left kj' (jP kd k1)).left kj (jP kd R1.t)
    rw [har1] at car
    have cr2 := (cr2 kd kj').left kj (jP kd R1.t)
    have co := ((crashed_o (gl := gl) R2.d (cn + 2 + 1 + 5000 * g1.length) kd mk1 hmk1 (by omega) hfine2 hup2).left kj' (jP kd R2.t)).left kj (jP kd R1.t)
    rw [hk2e] at co
    repeat' (first
 | (refine aw_drawt 9 ?_ ?_; (kernel_rfl); (simp only [List.take_succ_cons, List.take_zero, List.drop_succ_cons, List.drop_zero]))
 | ((with_reducible apply (r_callO (f := 35) 2)); exact car; exact rfl; exact rfl; exact rfl; exact rfl)
 | ((with_reducible apply (r_callO (f := 36) 2)); exact cr2; exact rfl; exact rfl; exact rfl; exact rfl)
 | ((with_reducible apply (r_index_p 1)); exact rfl; exact rfl; exact rfl; decide; exact rfl)
 | ((with_reducible apply (r_appendl (enc := grC) (l := R1.failed) (l2 := R2.failed))); exact rfl; exact rfl; exact inferInstance; exact rfl; exact rfl; exact (by omega); exact (by omega); exact rfl)
 | ((with_reducible apply (r_appendl (enc := grC) (l := R1.tried) (l2 := R2.tried))); exact rfl; exact rfl; exact inferInstance; exact rfl; exact rfl; exact (by omega); exact (by omega); exact rfl)
 | ((with_reducible apply (r_appendl (enc := hdC) (l := R1.heads) (l2 := R2.heads))); exact rfl; exact rfl; exact inferInstance; exact rfl; exact rfl; exact (by omega); exact (by omega); exact rfl)
 | ((with_reducible apply aw_seq))
 | ((with_reducible apply aw_region))
 | ((with_reducible apply aw_block))
 | ((with_reducible apply thn_normal))
 | ((with_reducible apply aw_skip))
 | ((with_reducible apply ao_nil))
 | ((with_reducible apply r_move); exact rfl; exact rfl)
 | ((with_reducible apply r_assign); exact rfl; exact rfl)
 | ((with_reducible apply r_field_p); exact rfl; exact rfl)
 | ((with_reducible apply r_load_p); exact rfl; exact rfl; exact rfl; exact rfl)
 | ((with_reducible apply r_lss); exact rfl; exact rfl; exact rfl)
 | ((with_reducible apply r_neq); exact rfl; exact rfl; exact rfl)
 | ((with_reducible apply r_not); exact rfl; exact rfl)
 | ((with_reducible apply r_extract); exact rfl; exact rfl; exact rfl)
 | (((with_reducible apply aw_cond); exact rfl) <;> intro hg <;> (first | (exact absurd hg (by decide)) | ((try simp only [decide_eq_true_eq, decide_eq_false_iff_not, Bool.not_eq_true', Bool.not_eq_false', Bool.not_true, Bool.not_false, Bool.not_not, Int.not_lt, Int.not_le, Nat.not_lt, Nat.not_le, gt_iff_lt, ge_iff_le, List.cons.injEq, and_true] at hg); first | (exact absurd trivial hg) | (exfalso; omega) | (have hT : True := hg; clear hT hg) | skip)))
 | ((with_reducible apply ds_nil))
 )
    refine r_callOE (f := 37) 2 co rfl rfl rfl rfl (fun kk => ?_)
    have ca2 := ((after_dj (gl := gl) (crashS R2.d mk1) (cn + 2 + 1 + 5000 * g1.length + 2) kd kk k2 (k1.gr ++ R2.acked) (R1.failed ++ R2.failed) (by rw [List.length_append]; omega) (fun g hg => by
      rcases List.mem_append.1 hg with hg | hg
      · exact hk40 g hg
      · exact e6 g hg) (by rw [List.length_append]; omega) (fun g hg => by
      rcases List.mem_append.1 hg with hg | hg
      · exact b7 g hg
      · exact e7 g hg) (by omega) (by omega)).left kj' (jP kd R2.t)).left kj (jP kd R1.t)
    cases hb : (afterS k2 (k1.gr ++ R2.acked) (R1.failed ++ R2.failed)).2 with
    | true =>
      rw [hb] at ca2
      generalize (afterS k2 (k1.gr ++ R2.acked) (R1.failed ++ R2.failed)).1 = nxt at ca2
      repeat' (first
 | ((with_reducible apply (r_callO (f := 39) 2)); exact ca2; exact rfl; exact rfl; exact rfl; exact rfl)
 | ((with_reducible apply r_eqnil1); exact rfl; exact rfl; exact rfl)
 | ((with_reducible apply (r_appendl (n' := 0) (enc := grC) (l := []) (l2 := k1.gr))); exact rfl; exact rfl; exact inferInstance; exact rfl; exact rfl; exact (by omega); exact (by omega); exact rfl)
 | ((with_reducible apply (r_appendl (enc := grC) (l := [] ++ k1.gr) (l2 := R2.acked))); exact rfl; exact rfl; exact inferInstance; exact (by simp); exact rfl; exact (by show 0 + k1.gr.length + _ < _; omega); exact (by show (0 + k1.gr.length + _) * _ ≤ _; omega); exact rfl)
 | ((with_reducible apply (r_freeze 119)); exact rfl; exact rfl; exact (by rw [flat_len EncL.len]; simp))
 | ((with_reducible apply (r_freeze 120)); exact rfl; exact rfl; exact (by rw [flat_len EncL.len]; simp))
 | ((with_reducible apply aw_seq))
 | ((with_reducible apply aw_region))
 | ((with_reducible apply thn_normal))
 | ((with_reducible apply inb_normal))
 | ((with_reducible apply aw_skip))
 | ((with_reducible apply ao_nil))
 | ((with_reducible apply r_move); exact rfl; exact rfl)
 | ((with_reducible apply r_assign); exact rfl; exact rfl)
 | ((with_reducible apply r_add); exact rfl; exact rfl; exact (by first | assumption | (unfold fits; omega)); exact rfl)
 | ((with_reducible apply r_not); exact rfl; exact rfl)
 | ((with_reducible apply r_extract); exact rfl; exact rfl; exact rfl)
 | (((with_reducible apply aw_cond); exact rfl) <;> intro hg <;> (first | (exact absurd hg (by decide)) | ((try simp only [decide_eq_true_eq, decide_eq_false_iff_not, Bool.not_eq_true', Bool.not_eq_false', Bool.not_true, Bool.not_false, Bool.not_not, Int.not_lt, Int.not_le, Nat.not_lt, Nat.not_le, gt_iff_lt, ge_iff_le, List.cons.injEq, and_true] at hg); first | (exact absurd trivial hg) | (exfalso; omega) | (have hT : True := hg; clear hT hg) | skip)))
 | ((with_reducible apply r_lit0); exact rfl)
 )
      refine ⟨(2, [(13, A 2)], []), ?_, ?_, by refine weak_mk rfl ?_ ?_ <;> repeat (first | exact envW_nil | exact heapW_nil | refine envW_cons rfl rfl ?_ | refine heapW_cons rfl rfl rfl ?_)⟩
      · show 2 - 2 < 2 - 1; omega
      · exact .inr (.inr ⟨rfl, rfl, rfl⟩)
    | false =>
      rw [hb] at ca2
      rcases htwo with hcl | htwo
      rotate_left
      · rw [hb] at htwo; cases htwo
      have hcc := hcc hcl
      repeat' (first
 | ((with_reducible apply (r_callO (f := 39) 2)); exact ca2; exact rfl; exact rfl; exact rfl; exact rfl)
 | ((with_reducible apply r_eqnil1); exact rfl; exact rfl; exact rfl)
 | ((with_reducible apply (r_appendl (n' := 0) (enc := grC) (l := []) (l2 := k1.gr))); exact rfl; exact rfl; exact inferInstance; exact rfl; exact rfl; exact (by omega); exact (by omega); exact rfl)
 | ((with_reducible apply (r_appendl (enc := grC) (l := [] ++ k1.gr) (l2 := R2.acked))); exact rfl; exact rfl; exact inferInstance; exact (by simp); exact rfl; exact (by show 0 + k1.gr.length + _ < _; omega); exact (by show (0 + k1.gr.length + _) * _ ≤ _; omega); exact rfl)
 | ((with_reducible apply (r_freeze 119)); exact rfl; exact rfl; exact (by rw [flat_len EncL.len]; simp))
 | ((with_reducible apply (r_freeze 120)); exact rfl; exact rfl; exact (by rw [flat_len EncL.len]; simp))
 | ((with_reducible apply (r_callv (f := 38))); exact hcc; exact rfl; exact cl_cons (cl_vec rfl (by rw [flat_len EncL.len]; simp)) (cl_cons (cl_vec rfl (by rw [flat_len EncL.len]; simp)) cl_nil); exact rfl; exact rfl)
 | ((with_reducible apply (r_call (args := []) (f := 11))); exact rfl; exact rfl; exact ca; exact rfl; exact rfl)
 | ((with_reducible apply aw_seq))
 | ((with_reducible apply aw_region))
 | ((with_reducible apply thn_normal))
 | ((with_reducible apply thn_ret))
 | ((with_reducible apply inb_ret))
 | ((with_reducible apply aw_skip))
 | ((with_reducible apply aw_ret))
 | ((with_reducible apply ao_nil))
 | ((with_reducible apply r_move); exact rfl; exact rfl)
 | ((with_reducible apply r_assign); exact rfl; exact rfl)
 | ((with_reducible apply r_pick_t); exact rfl; exact rfl; exact rfl)
 | ((with_reducible apply r_not); exact rfl; exact rfl)
 | ((with_reducible apply r_extract); exact rfl; exact rfl; exact rfl)
 | (((with_reducible apply r_guard); exact rfl; exact rfl; exact rfl; exact rfl) <;> intro hg <;> (first | (exact absurd hg (by decide)) | ((try simp only [decide_eq_true_eq, decide_eq_false_iff_not, Bool.not_eq_true', Bool.not_eq_false', Bool.not_true, Bool.not_false, Bool.not_not, Int.not_lt, Int.not_le, Nat.not_lt, Nat.not_le, gt_iff_lt, ge_iff_le, List.cons.injEq, and_true] at hg); first | (exact absurd trivial hg) | (exfalso; omega) | (have hT : True := hg; clear hT hg) | skip)))
 | (((with_reducible apply aw_cond); exact rfl) <;> intro hg <;> (first | (exact absurd hg (by decide)) | ((try simp only [decide_eq_true_eq, decide_eq_false_iff_not, Bool.not_eq_true', Bool.not_eq_false', Bool.not_true, Bool.not_false, Bool.not_not, Int.not_lt, Int.not_le, Nat.not_lt, Nat.not_le, gt_iff_lt, ge_iff_le, List.cons.injEq, and_true] at hg); first | (exact absurd trivial hg) | (exfalso; omega) | (have hT : True := hg; clear hT hg) | skip)))
 | ((with_reducible apply r_lit0); exact rfl)
 )
      all_goals exact ret_b rfl rfl
  · skip
    repeat' (first
 | ((with_reducible apply (r_call (args := []) (f := 11))); exact rfl; exact rfl; exact ca; exact rfl; exact rfl)
 | ((with_reducible apply aw_seq))
 | ((with_reducible apply aw_region))
 | ((with_reducible apply thn_normal))
 | ((with_reducible apply thn_exit))
 | ((with_reducible apply inb_exit))
 | ((with_reducible apply aw_exit))
 | ((with_reducible apply aw_ret))
 | ((with_reducible apply ao_nil))
 | ((with_reducible apply r_move); exact rfl; exact rfl)
 | ((with_reducible apply r_assign); exact rfl; exact rfl)
 | ((with_reducible apply r_lss); exact rfl; exact rfl; exact rfl)
 | (((with_reducible apply aw_cond); exact rfl) <;> intro hg <;> (first | (exact absurd hg (by decide)) | ((try simp only [decide_eq_true_eq, decide_eq_false_iff_not, Bool.not_eq_true', Bool.not_eq_false', Bool.not_true, Bool.not_false, Bool.not_not, Int.not_lt, Int.not_le, Nat.not_lt, Nat.not_le, gt_iff_lt, ge_iff_le, List.cons.injEq, and_true] at hg); first | (exact absurd trivial hg) | (exfalso; omega) | (have hT : True := hg; clear hT hg) | skip)))
 )
    all_goals exact ret_b rfl rfl
end Go.Proofs.Ythkjkhffljlidaa.Jo
