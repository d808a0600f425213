/- JL8 JOpen: texts laid together. -/
import Derived.Test.YthkjkhffljlidaaMrgX8
import Derived.Test.YthkjkhffljlidaaMrgE4
import Derived.Test.YthkjkhffljlidaaMrgF0
import Derived.Test.YthkjkhffljlidaaMrgX0
import Derived.ChangeSame
set_option maxRecDepth 100000
set_option maxHeartbeats 64000000
/- The law JournalAtomic. -/
namespace Go.Proofs.Ythkjkhffljlidaa.Jo
set_option linter.unusedVariables false
set_option linter.unusedSimpArgs false
open Go.RowKit Go.Proofs.Ythkjkhffljlidaa.Ev Go.Proofs.Ythkjkhffljlidaa.Dk
variable {gl : List (Nat × List CV)}
abbrev sX : ByteArray := ⟨#[120]⟩
theorem trs_lt : ∀ (gs : List (List ByteArray)) (h u : Nat), h < 2 ^ 64 → ∀ x ∈ trs h u gs, x.p < 2 ^ 64
  | [], h, u, hh => fun x hx => by cases hx
  | g :: gs, h, u, hh => fun x hx => by
    rcases List.mem_cons.1 hx with rfl | hx
    · exact hh
    · exact trs_lt gs _ _ (divS_lt _ _ hh) x hx
theorem div_x (p : Nat) : chkS [sX] = 0 ∧ (divS p [sX]).1.length = 1 := by
  have hc : chkS [sX] = 0 := by decide +kernel
  refine ⟨hc, ?_⟩
  rw [divS_ok hc]
  show (divB p (streamB [sX])).1.length = 1
  have hs : (streamB [sX]).size = 2 := by
    rw [stream_one sX (by decide)]
    rfl
  rw [divB_length 2 _ _ (by omega), hs]
theorem isS_yes {t : JS} {gs : List (List ByteArray)} (h : t.gr = gs) : isS t gs = true := by
  subst h
  unfold isS
  rw [decide_eq_true rfl, decide_eq_true (show t.recs = t.gr.flatten from rfl)]
  rfl
theorem isS_no {t : JS} {gs : List (List ByteArray)} (h : t.gr.length ≠ gs.length) : isS t gs = false := by
  unfold isS
  rw [decide_eq_false h]; rfl
def armS (d : DS) (n m : Int) : DS := { d with armed := true, steps := n, mask := m }
theorem arm_eq {d : DS} (hd : d.down = false) {n m : Int} (hn : 0 ≤ n ∧ n ≤ 1000) : d.arm n m = (armS d n m, 0) := by
  unfold DS.arm armS
  rw [hd, if_neg (by decide), if_pos (by omega)]
theorem Up.arm {k : Nat} {d : DS} {t : JS} (h : Up k d t) {n m : Int} (hn : 0 ≤ n ∧ n ≤ 1000) (hm : 0 ≤ m ∧ m < 18446744073709551616) : Up k (armS d n m) t :=
  ⟨h.up, h.none, h.len, ⟨h.fine.len, h.fine.text, h.fine.pend, (by show 0 ≤ n ∧ n ≤ 1099511627776; omega), hm⟩, h.lies, h.stop, h.head⟩
theorem jatomic_law (n : Int) (_ : fits n) (gs : List (List ByteArray)) (_ : (∀ g ∈ gs, (∀ x ∈ g, x.size ≤ maxLen) ∧ g.length ≤ maxLen) ∧ gs.length ≤ maxLen) (cr : Int × Int) (hcr : fits cr.1 ∧ (0 ≤ cr.2 ∧ cr.2 < 18446744073709551616)) : Con Try.prog gl 8 [I n, LG gs, .agg [I cr.1, U cr.2]] T := by
  obtain ⟨st, mk⟩ := cr
  obtain ⟨_, hmk⟩ := hcr
  dsimp only at hmk ⊢
  have ca := awake_con (gl := gl)
  have c0 := sized_con (gl := gl) n
  have c1 := small_con (gl := gl) gs
  by_cases hok : sizedS n = true ∧ smallS gs = true ∧ 0 ≤ st ∧ st ≤ 1000
  rotate_left
  · skip
    refine con_of Try.func8 rfl (by kernel_rfl) rfl ?_
    simp only [Try.ntmps8, Try.results8, argEnv, ofC, of1, List.map]
    cases hz : sizedS n
    all_goals rw [hz] at c0
    all_goals cases hs : smallS gs
    all_goals rw [hs] at c1
    all_goals try simp only [hz, hs, true_and] at hok
    all_goals
      repeat' (first
 | ((with_reducible apply (r_call (f := 15))); exact rfl; exact rfl; exact c0; exact rfl; exact rfl)
 | ((with_reducible apply (r_call (f := 10))); exact rfl; exact rfl; exact c1; exact rfl; exact rfl)
 | ((with_reducible apply (r_call (args := []) (f := 11))); exact rfl; exact rfl; exact ca; exact rfl; exact rfl)
 | ((with_reducible apply aw_seq))
 | ((with_reducible apply aw_region))
 | ((with_reducible apply thn_normal))
 | ((with_reducible apply thn_ret))
 | ((with_reducible apply aw_ret))
 | ((with_reducible apply ao_nil))
 | ((with_reducible apply r_move); exact rfl; exact rfl)
 | ((with_reducible apply r_assign); exact rfl; exact rfl)
 | ((with_reducible apply r_field_p); exact rfl; exact rfl)
 | ((with_reducible apply r_load_p); exact rfl; exact rfl; exact rfl; exact rfl)
 | ((with_reducible apply r_lss); exact rfl; exact rfl; exact rfl)
 | ((with_reducible apply r_gtr); exact rfl; exact rfl; exact rfl)
 | ((with_reducible apply r_box_a); exact rfl; exact rfl)
 | ((with_reducible apply r_pick_t); exact rfl; exact rfl; exact rfl)
 | ((with_reducible apply r_pick_f); exact rfl; exact rfl; exact rfl)
 | ((with_reducible apply r_not); exact rfl; exact rfl)
 | (((with_reducible apply r_guard); exact rfl; exact rfl; exact rfl; exact rfl) <;> intro hg <;> (first | (exact absurd hg (by decide)) | ((try simp only [decide_eq_true_eq, decide_eq_false_iff_not, Bool.not_eq_true', Bool.not_eq_false', Bool.not_true, Bool.not_false, Bool.not_not, Int.not_lt, Int.not_le, Nat.not_lt, Nat.not_le, gt_iff_lt, ge_iff_le, List.cons.injEq, and_true] at hg); first | (exact absurd trivial hg) | (exfalso; omega) | (have hT : True := hg; clear hT hg) | skip)))
 | (((with_reducible apply aw_cond); exact rfl) <;> intro hg <;> (first | (exact absurd hg (by decide)) | ((try simp only [decide_eq_true_eq, decide_eq_false_iff_not, Bool.not_eq_true', Bool.not_eq_false', Bool.not_true, Bool.not_false, Bool.not_not, Int.not_lt, Int.not_le, Nat.not_lt, Nat.not_le, gt_iff_lt, ge_iff_le, List.cons.injEq, and_true] at hg); first | (exact absurd trivial hg) | (exfalso; omega) | (have hT : True := hg; clear hT hg) | skip)))
 )
      all_goals exact ret_b rfl rfl
  obtain ⟨hz, hs, hst⟩ := hok
  rw [hz] at c0
  rw [hs] at c1
  obtain ⟨m, rfl, hm1, hm2⟩ := sized_get hz
  obtain ⟨hb1, hb2⟩ := small_bd hs
  have hU0 : Up m (DS.new m) J0 := (Inv.new ⟨hm1, by omega⟩).toUp
  have hUp := hU0.arm hst hmk
  obtain ⟨d1, hd1⟩ : ∃ d1, d1 = armS (DS.new m) st mk := ⟨_, rfl⟩
  rw [← hd1] at hUp
  have har : (DS.new m).arm st mk = (d1, 0) := by rw [hd1]; exact arm_eq rfl hst
  have hshort : ∀ (q : Nat) (x : ByteArray), d1.blocks[q]? = some x → x.size ≤ 19 := fun q x hx => by
    rw [hd1] at hx
    have hx : (List.replicate m ByteArray.empty)[q]? = some x := hx
    have := List.mem_of_getElem? hx
    rw [List.mem_replicate] at this
    rw [this.2]; exact Nat.zero_le _
  obtain ⟨da, ta, r⟩ := round_ok gs d1 J0 hUp
  obtain ⟨R, hR⟩ : ∃ R, R = roundS J0 d1 gs := ⟨_, rfl⟩
  rw [← hR] at r
  clear hd1
  refine con_of Try.func8 rfl (by kernel_rfl) rfl ?_
  simp only [Try.ntmps8, Try.results8, argEnv, ofC, of1, List.map]
  repeat' (first
 | ((with_reducible apply (r_call (f := 15))); exact rfl; exact rfl; exact c0; exact rfl; exact rfl)
 | ((with_reducible apply (r_call (f := 10))); exact rfl; exact rfl; exact c1; exact rfl; exact rfl)
 | ((with_reducible apply aw_seq))
 | ((with_reducible apply aw_region))
 | ((with_reducible apply thn_normal))
 | ((with_reducible apply aw_skip))
 | ((with_reducible apply ao_nil))
 | ((with_reducible apply r_move); exact rfl; exact rfl)
 | ((with_reducible apply r_assign); exact rfl; exact rfl)
 | ((with_reducible apply r_field_p); exact rfl; exact rfl)
 | ((with_reducible apply r_load_p); exact rfl; exact rfl; exact rfl; exact rfl)
 | ((with_reducible apply r_lss); exact rfl; exact rfl; exact rfl)
 | ((with_reducible apply r_gtr); exact rfl; exact rfl; exact rfl)
 | ((with_reducible apply r_box_a); exact rfl; exact rfl)
 | ((with_reducible apply r_pick_f); exact rfl; exact rfl; exact rfl)
 | ((with_reducible apply r_not); exact rfl; exact rfl)
 | (((with_reducible apply r_guard); exact rfl; exact rfl; exact rfl; exact rfl) <;> intro hg <;> (first | (exact absurd hg (by decide)) | ((try simp only [decide_eq_true_eq, decide_eq_false_iff_not, Bool.not_eq_true', Bool.not_eq_false', Bool.not_true, Bool.not_false, Bool.not_not, Int.not_lt, Int.not_le, Nat.not_lt, Nat.not_le, gt_iff_lt, ge_iff_le, List.cons.injEq, and_true] at hg); first | (exact absurd trivial hg) | (exfalso; omega) | (have hT : True := hg; clear hT hg) | skip)))
 | (((with_reducible apply aw_cond); exact rfl) <;> intro hg <;> (first | (exact absurd hg (by decide)) | ((try simp only [decide_eq_true_eq, decide_eq_false_iff_not, Bool.not_eq_true', Bool.not_eq_false', Bool.not_true, Bool.not_false, Bool.not_not, Int.not_lt, Int.not_le, Nat.not_lt, Nat.not_le, gt_iff_lt, ge_iff_le, List.cons.injEq, and_true] at hg); first | (exact absurd trivial hg) | (exfalso; omega) | (have hT : True := hg; clear hT hg) | skip)))
 )
  refine r_callNE (open_law m ⟨by omega, by omega⟩) rfl ⟨.inl rfl, trivial⟩ rfl ?_
  rintro ⟨kd, kj⟩
  clear c0 c1
  have car := ((dsk_arm (gl := gl) (DS.new m) 0 st mk hmk).at0 kd).left kj (jP kd J0)
  rw [har] at car
  repeat' (first
 | ((with_reducible apply r_eqnilp); exact rfl; exact rfl; exact rfl)
 | ((with_reducible apply (r_callO (f := 35) 1)); exact car; exact rfl; exact rfl; exact rfl; exact rfl)
 | ((with_reducible apply aw_seq))
 | ((with_reducible apply aw_region))
 | ((with_reducible apply thn_normal))
 | ((with_reducible apply aw_skip))
 | ((with_reducible apply ao_nil))
 | ((with_reducible apply r_move); exact rfl; exact rfl)
 | ((with_reducible apply r_assign); exact rfl; exact rfl)
 | ((with_reducible apply r_field_p); exact rfl; exact rfl)
 | ((with_reducible apply r_load_p); exact rfl; exact rfl; exact rfl; exact rfl)
 | ((with_reducible apply r_neq); exact rfl; exact rfl; exact rfl)
 | ((with_reducible apply r_pick_f); exact rfl; exact rfl; exact rfl)
 | ((with_reducible apply r_extract); exact rfl; exact rfl; exact rfl)
 | (((with_reducible apply r_guard); exact rfl; exact rfl; exact rfl; exact rfl) <;> intro hg <;> (first | (exact absurd hg (by decide)) | ((try simp only [decide_eq_true_eq, decide_eq_false_iff_not, Bool.not_eq_true', Bool.not_eq_false', Bool.not_true, Bool.not_false, Bool.not_not, Int.not_lt, Int.not_le, Nat.not_lt, Nat.not_le, gt_iff_lt, ge_iff_le, List.cons.injEq, and_true] at hg); first | (exact absurd trivial hg) | (exfalso; omega) | (have hT : True := hg; clear hT hg) | skip)))
 | (((with_reducible apply aw_cond); exact rfl) <;> intro hg <;> (first | (exact absurd hg (by decide)) | ((try simp only [decide_eq_true_eq, decide_eq_false_iff_not, Bool.not_eq_true', Bool.not_eq_false', Bool.not_true, Bool.not_false, Bool.not_not, Int.not_lt, Int.not_le, Nat.not_lt, Nat.not_le, gt_iff_lt, ge_iff_le, List.cons.injEq, and_true] at hg); first | (exact absurd trivial hg) | (exfalso; omega) | (have hT : True := hg; clear hT hg) | skip)))
 )
  refine r_in5 Try.func36 rfl Try.results36 (by kernel_rfl) Try.ntmps36 rfl rfl rfl rfl ?_
  refine back5_split (fun K => ∀ f5 n' env' heap nx, (f5 = .c (LG R.failed) ∨ (R.failed = [] ∧ f5 = .c (.v (.slice none 0 0)))) → Weak ⟨n', env', heap, nx, gl⟩ ⟨n', [], [(0, some (.cells 69 [A st, .c (U mk)])), (1, some (.obj (DJ R.d (1 + 5000 * gs.length) kd kj R.t))), (2, some (.vec 23 1 (R.acked.flatMap grC))), (3, some (.vec 23 1 (R.tried.flatMap grC))), (4, some (.vec 22 1 (R.heads.flatMap hdC)))], 5, gl⟩ → nx ≤ 5 → K [.vec 2 R.acked.length, f5, .vec 3 R.tried.length, .vec 4 R.heads.length, .c T] heap nx) ?_ ?_
  · intro f5 n' env' heap nx hf hw hnx
    have hkg := crash_one r (fun q _ x hx => hshort q x hx) mk
    obtain ⟨k, hk1, hk2, hk3, hk4, hk5⟩ := hkg
    have ha := r.crash mk
    have hacked : ta.gr = R.acked := by rw [r.gr]; rfl
    have hRt : R.t.gr = R.acked := by
      rcases r.fin with ⟨_, e, _⟩ | ⟨g, _, _, e, _⟩
      · rw [e]; exact hacked
      · rw [e]; exact hacked
    have hRl : R.acked.length ≤ 12 := by have := r.many.1; omega
    have hTl : R.tried.length ≤ 12 := by have := r.many.2.1; omega
    have hHl : R.heads.length = R.tried.length := by rw [r.heads, List.length_map, ← trs_g R.tried J0.head J0.used, List.length_map, trs_g]
    have hT40 : ∀ g ∈ R.tried, g.length ≤ 40 := fun g hg => (hb2 g (r.ok g hg).2).1
    have hA40 : ∀ g ∈ R.acked, g.length ≤ 40 := fun g hg => hT40 g (by rw [r.tried]; exact List.mem_append.2 (.inl hg))
    have hflA := flatten_len R.acked 40 hA40
    have hRtr : R.t.recs.length ≤ 1000 := by show R.t.gr.flatten.length ≤ _; rw [hRt]; omega
    obtain ⟨⟨restk, hrest⟩, hku⟩ := r.sub hk5
    have hkl : k.gr.length ≤ 12 := by
      have := congrArg List.length hrest
      rw [List.length_append] at this; omega
    have hk40 : ∀ g ∈ k.gr, g.length ≤ 40 := fun g hg => hT40 g (by rw [hrest]; exact List.mem_append.2 (.inl hg))
    have hflk := flatten_len k.gr 40 hk40
    have hkr : k.recs.length ≤ 1000 := by show k.gr.flatten.length ≤ _; omega
    have hkused : k.used ≤ m := by have := hk2.le; rw [ha.len] at this; exact this
    have hH64 : ∀ p ∈ R.heads ++ [k.head], p < 2 ^ 64 := fun p hp => by
      rcases List.mem_append.1 hp with hp | hp
      · rw [r.heads] at hp
        obtain ⟨x, hx, rfl⟩ := List.mem_map.1 hp
        exact trs_lt _ _ _ (by decide) x hx
      · rw [List.mem_singleton.1 hp]; exact hk4
    have hTx : ∀ g ∈ R.tried ++ [[sX]], g.length ≤ 1000 := fun g hg => by
      rcases List.mem_append.1 hg with hg | hg
      · have := hT40 g hg; omega
      · rw [List.mem_singleton.1 hg]; decide
    -- the journal after the crash
    obtain ⟨c, hc⟩ : ∃ c, c = 1 + 5000 * gs.length := ⟨_, rfl⟩
    rw [← hc] at hw
    have co := (crashed_o (gl := gl) R.d c kd mk hmk (by omega) ha.fine ha.quiet.up).left kj (jP kd R.t)
    rw [hk1] at co
    have hdx := div_x k.head
    have hmore := fun hroom hcl => crash_more (gx := [sX]) r hshort mk hk2 hk3 hk5 hdx.1 (by rw [hdx.2]; exact hroom) hcl
    have hfine := ha.fine
    have hquiet := ha.quiet
    have hdl := ha.len
    have hup := hquiet.up
    generalize crashS R.d mk = dc at *
    -- a further group
    have hapf : k.used + 1 ≤ m → appS k dc [sX] = (k.add [sX] (k.used + (divS k.head [sX]).1.length) (divS k.head [sX]).2.1, { dc with blocks := putAt dc.blocks k.used (divS k.head [sX]).1 }, 0) := fun h =>
      app_quiet hk3 hquiet (by rw [divS_e, hdx.1]) (by rw [hdx.2, hdl]; exact h)
    have hapz : m < k.used + 1 → appS k dc [sX] = (k, dc, 12) := fun h => app_full hk3 (by rw [divS_e, hdx.1]) (by rw [hdx.2, hdl]; exact h)
    have w1 := with_con (gl := gl) k.gr [sX] (by omega)
    have w2 := with_con (gl := gl) R.tried [sX] (by omega)
    have ij := fun kk => (is_dj (gl := gl) dc (c + 2) kd kj R.t R.acked (by omega) (fun i hi => by have := hA40 _ (List.getElem_mem hi); omega) (by omega) (by rw [hRt]; omega)).under kk (jP kd k)
    rw [isS_yes hRt] at ij
    have ik := fun kk => (is_dj (gl := gl) dc (c + 2) kd kk k k.gr (by omega) (fun i hi => by have := hk40 _ (List.getElem_mem hi); omega) (by omega) (by omega)).left kj (jP kd R.t)
    rw [isS_yes rfl] at ik
    have ia := fun kk => (is_dj (gl := gl) dc (c + 2) kd kk k R.acked (by omega) (fun i hi => by have := hA40 _ (List.getElem_mem hi); omega) (by omega) (by omega)).left kj (jP kd R.t)
    have hcases : (k.gr = R.acked) ∨ ∃ g, R.failed = [g] ∧ k.gr = R.acked ++ [g] := by
      rcases hk5 with e | ⟨g, e1, e2⟩
      · exact .inl (by rw [e]; exact hacked)
      · exact .inr ⟨g, e1, by rw [e2]; show ta.gr ++ [g] = _; rw [hacked]⟩
    have hfail : R.failed.length ≤ 1 := by
      rcases r.fin with ⟨e, _⟩ | ⟨g, e, _⟩
      · rw [e]; exact Nat.zero_le _
      · rw [e]; exact Nat.le_refl _
    clear hmk hst har hU0 hUp ha hk5 r hR hb2 hshort hrest
    -- what follows once the journal is known
    have hfin : dc.blocks.length = m := hdl
    have hxb : k.used + 1 ≤ m → ∃ kx dx q, appS k dc [sX] = (kx, dx, 0) ∧ openD dx = q ∧ dx.down = false ∧ Fine dx ∧ kx.stop = false ∧ (¬ Clash (R.heads ++ [k.head]) (R.tried ++ [[sX]]) → q.gr = k.gr ++ [[sX]]) ∧ q.gr.length ≤ 1000 ∧ q.recs.length ≤ 100000 := fun h => by
      refine ⟨_, _, _, hapf h, rfl, hup, ?_, hk3, fun hcl => ?_, ?_⟩
      · refine ⟨?_, ?_, ?_, hfine.steps, hfine.mask⟩
        · show 1 ≤ (putAt _ _ _).length ∧ (putAt _ _ _).length ≤ _
          rw [putAt_len]; exact hfine.len
        · intro x hx
          rcases putAt_mem (by rw [hdx.2, hdl]; exact h) x hx with hx | hx
          · exact hfine.text x hx
          · exact divS_size _ _ x hx
        · intro x hx
          have hx : x ∈ dc.pend := hx
          rw [hquiet.none] at hx
          cases hx
      · rw [openD_quiet (d := { dc with blocks := putAt dc.blocks k.used (divS k.head [sX]).1 }) hup hquiet.none]
        have := hmore h hcl
        show (findG 0 [] 0 (putAt dc.blocks k.used (divS k.head [sX]).1) J0).gr = _
        rw [this]; rfl
      · rw [openD_quiet (d := { dc with blocks := putAt dc.blocks k.used (divS k.head [sX]).1 }) hup hquiet.none]
        obtain ⟨q1, q2, _, _⟩ := findG_bd (putAt dc.blocks k.used (divS k.head [sX]).1) 0 [] 0 J0 (fun g h => by cases h) (Nat.le_refl _) (by decide)
        have q2 : (findG 0 [] 0 (putAt dc.blocks k.used (divS k.head [sX]).1) J0).gr.length ≤ 0 + (putAt dc.blocks k.used (divS k.head [sX]).1).length := q2
        rw [putAt_len, hdl] at q2
        have := flatten_len _ 32 q1
        refine ⟨?_, ?_⟩
        · show (findG 0 [] 0 (putAt dc.blocks k.used (divS k.head [sX]).1) J0).gr.length ≤ 1000
          omega
        · show (findG 0 [] 0 (putAt dc.blocks k.used (divS k.head [sX]).1) J0).gr.flatten.length ≤ 100000
          omega
    have rm := fun kk => (room_dj (gl := gl) dc (c + 2) kd kk k (by omega) (by omega)).left kj (jP kd R.t)
    rw [hdl] at rm
    have hd := fun kk => ((head_j (gl := gl) kd k).right ((dskP dc (c + 2)).at kd) kk).left kj (jP kd R.t)
    have apx := fun kk => (append_dj (gl := gl) dc (c + 2) kd kk k [sX] (by omega) (by omega) (by omega) hk4 (by decide) (by omega) (by omega)).left kj (jP kd R.t)
    clear hmore hapf
    have hk12 : (k.gr ++ [[sX]]).length ≤ 13 := by rw [List.length_append, List.length_singleton]; omega
    have hkx40 : ∀ g ∈ k.gr ++ [[sX]], g.length ≤ 40 := fun g hg => by
      rcases List.mem_append.1 hg with hg | hg
      · exact hk40 g hg
      · rw [List.mem_singleton.1 hg]; decide
    rcases hcases with hka | ⟨g, hfg, hka⟩
    · -- the group that failed is not there
      rw [← hka] at ia ij hw
      rw [isS_yes rfl] at ia
      rcases hf with rfl | ⟨hf0, rfl⟩
      all_goals rw [← hka]
      all_goals refine ao_weak (weak_env hw (env2 := [(0, A m), (1, .c (LG gs)), (5, .ptr 0 0), (7, .ptr 1 0), (8, .c (ptrV kj 0)), (58, .tup [.vec 2 k.gr.length, _, .vec 3 R.tried.length, .vec 4 R.heads.length, .c T])]) (by repeat (first | exact envW_nil | refine envW_cons rfl rfl ?_))) hnx ?_
      all_goals
        repeat' (first
 | ((with_reducible apply (r_freeze 9)); exact rfl; exact rfl; exact (flat_len EncL.len _))
 | ((with_reducible apply (r_freeze 11)); exact rfl; exact rfl; exact (flat_len EncL.len _))
 | ((with_reducible apply aw_seq))
 | ((with_reducible apply aw_region))
 | ((with_reducible apply thn_normal))
 | ((with_reducible apply ao_nil))
 | ((with_reducible apply r_move); exact rfl; exact rfl)
 | ((with_reducible apply r_assign); exact rfl; exact rfl)
 | ((with_reducible apply r_field_p); exact rfl; exact rfl)
 | ((with_reducible apply r_load_p); exact rfl; exact rfl; exact rfl; exact rfl)
 | ((with_reducible apply r_extract); exact rfl; exact rfl; exact rfl)
 )
        refine r_callOE (f := 37) 1 co rfl rfl rfl rfl (fun kk => ?_)
        have ij := ij kk
        have ik := ik kk
        repeat' (first
 | ((with_reducible apply (r_callqO (f := 26) 1)); exact ij; exact rfl; exact rfl; exact rfl; exact rfl; exact rfl)
 | ((with_reducible apply (r_callqO (f := 26) 1)); exact ik; exact rfl; exact rfl; exact rfl; exact rfl; exact rfl)
 | ((with_reducible apply r_eqnil1); exact rfl; exact rfl; exact rfl)
 | ((with_reducible apply aw_seq))
 | ((with_reducible apply aw_region))
 | ((with_reducible apply thn_normal))
 | ((with_reducible apply aw_skip))
 | ((with_reducible apply ao_nil))
 | ((with_reducible apply r_move); exact rfl; exact rfl)
 | ((with_reducible apply r_assign); exact rfl; exact rfl)
 | ((with_reducible apply r_eql); exact rfl; exact rfl; exact rfl)
 | ((with_reducible apply r_pick_t); exact rfl; exact rfl; exact rfl)
 | ((with_reducible apply r_pick_f); exact rfl; exact rfl; exact rfl)
 | ((with_reducible apply r_not); exact rfl; exact rfl)
 | ((with_reducible apply r_len_f); exact rfl; exact inferInstance; exact rfl)
 | ((with_reducible apply r_len_nil); exact rfl; exact rfl)
 | (((with_reducible apply r_guard); exact rfl; exact rfl; exact rfl; exact rfl) <;> intro hg <;> (first | (exact absurd hg (by decide)) | ((try simp only [decide_eq_true_eq, decide_eq_false_iff_not, Bool.not_eq_true', Bool.not_eq_false', Bool.not_true, Bool.not_false, Bool.not_not, Int.not_lt, Int.not_le, Nat.not_lt, Nat.not_le, gt_iff_lt, ge_iff_le, List.cons.injEq, and_true] at hg); first | (exact absurd trivial hg) | (exfalso; omega) | (have hT : True := hg; clear hT hg) | skip)))
 | (((with_reducible apply aw_cond); exact rfl) <;> intro hg <;> (first | (exact absurd hg (by decide)) | ((try simp only [decide_eq_true_eq, decide_eq_false_iff_not, Bool.not_eq_true', Bool.not_eq_false', Bool.not_true, Bool.not_false, Bool.not_not, Int.not_lt, Int.not_le, Nat.not_lt, Nat.not_le, gt_iff_lt, ge_iff_le, List.cons.injEq, and_true] at hg); first | (exact absurd trivial hg) | (exfalso; omega) | (have hT : True := hg; clear hT hg) | skip)))
 )
        all_goals refine ao_weak (s' := ⟨139, [(7, .ptr 1 0), (11, .c (LG R.tried)), (12, .vec 4 R.heads.length), (14, .c (ptrV kk 0)), (15, .c (LG k.gr)), (99, .c (ptrV kk 0))], [(1, some (.obj (starP (DJ dc (c + 2) kd kk k) kj (jP kd R.t)))), (4, some (.vec 22 1 (R.heads.flatMap hdC)))], 5, gl⟩) (weak_mk rfl (by repeat (first | exact envW_nil | refine envW_cons rfl rfl ?_)) (by repeat (first | exact heapW_nil | refine heapW_cons rfl rfl rfl ?_))) (Nat.le_refl _) ?_
        all_goals
          rcases Nat.lt_or_ge k.used m with hroom | hroom
          · obtain ⟨kx, dx, q, x1, x2, x3, x4, x5, x6, x7, x8⟩ := hxb hroom
            have apx := apx kk
            rw [x1] at apx
            dsimp only at apx
            have rm := rm kk
            have hd := hd kk
            have cag := ((again_up (gl := gl) dx (c + 2 + 5000) kd x3 x4).left kk (jP kd kx)).left kj (jP kd R.t)
            rw [x2] at cag
            have im := fun km => ((is_dj (gl := gl) dx (c + 2 + 5000) kd km q (k.gr ++ [[sX]]) (by omega) (fun i hi => by have := hkx40 _ (List.getElem_mem hi); omega) (by omega) (by omega)).left kk (jP kd kx)).left kj (jP kd R.t)
            clear x1 x2
            repeat' (first
 | ((with_reducible apply (r_callqO (f := 18) 1)); exact rm; exact rfl; exact rfl; exact rfl; exact rfl; exact rfl)
 | ((with_reducible apply (r_callqO (f := 33) 1)); exact hd; exact rfl; exact rfl; exact rfl; exact rfl; exact rfl)
 | ((with_reducible apply (r_callO (f := 17) 1)); exact apx; exact rfl; exact rfl; exact rfl; exact rfl)
 | ((with_reducible apply r_litq); exact rfl; exact rfl; exact rfl; exact rfl; exact rfl; exact rfl; exact rfl)
 | ((with_reducible apply aw_seq))
 | ((with_reducible apply aw_region))
 | ((with_reducible apply thn_normal))
 | ((with_reducible apply aw_skip))
 | ((with_reducible apply ao_nil))
 | ((with_reducible apply r_move); exact rfl; exact rfl)
 | ((with_reducible apply r_assign); exact rfl; exact rfl)
 | ((with_reducible apply r_eql); exact rfl; exact rfl; exact rfl)
 | (((with_reducible apply aw_cond); exact rfl) <;> intro hg <;> (first | (exact absurd hg (by decide)) | ((try simp only [decide_eq_true_eq, decide_eq_false_iff_not, Bool.not_eq_true', Bool.not_eq_false', Bool.not_true, Bool.not_false, Bool.not_not, Int.not_lt, Int.not_le, Nat.not_lt, Nat.not_le, gt_iff_lt, ge_iff_le, List.cons.injEq, and_true] at hg); first | (exact absurd trivial hg) | (exfalso; omega) | (have hT : True := hg; clear hT hg) | skip)))
 )
            refine r_callOE (f := 25) 1 cag rfl rfl rfl rfl (fun km => ?_)
            have im := im km
            cases hq : isS q (k.gr ++ [[sX]]) with
            | true =>
              rw [hq] at im
              repeat' (first
 | ((with_reducible apply (r_callqO (f := 26) 1)); exact im; exact rfl; exact rfl; exact rfl; exact rfl; exact rfl)
 | ((with_reducible apply (r_call (f := 19))); exact rfl; exact rfl; exact w1; exact rfl; exact rfl)
 | ((with_reducible apply r_litq); exact rfl; exact rfl; exact rfl; exact rfl; exact rfl; exact rfl; exact rfl)
 | ((with_reducible apply r_eqnil1); exact rfl; exact rfl; exact rfl)
 | ((with_reducible apply (r_call (args := []) (f := 11))); exact rfl; exact rfl; exact ca; exact rfl; exact rfl)
 | ((with_reducible apply aw_seq))
 | ((with_reducible apply aw_region))
 | ((with_reducible apply thn_normal))
 | ((with_reducible apply aw_skip))
 | ((with_reducible apply aw_ret))
 | ((with_reducible apply ao_nil))
 | ((with_reducible apply r_move); exact rfl; exact rfl)
 | ((with_reducible apply r_assign); exact rfl; exact rfl)
 | ((with_reducible apply r_neq); exact rfl; exact rfl; exact rfl)
 | ((with_reducible apply r_pick_t); exact rfl; exact rfl; exact rfl)
 | ((with_reducible apply r_pick_f); exact rfl; exact rfl; exact rfl)
 | (((with_reducible apply r_guard); exact rfl; exact rfl; exact rfl; exact rfl) <;> intro hg <;> (first | (exact absurd hg (by decide)) | ((try simp only [decide_eq_true_eq, decide_eq_false_iff_not, Bool.not_eq_true', Bool.not_eq_false', Bool.not_true, Bool.not_false, Bool.not_not, Int.not_lt, Int.not_le, Nat.not_lt, Nat.not_le, gt_iff_lt, ge_iff_le, List.cons.injEq, and_true] at hg); first | (exact absurd trivial hg) | (exfalso; omega) | (have hT : True := hg; clear hT hg) | skip)))
 | (((with_reducible apply aw_cond); exact rfl) <;> intro hg <;> (first | (exact absurd hg (by decide)) | ((try simp only [decide_eq_true_eq, decide_eq_false_iff_not, Bool.not_eq_true', Bool.not_eq_false', Bool.not_true, Bool.not_false, Bool.not_not, Int.not_lt, Int.not_le, Nat.not_lt, Nat.not_le, gt_iff_lt, ge_iff_le, List.cons.injEq, and_true] at hg); first | (exact absurd trivial hg) | (exfalso; omega) | (have hT : True := hg; clear hT hg) | skip)))
 )
              all_goals exact ret_b rfl rfl
            | false =>
              rw [hq] at im
              have hcl : Clash (R.heads ++ [k.head]) (R.tried ++ [[sX]]) := Classical.byContradiction fun hn => by
                rw [isS_yes (x6 hn)] at hq
                cases hq
              have cc := clash_con (gl := gl) (R.heads ++ [k.head]) (R.tried ++ [[sX]]) true ⟨fun _ => hcl, fun _ => rfl⟩ (by rw [List.length_append, List.length_append, hHl]; rfl) (by rw [List.length_append, List.length_singleton]; omega) hH64 hTx
              repeat' (first
 | ((with_reducible apply (r_callqO (f := 26) 1)); exact im; exact rfl; exact rfl; exact rfl; exact rfl; exact rfl)
 | ((with_reducible apply (r_call (f := 19))); exact rfl; exact rfl; (first | exact w1 | exact w2); exact rfl; exact rfl)
 | ((with_reducible apply r_litq); exact rfl; exact rfl; exact rfl; exact rfl; exact rfl; exact rfl; exact rfl)
 | ((with_reducible apply (r_appendl (enc := hdC) (l := R.heads) (l2 := [k.head]))); exact rfl; exact rfl; exact inferInstance; exact rfl; exact rfl; exact (by show R.heads.length + 1 < _; omega); exact (by show (R.heads.length + 1) * _ ≤ _; omega); exact rfl)
 | ((with_reducible apply (r_callv (f := 38))); exact cc; exact rfl; exact cl_cons (cl_vec rfl (by rw [flat_len EncL.len]; simp)) (cl_cons cl_c cl_nil); exact rfl; exact rfl)
 | ((with_reducible apply r_eqnil1); exact rfl; exact rfl; exact rfl)
 | ((with_reducible apply (r_call (args := []) (f := 11))); exact rfl; exact rfl; exact ca; exact rfl; exact rfl)
 | ((with_reducible apply aw_seq))
 | ((with_reducible apply aw_region))
 | ((with_reducible apply thn_normal))
 | ((with_reducible apply aw_skip))
 | ((with_reducible apply aw_ret))
 | ((with_reducible apply ao_nil))
 | ((with_reducible apply r_move); exact rfl; exact rfl)
 | ((with_reducible apply r_assign); exact rfl; exact rfl)
 | ((with_reducible apply r_neq); exact rfl; exact rfl; exact rfl)
 | ((with_reducible apply r_pick_t); exact rfl; exact rfl; exact rfl)
 | ((with_reducible apply r_pick_f); exact rfl; exact rfl; exact rfl)
 | (((with_reducible apply r_guard); exact rfl; exact rfl; exact rfl; exact rfl) <;> intro hg <;> (first | (exact absurd hg (by decide)) | ((try simp only [decide_eq_true_eq, decide_eq_false_iff_not, Bool.not_eq_true', Bool.not_eq_false', Bool.not_true, Bool.not_false, Bool.not_not, Int.not_lt, Int.not_le, Nat.not_lt, Nat.not_le, gt_iff_lt, ge_iff_le, List.cons.injEq, and_true] at hg); first | (exact absurd trivial hg) | (exfalso; omega) | (have hT : True := hg; clear hT hg) | skip)))
 | (((with_reducible apply aw_cond); exact rfl) <;> intro hg <;> (first | (exact absurd hg (by decide)) | ((try simp only [decide_eq_true_eq, decide_eq_false_iff_not, Bool.not_eq_true', Bool.not_eq_false', Bool.not_true, Bool.not_false, Bool.not_not, Int.not_lt, Int.not_le, Nat.not_lt, Nat.not_le, gt_iff_lt, ge_iff_le, List.cons.injEq, and_true] at hg); first | (exact absurd trivial hg) | (exfalso; omega) | (have hT : True := hg; clear hT hg) | skip)))
 )
              all_goals exact ret_b rfl rfl
          · have apx := apx kk
            rw [hapz (by omega)] at apx
            dsimp only at apx
            have rm := rm kk
            have hd := hd kk
            repeat' (first
 | ((with_reducible apply (r_callqO (f := 18) 1)); exact rm; exact rfl; exact rfl; exact rfl; exact rfl; exact rfl)
 | ((with_reducible apply (r_callqO (f := 33) 1)); exact hd; exact rfl; exact rfl; exact rfl; exact rfl; exact rfl)
 | ((with_reducible apply (r_callO (f := 17) 1)); exact apx; exact rfl; exact rfl; exact rfl; exact rfl)
 | ((with_reducible apply r_litq); exact rfl; exact rfl; exact rfl; exact rfl; exact rfl; exact rfl; exact rfl)
 | ((with_reducible apply (r_call (args := []) (f := 11))); exact rfl; exact rfl; exact ca; exact rfl; exact rfl)
 | ((with_reducible apply aw_seq))
 | ((with_reducible apply aw_region))
 | ((with_reducible apply thn_normal))
 | ((with_reducible apply thn_ret))
 | ((with_reducible apply aw_ret))
 | ((with_reducible apply ao_nil))
 | ((with_reducible apply r_move); exact rfl; exact rfl)
 | ((with_reducible apply r_assign); exact rfl; exact rfl)
 | ((with_reducible apply r_eql); exact rfl; exact rfl; exact rfl)
 | ((with_reducible apply r_pick_t); exact rfl; exact rfl; exact rfl)
 | (((with_reducible apply r_guard); exact rfl; exact rfl; exact rfl; exact rfl) <;> intro hg <;> (first | (exact absurd hg (by decide)) | ((try simp only [decide_eq_true_eq, decide_eq_false_iff_not, Bool.not_eq_true', Bool.not_eq_false', Bool.not_true, Bool.not_false, Bool.not_not, Int.not_lt, Int.not_le, Nat.not_lt, Nat.not_le, gt_iff_lt, ge_iff_le, List.cons.injEq, and_true] at hg); first | (exact absurd trivial hg) | (exfalso; omega) | (have hT : True := hg; clear hT hg) | skip)))
 | (((with_reducible apply aw_cond); exact rfl) <;> intro hg <;> (first | (exact absurd hg (by decide)) | ((try simp only [decide_eq_true_eq, decide_eq_false_iff_not, Bool.not_eq_true', Bool.not_eq_false', Bool.not_true, Bool.not_false, Bool.not_not, Int.not_lt, Int.not_le, Nat.not_lt, Nat.not_le, gt_iff_lt, ge_iff_le, List.cons.injEq, and_true] at hg); first | (exact absurd trivial hg) | (exfalso; omega) | (have hT : True := hg; clear hT hg) | skip)))
 )
            all_goals exact ret_b rfl rfl
    · -- the group that failed is there
      have hf5 : f5 = .c (LG [g]) := by
        rcases hf with rfl | ⟨hf0, _⟩
        · rw [hfg]
        · rw [hfg] at hf0; cases hf0
      subst hf5
      have hg1 : ([g] : List (List ByteArray)).length = 1 := rfl
      have cw := with_con (gl := gl) R.acked g (by omega)
      rw [← hka] at cw
      rw [isS_no (by rw [hka]; simp)] at ia
      refine ao_weak (weak_env hw (env2 := [(0, A m), (1, .c (LG gs)), (5, .ptr 0 0), (7, .ptr 1 0), (8, .c (ptrV kj 0)), (58, .tup [.vec 2 R.acked.length, _, .vec 3 R.tried.length, .vec 4 R.heads.length, .c T])]) (by repeat (first | exact envW_nil | refine envW_cons rfl rfl ?_))) hnx ?_
      repeat' (first
 | ((with_reducible apply (r_freeze 9)); exact rfl; exact rfl; exact (flat_len EncL.len _))
 | ((with_reducible apply (r_freeze 11)); exact rfl; exact rfl; exact (flat_len EncL.len _))
 | ((with_reducible apply aw_seq))
 | ((with_reducible apply aw_region))
 | ((with_reducible apply thn_normal))
 | ((with_reducible apply ao_nil))
 | ((with_reducible apply r_move); exact rfl; exact rfl)
 | ((with_reducible apply r_assign); exact rfl; exact rfl)
 | ((with_reducible apply r_field_p); exact rfl; exact rfl)
 | ((with_reducible apply r_load_p); exact rfl; exact rfl; exact rfl; exact rfl)
 | ((with_reducible apply r_extract); exact rfl; exact rfl; exact rfl)
 )
      refine r_callOE (f := 37) 1 co rfl rfl rfl rfl (fun kk => ?_)
      have ij := ij kk
      have ik := ik kk
      have ia := ia kk
      repeat' (first
 | ((with_reducible apply (r_callqO (f := 26) 1)); exact ij; exact rfl; exact rfl; exact rfl; exact rfl; exact rfl)
 | ((with_reducible apply (r_callqO (f := 26) 1)); exact ik; exact rfl; exact rfl; exact rfl; exact rfl; exact rfl)
 | ((with_reducible apply (r_callqO (f := 26) 1)); exact ia; exact rfl; exact rfl; exact rfl; exact rfl; exact rfl)
 | ((with_reducible apply (r_call (f := 19))); exact rfl; exact rfl; exact cw; exact rfl; exact rfl)
 | ((with_reducible apply r_eqnil1); exact rfl; exact rfl; exact rfl)
 | ((with_reducible apply aw_seq))
 | ((with_reducible apply aw_region))
 | ((with_reducible apply thn_normal))
 | ((with_reducible apply aw_skip))
 | ((with_reducible apply ao_nil))
 | ((with_reducible apply r_move); exact rfl; exact rfl)
 | ((with_reducible apply r_assign); exact rfl; exact rfl)
 | ((with_reducible apply r_eql); exact rfl; exact rfl; exact rfl)
 | ((with_reducible apply r_pick_t); exact rfl; exact rfl; exact rfl)
 | ((with_reducible apply r_pick_f); exact rfl; exact rfl; exact rfl)
 | ((with_reducible apply r_not); exact rfl; exact rfl)
 | ((with_reducible apply r_len_f); exact rfl; exact inferInstance; exact rfl)
 | ((with_reducible apply r_index_f); exact rfl; exact inferInstance; exact rfl; exact (Int.toNat_of_nonneg (by omega)).symm; (first | assumption | omega); exact rfl)
 | ((with_reducible apply r_load_f0); exact rfl; exact inferInstance; exact List.getElem?_eq_getElem (by first | assumption | omega); exact rfl; exact rfl)
 | (((with_reducible apply r_guard); exact rfl; exact rfl; exact rfl; exact rfl) <;> intro hg <;> (first | (exact absurd hg (by decide)) | ((try simp only [decide_eq_true_eq, decide_eq_false_iff_not, Bool.not_eq_true', Bool.not_eq_false', Bool.not_true, Bool.not_false, Bool.not_not, Int.not_lt, Int.not_le, Nat.not_lt, Nat.not_le, gt_iff_lt, ge_iff_le, List.cons.injEq, and_true] at hg); first | (exact absurd trivial hg) | (exfalso; omega) | (have hT : True := hg; clear hT hg) | skip)))
 | (((with_reducible apply aw_cond); exact rfl) <;> intro hg <;> (first | (exact absurd hg (by decide)) | ((try simp only [decide_eq_true_eq, decide_eq_false_iff_not, Bool.not_eq_true', Bool.not_eq_false', Bool.not_true, Bool.not_false, Bool.not_not, Int.not_lt, Int.not_le, Nat.not_lt, Nat.not_le, gt_iff_lt, ge_iff_le, List.cons.injEq, and_true] at hg); first | (exact absurd trivial hg) | (exfalso; omega) | (have hT : True := hg; clear hT hg) | skip)))
 )
      all_goals refine ao_weak (s' := ⟨139, [(7, .ptr 1 0), (11, .c (LG R.tried)), (12, .vec 4 R.heads.length), (14, .c (ptrV kk 0)), (15, .c (LG k.gr)), (99, .c (ptrV kk 0))], [(1, some (.obj (starP (DJ dc (c + 2) kd kk k) kj (jP kd R.t)))), (4, some (.vec 22 1 (R.heads.flatMap hdC)))], 5, gl⟩) (weak_mk rfl (by repeat (first | exact envW_nil | refine envW_cons rfl rfl ?_)) (by repeat (first | exact heapW_nil | refine heapW_cons rfl rfl rfl ?_))) (Nat.le_refl _) ?_
      all_goals
        rcases Nat.lt_or_ge k.used m with hroom | hroom
        · obtain ⟨kx, dx, q, x1, x2, x3, x4, x5, x6, x7, x8⟩ := hxb hroom
          have apx := apx kk
          rw [x1] at apx
          dsimp only at apx
          have rm := rm kk
          have hd := hd kk
          have cag := ((again_up (gl := gl) dx (c + 2 + 5000) kd x3 x4).left kk (jP kd kx)).left kj (jP kd R.t)
          rw [x2] at cag
          have im := fun km => ((is_dj (gl := gl) dx (c + 2 + 5000) kd km q (k.gr ++ [[sX]]) (by omega) (fun i hi => by have := hkx40 _ (List.getElem_mem hi); omega) (by omega) (by omega)).left kk (jP kd kx)).left kj (jP kd R.t)
          clear x1 x2
          repeat' (first
 | ((with_reducible apply (r_callqO (f := 18) 1)); exact rm; exact rfl; exact rfl; exact rfl; exact rfl; exact rfl)
 | ((with_reducible apply (r_callqO (f := 33) 1)); exact hd; exact rfl; exact rfl; exact rfl; exact rfl; exact rfl)
 | ((with_reducible apply (r_callO (f := 17) 1)); exact apx; exact rfl; exact rfl; exact rfl; exact rfl)
 | ((with_reducible apply r_litq); exact rfl; exact rfl; exact rfl; exact rfl; exact rfl; exact rfl; exact rfl)
 | ((with_reducible apply aw_seq))
 | ((with_reducible apply aw_region))
 | ((with_reducible apply thn_normal))
 | ((with_reducible apply aw_skip))
 | ((with_reducible apply ao_nil))
 | ((with_reducible apply r_move); exact rfl; exact rfl)
 | ((with_reducible apply r_assign); exact rfl; exact rfl)
 | ((with_reducible apply r_eql); exact rfl; exact rfl; exact rfl)
 | (((with_reducible apply aw_cond); exact rfl) <;> intro hg <;> (first | (exact absurd hg (by decide)) | ((try simp only [decide_eq_true_eq, decide_eq_false_iff_not, Bool.not_eq_true', Bool.not_eq_false', Bool.not_true, Bool.not_false, Bool.not_not, Int.not_lt, Int.not_le, Nat.not_lt, Nat.not_le, gt_iff_lt, ge_iff_le, List.cons.injEq, and_true] at hg); first | (exact absurd trivial hg) | (exfalso; omega) | (have hT : True := hg; clear hT hg) | skip)))
 )
          refine r_callOE (f := 25) 1 cag rfl rfl rfl rfl (fun km => ?_)
          have im := im km
          cases hq : isS q (k.gr ++ [[sX]]) with
          | true =>
            rw [hq] at im
            repeat' (first
 | ((with_reducible apply (r_callqO (f := 26) 1)); exact im; exact rfl; exact rfl; exact rfl; exact rfl; exact rfl)
 | ((with_reducible apply (r_call (f := 19))); exact rfl; exact rfl; exact w1; exact rfl; exact rfl)
 | ((with_reducible apply r_litq); exact rfl; exact rfl; exact rfl; exact rfl; exact rfl; exact rfl; exact rfl)
 | ((with_reducible apply r_eqnil1); exact rfl; exact rfl; exact rfl)
 | ((with_reducible apply (r_call (args := []) (f := 11))); exact rfl; exact rfl; exact ca; exact rfl; exact rfl)
 | ((with_reducible apply aw_seq))
 | ((with_reducible apply aw_region))
 | ((with_reducible apply thn_normal))
 | ((with_reducible apply aw_skip))
 | ((with_reducible apply aw_ret))
 | ((with_reducible apply ao_nil))
 | ((with_reducible apply r_move); exact rfl; exact rfl)
 | ((with_reducible apply r_assign); exact rfl; exact rfl)
 | ((with_reducible apply r_neq); exact rfl; exact rfl; exact rfl)
 | ((with_reducible apply r_pick_t); exact rfl; exact rfl; exact rfl)
 | ((with_reducible apply r_pick_f); exact rfl; exact rfl; exact rfl)
 | (((with_reducible apply r_guard); exact rfl; exact rfl; exact rfl; exact rfl) <;> intro hg <;> (first | (exact absurd hg (by decide)) | ((try simp only [decide_eq_true_eq, decide_eq_false_iff_not, Bool.not_eq_true', Bool.not_eq_false', Bool.not_true, Bool.not_false, Bool.not_not, Int.not_lt, Int.not_le, Nat.not_lt, Nat.not_le, gt_iff_lt, ge_iff_le, List.cons.injEq, and_true] at hg); first | (exact absurd trivial hg) | (exfalso; omega) | (have hT : True := hg; clear hT hg) | skip)))
 | (((with_reducible apply aw_cond); exact rfl) <;> intro hg <;> (first | (exact absurd hg (by decide)) | ((try simp only [decide_eq_true_eq, decide_eq_false_iff_not, Bool.not_eq_true', Bool.not_eq_false', Bool.not_true, Bool.not_false, Bool.not_not, Int.not_lt, Int.not_le, Nat.not_lt, Nat.not_le, gt_iff_lt, ge_iff_le, List.cons.injEq, and_true] at hg); first | (exact absurd trivial hg) | (exfalso; omega) | (have hT : True := hg; clear hT hg) | skip)))
 )
            all_goals exact ret_b rfl rfl
          | false =>
            rw [hq] at im
            have hcl : Clash (R.heads ++ [k.head]) (R.tried ++ [[sX]]) := Classical.byContradiction fun hn => by
              rw [isS_yes (x6 hn)] at hq
              cases hq
            have cc := clash_con (gl := gl) (R.heads ++ [k.head]) (R.tried ++ [[sX]]) true ⟨fun _ => hcl, fun _ => rfl⟩ (by rw [List.length_append, List.length_append, hHl]; rfl) (by rw [List.length_append, List.length_singleton]; omega) hH64 hTx
            repeat' (first
 | ((with_reducible apply (r_callqO (f := 26) 1)); exact im; exact rfl; exact rfl; exact rfl; exact rfl; exact rfl)
 | ((with_reducible apply (r_call (f := 19))); exact rfl; exact rfl; (first | exact w1 | exact w2); exact rfl; exact rfl)
 | ((with_reducible apply r_litq); exact rfl; exact rfl; exact rfl; exact rfl; exact rfl; exact rfl; exact rfl)
 | ((with_reducible apply (r_appendl (enc := hdC) (l := R.heads) (l2 := [k.head]))); exact rfl; exact rfl; exact inferInstance; exact rfl; exact rfl; exact (by show R.heads.length + 1 < _; omega); exact (by show (R.heads.length + 1) * _ ≤ _; omega); exact rfl)
 | ((with_reducible apply (r_callv (f := 38))); exact cc; exact rfl; exact cl_cons (cl_vec rfl (by rw [flat_len EncL.len]; simp)) (cl_cons cl_c cl_nil); exact rfl; exact rfl)
 | ((with_reducible apply r_eqnil1); exact rfl; exact rfl; exact rfl)
 | ((with_reducible apply (r_call (args := []) (f := 11))); exact rfl; exact rfl; exact ca; exact rfl; exact rfl)
 | ((with_reducible apply aw_seq))
 | ((with_reducible apply aw_region))
 | ((with_reducible apply thn_normal))
 | ((with_reducible apply aw_skip))
 | ((with_reducible apply aw_ret))
 | ((with_reducible apply ao_nil))
 | ((with_reducible apply r_move); exact rfl; exact rfl)
 | ((with_reducible apply r_assign); exact rfl; exact rfl)
 | ((with_reducible apply r_neq); exact rfl; exact rfl; exact rfl)
 | ((with_reducible apply r_pick_t); exact rfl; exact rfl; exact rfl)
 | ((with_reducible apply r_pick_f); exact rfl; exact rfl; exact rfl)
 | (((with_reducible apply r_guard); exact rfl; exact rfl; exact rfl; exact rfl) <;> intro hg <;> (first | (exact absurd hg (by decide)) | ((try simp only [decide_eq_true_eq, decide_eq_false_iff_not, Bool.not_eq_true', Bool.not_eq_false', Bool.not_true, Bool.not_false, Bool.not_not, Int.not_lt, Int.not_le, Nat.not_lt, Nat.not_le, gt_iff_lt, ge_iff_le, List.cons.injEq, and_true] at hg); first | (exact absurd trivial hg) | (exfalso; omega) | (have hT : True := hg; clear hT hg) | skip)))
 | (((with_reducible apply aw_cond); exact rfl) <;> intro hg <;> (first | (exact absurd hg (by decide)) | ((try simp only [decide_eq_true_eq, decide_eq_false_iff_not, Bool.not_eq_true', Bool.not_eq_false', Bool.not_true, Bool.not_false, Bool.not_not, Int.not_lt, Int.not_le, Nat.not_lt, Nat.not_le, gt_iff_lt, ge_iff_le, List.cons.injEq, and_true] at hg); first | (exact absurd trivial hg) | (exfalso; omega) | (have hT : True := hg; clear hT hg) | skip)))
 )
            all_goals exact ret_b rfl rfl
        · have apx := apx kk
          rw [hapz (by omega)] at apx
          dsimp only at apx
          have rm := rm kk
          have hd := hd kk
          repeat' (first
 | ((with_reducible apply (r_callqO (f := 18) 1)); exact rm; exact rfl; exact rfl; exact rfl; exact rfl; exact rfl)
 | ((with_reducible apply (r_callqO (f := 33) 1)); exact hd; exact rfl; exact rfl; exact rfl; exact rfl; exact rfl)
 | ((with_reducible apply (r_callO (f := 17) 1)); exact apx; exact rfl; exact rfl; exact rfl; exact rfl)
 | ((with_reducible apply r_litq); exact rfl; exact rfl; exact rfl; exact rfl; exact rfl; exact rfl; exact rfl)
 | ((with_reducible apply (r_call (args := []) (f := 11))); exact rfl; exact rfl; exact ca; exact rfl; exact rfl)
 | ((with_reducible apply aw_seq))
 | ((with_reducible apply aw_region))
 | ((with_reducible apply thn_normal))
 | ((with_reducible apply thn_ret))
 | ((with_reducible apply aw_ret))
 | ((with_reducible apply ao_nil))
 | ((with_reducible apply r_move); exact rfl; exact rfl)
 | ((with_reducible apply r_assign); exact rfl; exact rfl)
 | ((with_reducible apply r_eql); exact rfl; exact rfl; exact rfl)
 | ((with_reducible apply r_pick_t); exact rfl; exact rfl; exact rfl)
 | (((with_reducible apply r_guard); exact rfl; exact rfl; exact rfl; exact rfl) <;> intro hg <;> (first | (exact absurd hg (by decide)) | ((try simp only [decide_eq_true_eq, decide_eq_false_iff_not, Bool.not_eq_true', Bool.not_eq_false', Bool.not_true, Bool.not_false, Bool.not_not, Int.not_lt, Int.not_le, Nat.not_lt, Nat.not_le, gt_iff_lt, ge_iff_le, List.cons.injEq, and_true] at hg); first | (exact absurd trivial hg) | (exfalso; omega) | (have hT : True := hg; clear hT hg) | skip)))
 | (((with_reducible apply aw_cond); exact rfl) <;> intro hg <;> (first | (exact absurd hg (by decide)) | ((try simp only [decide_eq_true_eq, decide_eq_false_iff_not, Bool.not_eq_true', Bool.not_eq_false', Bool.not_true, Bool.not_false, Bool.not_not, Int.not_lt, Int.not_le, Nat.not_lt, Nat.not_le, gt_iff_lt, ge_iff_le, List.cons.injEq, and_true] at hg); first | (exact absurd trivial hg) | (exfalso; omega) | (have hT : True := hg; clear hT hg) | skip)))
 )
          all_goals exact ret_b rfl rfl
  · intro K' hK'
    have hgs40 : ∀ g ∈ gs, g.length ≤ 40 := fun g hg => (hb2 g hg).1
    repeat' (first
 | ((with_reducible apply aw_seq))
 | ((with_reducible apply aw_region))
 | ((with_reducible apply aw_block))
 | ((with_reducible apply thn_normal))
 | ((with_reducible apply ao_nil))
 | ((with_reducible apply r_assign); exact rfl; exact rfl)
 )
    refine aw_nilvec 4 23 1 rfl rfl ?_
    refine aw_nilvec 6 23 1 rfl rfl ?_
    refine aw_nilvec 7 22 1 rfl rfl ?_
    refine aw_loopG (G := Nat × DS × JS × List (List ByteArray) × List (List ByteArray) × List Nat) (fun ((i, d', t', ac, tr, hd) : Nat × DS × JS × List (List ByteArray) × List (List ByteArray) × List Nat) => i ≤ gs.length ∧ Up m d' t' ∧ t'.gr.length ≤ i ∧ (∀ x ∈ t'.gr, x.length ≤ 40) ∧ ac.length ≤ i ∧ tr.length ≤ i ∧ hd.length ≤ i ∧ roundS J0 d1 gs = comb ac tr hd (roundS t' d' (gs.drop i))) (fun ((i, d', t', ac, tr, hd) : Nat × DS × JS × List (List ByteArray) × List (List ByteArray) × List Nat) => gs.length - i) (fun ((i, d', t', ac, tr, hd) : Nat × DS × JS × List (List ByteArray) × List (List ByteArray) × List Nat) => [(0, .c (ptrV kj 0)), (1, .c (LG gs)), (4, .vec 2 ac.length), (6, .vec 3 tr.length), (7, .vec 4 hd.length), (9, A i)]) (fun ((i, d', t', ac, tr, hd) : Nat × DS × JS × List (List ByteArray) × List (List ByteArray) × List Nat) => [(0, some (.cells 69 [A st, .c (U mk)])), (1, some (.obj (DJ d' (1 + 5000 * i) kd kj t'))), (2, some (.vec 23 1 (ac.flatMap grC))), (3, some (.vec 23 1 (tr.flatMap grC))), (4, some (.vec 22 1 (hd.flatMap hdC)))]) 5 (0, d1, J0, [], [], []) ?_ (by refine weak_mk rfl ?_ ?_ <;> repeat (first | exact envW_nil | exact heapW_nil | refine envW_cons rfl rfl ?_ | refine heapW_cons rfl rfl rfl ?_)) rfl ?_
    · exact ⟨Nat.zero_le _, hUp, Nat.zero_le _, (fun x hx => by
        have hx : x ∈ ([] : List (List ByteArray)) := hx
        cases hx), Nat.zero_le _, Nat.zero_le _, Nat.zero_le _, by rw [List.drop_zero]; simp [comb]⟩
    rintro ⟨i, d', t', ac, tr, hd⟩ hI
    try dsimp only at hI
    try dsimp only
    obtain ⟨h1, h2, h3, h4, h5, h6, h7, h8⟩ := hI
    by_cases hi : i < gs.length
    rotate_left
    · obtain rfl : i = gs.length := by omega
      rw [List.drop_length, roundS] at h8
      have hRe := hR.trans h8
      unfold comb at hRe
      dsimp only at hRe
      rw [List.append_nil, List.append_nil, List.append_nil] at hRe
      subst hRe
      repeat' (first
 | ((with_reducible apply aw_seq))
 | ((with_reducible apply aw_region))
 | ((with_reducible apply thn_normal))
 | ((with_reducible apply thn_exit))
 | ((with_reducible apply inb_exit))
 | ((with_reducible apply aw_exit))
 | ((with_reducible apply aw_ret))
 | ((with_reducible apply ao_nil))
 | ((with_reducible apply r_move); exact rfl; exact rfl)
 | ((with_reducible apply r_assign); exact rfl; exact rfl)
 | ((with_reducible apply r_lss); exact rfl; exact rfl; exact rfl)
 | ((with_reducible apply r_len_f); exact rfl; exact inferInstance; exact rfl)
 | (((with_reducible apply aw_cond); exact rfl) <;> intro hg <;> (first | (exact absurd hg (by decide)) | ((try simp only [decide_eq_true_eq, decide_eq_false_iff_not, Bool.not_eq_true', Bool.not_eq_false', Bool.not_true, Bool.not_false, Bool.not_not, Int.not_lt, Int.not_le, Nat.not_lt, Nat.not_le, gt_iff_lt, ge_iff_le, List.cons.injEq, and_true] at hg); first | (exact absurd trivial hg) | (exfalso; omega) | (have hT : True := hg; clear hT hg) | skip)))
 )
      all_goals exact back5_ret (.inr rfl) rfl rfl rfl rfl rfl (hK' _ _ _ _ _ (.inr ⟨rfl, rfl⟩) (weak_mk (n := 0) (env := []) rfl envW_nil (by repeat (first | exact heapW_nil | refine heapW_cons rfl rfl rfl ?_))) (Nat.le_refl _))
    rw [List.drop_eq_getElem_cons hi] at h8
    have hgl := hgs40 gs[i] (List.getElem_mem hi)
    have hu := h2.used
    have hhd := h2.head
    have hdl := h2.len
    have hfl := flatten_len t'.gr 40 h4
    have hrl : t'.recs.length ≤ 10000 := by show t'.gr.flatten.length ≤ _; omega
    have c0 := (head_j (gl := gl) kd t').right ((dskP d' (1 + 5000 * i)).at kd) kj
    have ap := append_dj (gl := gl) d' (1 + 5000 * i) kd kj t' gs[i] (by omega) (by omega) (by omega) hhd (by omega) (by omega) (by omega)
    rw [show 1 + 5000 * i + 5000 = 1 + 5000 * (i + 1) by omega] at ap
    rcases h2.app gs[i] with ⟨e, w1, w2⟩ | ⟨hck, hl, ⟨d2, w1, w2, w3⟩ | ⟨d2, w1, w2⟩⟩
    · rw [round_ref w1 w2] at h8
      rw [w1] at ap
      dsimp only at ap
      rcases w2 with rfl | rfl | rfl
      all_goals
        repeat' (first
 | ((with_reducible apply (r_callO (f := 17) 1)); exact ap; exact rfl; exact rfl; exact rfl; exact rfl)
 | ((with_reducible apply (r_callqO (f := 33) 1)); exact c0; exact rfl; exact rfl; exact rfl; exact rfl; exact rfl)
 | ((with_reducible apply aw_seq))
 | ((with_reducible apply aw_region))
 | ((with_reducible apply aw_block))
 | ((with_reducible apply thn_normal))
 | ((with_reducible apply thn_exit))
 | ((with_reducible apply inb_exit))
 | ((with_reducible apply aw_skip))
 | ((with_reducible apply aw_exit))
 | ((with_reducible apply ao_nil))
 | ((with_reducible apply r_move); exact rfl; exact rfl)
 | ((with_reducible apply r_assign); exact rfl; exact rfl)
 | ((with_reducible apply r_lss); exact rfl; exact rfl; exact rfl)
 | ((with_reducible apply r_eql); exact rfl; exact rfl; exact rfl)
 | ((with_reducible apply r_add); exact rfl; exact rfl; exact (by first | assumption | (unfold fits; omega)); exact rfl)
 | ((with_reducible apply r_pick_t); exact rfl; exact rfl; exact rfl)
 | ((with_reducible apply r_pick_f); exact rfl; exact rfl; exact rfl)
 | ((with_reducible apply r_len_f); exact rfl; exact inferInstance; exact rfl)
 | ((with_reducible apply r_index_f); exact rfl; exact inferInstance; exact rfl; exact rfl; (first | assumption | omega); exact rfl)
 | ((with_reducible apply r_load_f0); exact rfl; exact inferInstance; exact List.getElem?_eq_getElem (by first | assumption | omega); exact rfl; exact rfl)
 | (((with_reducible apply r_guard); exact rfl; exact rfl; exact rfl; exact rfl) <;> intro hg <;> (first | (exact absurd hg (by decide)) | ((try simp only [decide_eq_true_eq, decide_eq_false_iff_not, Bool.not_eq_true', Bool.not_eq_false', Bool.not_true, Bool.not_false, Bool.not_not, Int.not_lt, Int.not_le, Nat.not_lt, Nat.not_le, gt_iff_lt, ge_iff_le, List.cons.injEq, and_true] at hg); first | (exact absurd trivial hg) | (exfalso; omega) | (have hT : True := hg; clear hT hg) | skip)))
 | (((with_reducible apply aw_cond); exact rfl) <;> intro hg <;> (first | (exact absurd hg (by decide)) | ((try simp only [decide_eq_true_eq, decide_eq_false_iff_not, Bool.not_eq_true', Bool.not_eq_false', Bool.not_true, Bool.not_false, Bool.not_not, Int.not_lt, Int.not_le, Nat.not_lt, Nat.not_le, gt_iff_lt, ge_iff_le, List.cons.injEq, and_true] at hg); first | (exact absurd trivial hg) | (exfalso; omega) | (have hT : True := hg; clear hT hg) | skip)))
 )
        refine ⟨(i + 1, d', t', ac, tr, hd), ?_, ?_, by refine weak_mk rfl ?_ ?_ <;> repeat (first | exact envW_nil | exact heapW_nil | refine envW_cons rfl rfl ?_ | refine heapW_cons rfl rfl rfl ?_)⟩
        · show _ - (i + 1) < _ - i; omega
        · exact ⟨hi, h2, by show t'.gr.length ≤ i + 1; omega, h4, by show ac.length ≤ i + 1; omega, by show tr.length ≤ i + 1; omega, by show hd.length ≤ i + 1; omega, h8⟩
    · rw [round_add w1, comb_comb] at h8
      rw [w1] at ap
      dsimp only at ap
      have hb : (t'.add gs[i] (t'.used + (divS t'.head gs[i]).1.length) (divS t'.head gs[i]).2.1).gr.length ≤ i + 1 ∧ ∀ x ∈ (t'.add gs[i] (t'.used + (divS t'.head gs[i]).1.length) (divS t'.head gs[i]).2.1).gr, x.length ≤ 40 := add_bd h3 h4 hgl
      generalize t'.add gs[i] (t'.used + (divS t'.head gs[i]).1.length) (divS t'.head gs[i]).2.1 = t2 at *
      repeat' (first
 | ((with_reducible apply (r_callO (f := 17) 1)); exact ap; exact rfl; exact rfl; exact rfl; exact rfl)
 | ((with_reducible apply (r_callqO (f := 33) 1)); exact c0; exact rfl; exact rfl; exact rfl; exact rfl; exact rfl)
 | ((with_reducible apply r_litq); exact rfl; exact rfl; exact rfl; exact rfl; exact rfl; exact rfl; exact rfl)
 | ((with_reducible apply (r_appendl (enc := grC) (l := ac) (l2 := [gs[i]]))); exact rfl; exact rfl; exact inferInstance; exact rfl; exact rfl; exact (by show ac.length + 1 < _; omega); exact (by show (ac.length + 1) * _ ≤ _; omega); exact rfl)
 | ((with_reducible apply (r_appendl (enc := grC) (l := tr) (l2 := [gs[i]]))); exact rfl; exact rfl; exact inferInstance; exact rfl; exact rfl; exact (by show tr.length + 1 < _; omega); exact (by show (tr.length + 1) * _ ≤ _; omega); exact rfl)
 | ((with_reducible apply (r_appendl (enc := hdC) (l := hd) (l2 := [t'.head]))); exact rfl; exact rfl; exact inferInstance; exact rfl; exact rfl; exact (by show hd.length + 1 < _; omega); exact (by show (hd.length + 1) * _ ≤ _; omega); exact rfl)
 | ((with_reducible apply aw_seq))
 | ((with_reducible apply aw_region))
 | ((with_reducible apply aw_block))
 | ((with_reducible apply thn_normal))
 | ((with_reducible apply inb_normal))
 | ((with_reducible apply aw_skip))
 | ((with_reducible apply ao_nil))
 | ((with_reducible apply r_move); exact rfl; exact rfl)
 | ((with_reducible apply r_assign); exact rfl; exact rfl)
 | ((with_reducible apply r_lss); exact rfl; exact rfl; exact rfl)
 | ((with_reducible apply r_eql); exact rfl; exact rfl; exact rfl)
 | ((with_reducible apply r_neq); exact rfl; exact rfl; exact rfl)
 | ((with_reducible apply r_add); exact rfl; exact rfl; exact (by first | assumption | (unfold fits; omega)); exact rfl)
 | ((with_reducible apply r_pick_f); exact rfl; exact rfl; exact rfl)
 | ((with_reducible apply r_len_f); exact rfl; exact inferInstance; exact rfl)
 | ((with_reducible apply r_index_f); exact rfl; exact inferInstance; exact rfl; exact rfl; (first | assumption | omega); exact rfl)
 | ((with_reducible apply r_load_f0); exact rfl; exact inferInstance; exact List.getElem?_eq_getElem (by first | assumption | omega); exact rfl; exact rfl)
 | (((with_reducible apply r_guard); exact rfl; exact rfl; exact rfl; exact rfl) <;> intro hg <;> (first | (exact absurd hg (by decide)) | ((try simp only [decide_eq_true_eq, decide_eq_false_iff_not, Bool.not_eq_true', Bool.not_eq_false', Bool.not_true, Bool.not_false, Bool.not_not, Int.not_lt, Int.not_le, Nat.not_lt, Nat.not_le, gt_iff_lt, ge_iff_le, List.cons.injEq, and_true] at hg); first | (exact absurd trivial hg) | (exfalso; omega) | (have hT : True := hg; clear hT hg) | skip)))
 | (((with_reducible apply aw_cond); exact rfl) <;> intro hg <;> (first | (exact absurd hg (by decide)) | ((try simp only [decide_eq_true_eq, decide_eq_false_iff_not, Bool.not_eq_true', Bool.not_eq_false', Bool.not_true, Bool.not_false, Bool.not_not, Int.not_lt, Int.not_le, Nat.not_lt, Nat.not_le, gt_iff_lt, ge_iff_le, List.cons.injEq, and_true] at hg); first | (exact absurd trivial hg) | (exfalso; omega) | (have hT : True := hg; clear hT hg) | skip)))
 )
      rw [show ac.length + [gs[i]].length = (ac ++ [gs[i]]).length by simp, show tr.length + [gs[i]].length = (tr ++ [gs[i]]).length by simp, show hd.length + [t'.head].length = (hd ++ [t'.head]).length by simp]
      refine ⟨(i + 1, d2, t2, ac ++ [gs[i]], tr ++ [gs[i]], hd ++ [t'.head]), ?_, ?_, by refine weak_mk rfl ?_ ?_ <;> repeat (first | exact envW_nil | exact heapW_nil | refine envW_cons rfl rfl ?_ | refine heapW_cons rfl rfl rfl ?_)⟩
      · show _ - (i + 1) < _ - i; omega
      · exact ⟨hi, w2, hb.1, hb.2, by show (ac ++ [gs[i]]).length ≤ i + 1; simp; omega, by show (tr ++ [gs[i]]).length ≤ i + 1; simp; omega, by show (hd ++ [t'.head]).length ≤ i + 1; simp; omega, h8⟩
    · rw [round_fail w1] at h8
      obtain ⟨c1, hc1⟩ : ∃ c1, c1 + 5000 = 1 + 5000 * gs.length := ⟨1 + 5000 * gs.length - 5000, by omega⟩
      have ap := append_dj (gl := gl) d' c1 kd kj t' gs[i] (by omega) (by omega) (by omega) hhd (by omega) (by omega) (by omega)
      have c0 := (head_j (gl := gl) kd t').right ((dskP d' c1).at kd) kj
      rw [hc1] at ap
      rw [w1] at ap
      dsimp only at ap
      have hRe := hR.trans h8
      unfold comb at hRe
      dsimp only at hRe
      rw [List.append_nil] at hRe
      subst hRe
      have cs := append_stop (gl := gl) d2 (1 + 5000 * gs.length) kd kj { t' with stop := true } gs[i] rfl
      refine aw_objW 1 (DJ d' c1 kd kj t') rfl (DJ_mono (by omega)) ?_
      repeat' (first
 | ((with_reducible apply (r_callO (f := 17) 1)); exact ap; exact rfl; exact rfl; exact rfl; exact rfl)
 | ((with_reducible apply (r_callqO (f := 17) 1)); exact cs; exact rfl; exact rfl; exact rfl; exact rfl; exact rfl)
 | ((with_reducible apply (r_callqO (f := 33) 1)); exact c0; exact rfl; exact rfl; exact rfl; exact rfl; exact rfl)
 | ((with_reducible apply r_litq); exact rfl; exact rfl; exact rfl; exact rfl; exact rfl; exact rfl; exact rfl)
 | ((with_reducible apply (r_appendl (enc := grC) (l := tr) (l2 := [gs[i]]))); exact rfl; exact rfl; exact inferInstance; exact rfl; exact rfl; exact (by show tr.length + 1 < _; omega); exact (by show (tr.length + 1) * _ ≤ _; omega); exact rfl)
 | ((with_reducible apply (r_appendl (enc := hdC) (l := hd) (l2 := [t'.head]))); exact rfl; exact rfl; exact inferInstance; exact rfl; exact rfl; exact (by show hd.length + 1 < _; omega); exact (by show (hd.length + 1) * _ ≤ _; omega); exact rfl)
 | ((with_reducible apply aw_seq))
 | ((with_reducible apply aw_region))
 | ((with_reducible apply aw_block))
 | ((with_reducible apply thn_normal))
 | ((with_reducible apply thn_ret))
 | ((with_reducible apply inb_ret))
 | ((with_reducible apply aw_skip))
 | ((with_reducible apply aw_ret))
 | ((with_reducible apply ao_nil))
 | ((with_reducible apply r_move); exact rfl; exact rfl)
 | ((with_reducible apply r_assign); exact rfl; exact rfl)
 | ((with_reducible apply r_lss); exact rfl; exact rfl; exact rfl)
 | ((with_reducible apply r_eql); exact rfl; exact rfl; exact rfl)
 | ((with_reducible apply r_pick_f); exact rfl; exact rfl; exact rfl)
 | ((with_reducible apply r_len_f); exact rfl; exact inferInstance; exact rfl)
 | ((with_reducible apply r_index_f); exact rfl; exact inferInstance; exact rfl; exact rfl; (first | assumption | omega); exact rfl)
 | ((with_reducible apply r_load_f0); exact rfl; exact inferInstance; exact List.getElem?_eq_getElem (by first | assumption | omega); exact rfl; exact rfl)
 | (((with_reducible apply r_guard); exact rfl; exact rfl; exact rfl; exact rfl) <;> intro hg <;> (first | (exact absurd hg (by decide)) | ((try simp only [decide_eq_true_eq, decide_eq_false_iff_not, Bool.not_eq_true', Bool.not_eq_false', Bool.not_true, Bool.not_false, Bool.not_not, Int.not_lt, Int.not_le, Nat.not_lt, Nat.not_le, gt_iff_lt, ge_iff_le, List.cons.injEq, and_true] at hg); first | (exact absurd trivial hg) | (exfalso; omega) | (have hT : True := hg; clear hT hg) | skip)))
 | (((with_reducible apply aw_cond); exact rfl) <;> intro hg <;> (first | (exact absurd hg (by decide)) | ((try simp only [decide_eq_true_eq, decide_eq_false_iff_not, Bool.not_eq_true', Bool.not_eq_false', Bool.not_true, Bool.not_false, Bool.not_not, Int.not_lt, Int.not_le, Nat.not_lt, Nat.not_le, gt_iff_lt, ge_iff_le, List.cons.injEq, and_true] at hg); first | (exact absurd trivial hg) | (exfalso; omega) | (have hT : True := hg; clear hT hg) | skip)))
 | (refine aw_drawq ?_ ?_; (kernel_rfl))
 | ((with_reducible apply ds_nil))
 )
      rw [show tr.length + [gs[i]].length = (tr ++ [gs[i]]).length by simp, show hd.length + [t'.head].length = (hd ++ [t'.head]).length by simp]
      all_goals exact back5_ret (.inr rfl) rfl rfl rfl rfl rfl (hK' _ _ _ _ _ (.inl rfl) (weak_mk (n := 0) (env := []) rfl envW_nil (by repeat (first | exact heapW_nil | refine heapW_cons rfl rfl rfl ?_))) (Nat.le_refl _))
end Go.Proofs.Ythkjkhffljlidaa.Jo
/- What comes into the laws on the journal, read as closed values. -/
namespace Go.Proofs.Ythkjkhffljlidaa.Jo
set_option linter.unusedVariables false
set_option linter.unusedSimpArgs false
open Go.RowKit Go.ChangeShapes Go.Proofs.Ythkjkhffljlidaa.Ev
section
variable {H : Type} {de : TypeId × Value → H} {w : World}
theorem fits_of {n : Int} (h : (Lit.int .i64 n).wf = true) : fits n := by
  unfold fits
  simp [Lit.wf, IntKind.min, IntKind.max, IntKind.bits, IntKind.signed] at h
  omega
theorem u64_of {n : Int} (h : (Lit.int .u64 n).wf = true) : 0 ≤ n ∧ n < 18446744073709551616 := by
  simp [Lit.wf, IntKind.min, IntKind.max, IntKind.bits, IntKind.signed] at h
  omega
theorem o_int : Opn de Try.prog w 3 (fun n : Int => [I n]) (fun n => fits n) := (opn_int Try.underlying3).imp id (fun _ => rfl) (fun _ h => fits_of h)
theorem o_u64 : Opn de Try.prog w 22 (fun n : Int => [U n]) (fun n => 0 ≤ n ∧ n < 18446744073709551616) := (opn_int Try.underlying22).imp id (fun _ => rfl) (fun _ h => u64_of h)
theorem o_str : Opn de Try.prog w 9 stC (fun b => b.size ≤ maxLen) := opn_string Try.underlying9
abbrev StrsQ (l : List ByteArray) : Prop := (∀ x ∈ l, x.size ≤ maxLen) ∧ l.length ≤ maxLen
theorem o_strs : Opn de Try.prog w 23 (fun l : List ByteArray => [LT l]) StrsQ :=
  opn_slice (size := 1) (enc := stC) Try.underlying23 (by kernel_rfl) (by decide) (fun _ => rfl) o_str
theorem o_strs' : Opn de Try.prog w 23 grC StrsQ := o_strs
theorem o_strss : Opn de Try.prog w 25 (fun l : List (List ByteArray) => [LG l]) (fun l => (∀ g ∈ l, StrsQ g) ∧ l.length ≤ maxLen) :=
  opn_slice (size := 1) (enc := grC) Try.underlying25 (by kernel_rfl) (by decide) (fun _ => rfl) o_strs'
def crashL (x : Int × Int) : List CV := [I x.1, U x.2]
theorem o_crash : Opn de Try.prog w 69 crashL (fun x => fits x.1 ∧ (0 ≤ x.2 ∧ x.2 < 18446744073709551616)) :=
  (opn_struct Try.underlying69 (by kernel_rfl) rfl (opnS_cons o_int (opnS_one o_u64))).imp id (fun _ => rfl) (fun _ h => h)
def twoL (x : List (List ByteArray) × List (List ByteArray)) : List CV := [LG x.1, LG x.2]
theorem o_two : Opn de Try.prog w 77 twoL (fun x => ((∀ g ∈ x.1, StrsQ g) ∧ x.1.length ≤ maxLen) ∧ ((∀ g ∈ x.2, StrsQ g) ∧ x.2.length ≤ maxLen)) :=
  (opn_array Try.underlying77 (by kernel_rfl) rfl (opnS_cons o_strss (opnS_one o_strss))).imp id (fun _ => rfl) (fun _ h => h)
def crashesL (x : (Int × Int) × (Int × Int)) : List CV := [I x.1.1, U x.1.2, I x.2.1, U x.2.2]
theorem o_crashes : Opn de Try.prog w 78 crashesL (fun x => (fits x.1.1 ∧ (0 ≤ x.1.2 ∧ x.1.2 < 18446744073709551616)) ∧ (fits x.2.1 ∧ (0 ≤ x.2.2 ∧ x.2.2 < 18446744073709551616))) :=
  (opn_array Try.underlying78 (by kernel_rfl) rfl (opnS_cons o_crash (opnS_one o_crash))).imp id (fun _ => rfl) (fun _ h => h)
end
end Go.Proofs.Ythkjkhffljlidaa.Jo
