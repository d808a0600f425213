/- BE BF BG BW BV BX BY0: texts laid together. -/
import Derived.Test.YtkhljpbkebnnmaaDoorMrgB1
import Derived.Test.YtkhljpbkebnnmaaDoorMrgM3
import Derived.Test.YtkhljpbkebnnmaaDoorMrgC4
import Derived.Test.YtkhljpbkebnnmaaDoorMrgC1
import Derived.Test.YtkhljpbkebnnmaaDoorMrgG5
/- Bucking: the examples, reckoned. -/
namespace Go.Proofs.YtkhljpbkebnnmaaDoor.Bu
set_option linter.unusedVariables false
set_option linter.unusedSimpArgs false
open Go.RowKit Go.Proofs.YtkhljpbkebnnmaaDoor.Ev Go.Proofs.YtkhljpbkebnnmaaDoor.Ge

/-- A straight log of a length. -/
def LM (m : Int) : List Slc := [⟨m, Sq⟩]
theorem LM_chk {m : Int} (h : 1 ≤ m ∧ m ≤ 20000) : solChk (LM m) = 0 := by
  unfold solChk
  rw [if_neg (by show ¬ (1 = 0); decide), if_neg (by show ¬ 24 < 1; decide)]
  unfold LM solGo
  rw [if_neg (fun h => h Sq_chk), if_neg (by show ¬ (20 = 0); decide), if_neg (by show ¬ (m < 1 ∨ 20000 - 0 < m); omega)]
  rfl
theorem LM_top {m : Int} (h : 1 ≤ m ∧ m ≤ 20000) : topS (LM m) = 225 := by unfold topS; rw [if_pos (LM_chk h)]; exact Sq_dia
theorem LM_len {m : Int} (h : 1 ≤ m ∧ m ≤ 20000) : lengthS (LM m) = m := by
  unfold lengthS; rw [valL_ok (LM_chk h)]
  show 0 + m = m; omega
theorem LM_vol {m : Int} (h : 1 ≤ m ∧ m ≤ 20000) : volS (LM m) = m * 40000 := by
  unfold volS; rw [valL_ok (LM_chk h)]
  show 0 + m * areaV Sq = m * 40000
  rw [← areaS_ok Sq_chk, Sq_area]; omega
theorem LM_sweep (m : Int) : sweepS (LM m) = 0 := if_neg (fun h => absurd h.2 (by show ¬ 3 ≤ 1; decide))
theorem LM_taper {m : Int} (h : 1 ≤ m ∧ m ≤ 20000) : taperS (LM m) = 0 := by
  unfold taperS
  rw [if_pos (LM_chk h)]
  show max 0 (diaS Sq - diaS Sq) * 10000 / _ = 0
  rw [Int.sub_self]; simp
theorem LM_meas {m : Int} (h : 1 ≤ m ∧ m ≤ 20000) : measL (LM m) [] = ⟨225, m, 0, 0, 0, 0⟩ := by
  unfold measL
  rw [LM_top h, LM_len h, LM_sweep, LM_taper h]; rfl
def kX : Kl := ⟨nmA, 200, 2000, 6000, 100, 100, 100, 100, 1000⟩
theorem chk_X : klChk [kX] = 0 := by
  unfold klChk
  rw [if_neg (by decide)]
  unfold klGo
  rw [if_neg (by show ¬ nameS nmA = false; rw [nm_a]; decide), if_neg (by decide), if_neg (by decide)]
  rfl
theorem price_X {m : Int} (h : 2000 ≤ m ∧ m ≤ 6000) : priceS [kX] (LM m) [] = 1000 * (m * 40000) / 1000000000 := by
  have h' : 1 ≤ m ∧ m ≤ 20000 := by omega
  have ho : ofS [kX] (LM m) [] = (((0 : Nat) : Int), true) := of_some (i := 0) chk_X (by decide) (by
    show fitS (LM m) [] kX = true
    rw [fit_ok ⟨LM_chk h', rfl⟩, LM_meas h']
    unfold fitM
    exact decide_eq_true ⟨by show (200 : Int) ≤ 225; decide, by show 2000 ≤ m; omega, by show m ≤ 6000; omega, by show (0 : Int) ≤ 100; decide, by show (0 : Int) ≤ 100; decide, by show (0 : Int) ≤ 100; decide, by show (0 : Int) ≤ 100; decide⟩) (fun j hj hji => absurd hji (Nat.not_lt_zero _))
  rw [priceS_some (i := 0) (by decide) ho, LM_vol h']
  rfl
def sX : Lg := (LM 5000, [])
def pX (k : Int) : Plan := ⟨[kX], [20, 30], 100, k⟩
theorem part_X {q n : Int} (hq : 0 ≤ q) (hn : 1 ≤ n) (hqn : q + n ≤ 50) : partS sX (q * 100, (q + n) * 100) = (LM (n * 100), []) := by
  unfold partS sX
  have : cutS (LM 5000) (q * 100, (q + n) * 100) = LM (n * 100) := by
    unfold cutS
    rw [valL_ok (LM_chk (by decide))]
    have ho : ovZ (LM 5000) (q * 100, (q + n) * 100) 0 = n * 100 := by
      show max 0 (min (0 + 5000) ((q + n) * 100) - max 0 (q * 100)) = n * 100
      omega
    show (if 0 < ovZ (LM 5000) (q * 100, (q + n) * 100) 0 then ([] : List Slc) ++ [(⟨ovZ (LM 5000) (q * 100, (q + n) * 100) 0, secD (LM 5000) 0⟩ : Slc)] else []) = _
    rw [ho, if_pos (by omega)]; rfl
  rw [this]; rfl
theorem gain_X (k : Int) {q n : Int} (hq : 0 ≤ q) (hn : 20 ≤ n ∧ n ≤ 30) (hqn : q + n ≤ 50) : gainS (pX k) sX q n = 1000 * (n * 100 * 40000) / 1000000000 := by
  have e : ∀ Z : Span, Z = (q * 100, (q + n) * 100) → priceS [kX] (partS sX Z).1 (partS sX Z).2 = 1000 * (n * 100 * 40000) / 1000000000 := by
    intro Z hZ
    subst hZ
    rw [part_X hq (by omega) hqn]
    exact price_X (m := n * 100) (by omega)
  exact e _ rfl
def XL (k : Int) : Cu.Line := ⟨50, k, 1, [20, 30], [List.replicate 31 80, List.replicate 21 120], List.replicate 50 0, List.replicate 50 0⟩
theorem rows_X (k : Int) {n g : Int} {c : Nat} (hn : 20 ≤ n ∧ n ≤ 30) (hc : (c : Int) = 51 - n) (hg : 1000 * (n * 100 * 40000) / 1000000000 = g) : rowL (pX k) sX 50 n = List.replicate c g := by
  refine List.eq_replicate_iff.2 ⟨by rw [rowL_len]; omega, fun x hx => ?_⟩
  obtain ⟨i, hi, rfl⟩ := List.mem_iff_getElem.1 hx
  rw [rowL_get]
  rw [rowL_len] at hi
  rw [gain_X k (by omega) hn (by omega)]; exact hg
theorem line_X (k : Int) : lineOf (pX k) sX 50 = XL k := by
  unfold lineOf XL
  show (⟨50, k, 1, [20, 30], [rowL (pX k) sX 50 20, rowL (pX k) sX 50 30], _, _⟩ : Cu.Line) = _
  rw [rows_X k (n := 20) (g := 80) (c := 31) (by decide) (by decide) (by decide), rows_X k (n := 30) (g := 120) (c := 21) (by decide) (by decide) (by decide)]; rfl
theorem chk_pX {k : Int} (hk : 0 ≤ k ∧ k ≤ 20) : planChk (pX k) = 0 := (pc_ok (p := pX k) chk_X (by show ¬ (2 = 0); decide) (by show ¬ 32 < 2; decide) (fun i hi => by
  have hi : i < 2 := hi
  match i, hi with
  | 0, _ => rfl
  | 1, _ => rfl) (by unfold unitBad pX; dsimp only; omega)).symm
theorem lineS_X {k : Int} (hk : 0 ≤ k ∧ k ≤ 20) : lineS (pX k) sX = (XL k, 0) := by
  have h1 : lengthS sX.1 / (pX k).unit = 50 := by
    show lengthS (LM 5000) / 100 = 50
    rw [LM_len (by decide)]; rfl
  have := ls_ok (p := pX k) (s := sX) (chk_pX hk) (LM_chk (by decide)) rfl (by rw [h1]; decide)
  rw [h1, line_X] at this
  exact this
theorem chk_XL {k : Int} (hk : 0 ≤ k ∧ k ≤ 20) : Cu.chk (XL k) = 0 := by
  rw [← line_X k]
  exact line_chk (plan_ok (chk_pX hk)) sX (by decide)
def V0 (e : Int) : Int := if e ≤ 0 then 200 else if e ≤ 10 then 160 else if e ≤ 20 then 120 else if e ≤ 30 then 80 else 0
def U0 (e : Int) : Cu.Ch := if e ≤ 10 then (0, e, V0 e) else if e ≤ 20 then (1, e, V0 e) else if e ≤ 30 then (0, e, V0 e) else (-1, -1, 0)
def V1 (e : Int) : Int := if e ≤ 9 then 160 else if e ≤ 20 then 120 else if e ≤ 30 then 80 else 0
def U1 (e : Int) : Cu.Ch := if e ≤ 9 then (0, e, V1 e) else if e ≤ 20 then (1, e, V1 e) else if e ≤ 30 then (0, e, V1 e) else (-1, -1, 0)
theorem tabX0 : ∀ k : Nat, k ≤ 50 → Cu.chooseS (XL 0) V0 k = U0 k ∧ (U0 k).2.2 = V0 k := by decide +kernel
theorem tabX1 : ∀ k : Nat, k ≤ 50 → Cu.chooseS (XL 1) V1 k = U1 k ∧ (U1 k).2.2 = V1 k := by decide +kernel
theorem TTX0 (k : Nat) (hk : k ≤ 50) : Cu.TT (XL 0) k = U0 k := Cu.TT_table (Cu.valid_of (chk_XL (by decide))) V0 U0 tabX0 (50 - k) k (by show 50 - k + k = 50; omega)
theorem TTX1 (k : Nat) (hk : k ≤ 50) : Cu.TT (XL 1) k = U1 k := Cu.TT_table (Cu.valid_of (chk_XL (by decide))) V1 U1 tabX1 (50 - k) k (by show 50 - k + k = 50; omega)
theorem best_X0 : Cu.bestS (XL 0) = ([(0, 0), (1, 20)], 200, 0) := by
  rw [Cu.best_ok (chk_XL (by decide))]
  have t0 : Cu.TT (XL 0) 0 = (0, 0, 200) := TTX0 0 (by decide)
  have t1 : Cu.TT (XL 0) 20 = (1, 20, 120) := TTX0 20 (by decide)
  have hv : Cu.TV (XL 0) 0 = 200 := by unfold Cu.TV; rw [t0]
  rw [hv]
  show (Cu.chainS (XL 0) (49 + 1 + 1 + 1) 0, _, _) = _
  rw [Cu.chain_go (by decide) (by rw [t0]; decide), t0]
  dsimp only
  rw [show Cu.behindS (XL 0) (0 + Cu.szOf (XL 0) 0) = 20 from by decide, Cu.chain_go (by decide) (by rw [t1]; decide), t1]
  dsimp only
  rw [show Cu.behindS (XL 0) (20 + Cu.szOf (XL 0) 1) = -1 from by decide, Cu.chain_stop (.inl (by decide))]
theorem best_X1 : Cu.bestS (XL 1) = ([(0, 0), (0, 21)], 160, 0) := by
  rw [Cu.best_ok (chk_XL (by decide))]
  have t0 : Cu.TT (XL 1) 0 = (0, 0, 160) := TTX1 0 (by decide)
  have t1 : Cu.TT (XL 1) 21 = (0, 21, 80) := TTX1 21 (by decide)
  have t2 : Cu.TT (XL 1) 42 = (-1, -1, 0) := TTX1 42 (by decide)
  have hv : Cu.TV (XL 1) 0 = 160 := by unfold Cu.TV; rw [t0]
  rw [hv]
  show (Cu.chainS (XL 1) (49 + 1 + 1 + 1) 0, _, _) = _
  rw [Cu.chain_go (by decide) (by rw [t0]; decide), t0]
  dsimp only
  rw [show Cu.behindS (XL 1) (0 + Cu.szOf (XL 1) 0) = 21 from by decide, Cu.chain_go (by decide) (by rw [t1]; decide), t1]
  dsimp only
  rw [show Cu.behindS (XL 1) (21 + Cu.szOf (XL 1) 0) = 42 from by decide, Cu.chain_stop (.inr (by rw [t2]; decide))]
theorem cuts_X0 : Cu.cutsS (XL 0) [(0, 0), (1, 20)] = (0, [], []) := by
  unfold Cu.cutsS; rw [if_neg (fun hh => hh (chk_XL (by decide)))]; decide +kernel
theorem bb_X0 : bbS (pX 0) sX = ([(0, 0), (1, 20)], 200, 0) := by unfold bbS; rw [lineS_X (by decide), if_neg (fun hh => hh rfl)]; exact best_X0
theorem bb_X1 : bbS (pX 1) sX = ([(0, 0), (0, 21)], 160, 0) := by unfold bbS; rw [lineS_X (by decide), if_neg (fun hh => hh rfl)]; exact best_X1
theorem logs_X0 : logsS (pX 0) sX [(0, 0), (1, 20)] = ([(LM 2000, []), (LM 3000, [])], 0) := by
  unfold logsS
  rw [lineS_X (by decide), if_neg (fun hh => hh rfl), cuts_X0, if_neg (fun hh => hh rfl)]
  show ([partS sX (0 * 100, (0 + 20) * 100), partS sX (20 * 100, (20 + 30) * 100)], (0 : Int)) = _
  rw [part_X (by decide) (by decide) (by decide), part_X (by decide) (by decide) (by decide)]; rfl
theorem plan0 : planChk ⟨[], [], 0, 0⟩ = 3 := (pc_none (p := ⟨[], [], 0, 0⟩) rfl rfl).symm
end Go.Proofs.YtkhljpbkebnnmaaDoor.Bu
/- Walks of the laws on bucking: plan, stem, light, awake. -/
namespace Go.Proofs.YtkhljpbkebnnmaaDoor.Bu
set_option linter.unusedVariables false
set_option linter.unusedSimpArgs false
open Go.RowKit Go.Proofs.YtkhljpbkebnnmaaDoor.Ev Go.Proofs.YtkhljpbkebnnmaaDoor.Ge
variable {gl : List (Nat × List CV)}

/-- A region whose operations are written as two lists. -/
theorem ao_app {P : Program} {ops : Array Oper} {Q : Exit → St → Prop} {st : St} {o : Oper} {l1 l2 : List Oper} (h : AOps P ops Q (o :: (List.append l1 l2)) st) : AOps P ops Q (List.append (o :: l1) l2) st := h
theorem ao_app0 {P : Program} {ops : Array Oper} {Q : Exit → St → Prop} {st : St} {l2 : List Oper} (h : AOps P ops Q l2 st) : AOps P ops Q (List.append [] l2) st := h
theorem plan_con (p : Plan) : Con Tryd.prog gl 8 [planV p] (planV p) := by
  refine con_of Tryd.func8 rfl (by kernel_rfl) rfl ?_
  simp only [Tryd.ntmps8, Tryd.results8, argEnv, ofC, of1, List.map]
  repeat' (first
 | ((with_reducible apply aw_seq))
 | ((with_reducible apply aw_region))
 | ((with_reducible apply thn_normal))
 | ((with_reducible apply aw_ret))
 | ((with_reducible apply ao_nil))
 | ((with_reducible apply r_field_p); exact rfl; exact rfl)
 | ((with_reducible apply r_load_p); exact rfl; exact rfl; exact rfl; exact rfl)
 | ((with_reducible apply r_box_a); exact rfl; exact rfl)
 | ((with_reducible apply r_store_pa); exact rfl; exact rfl; exact rfl; exact rfl; exact rfl; exact rfl)
 | ((with_reducible apply r_build); exact rfl; exact rfl; exact rfl)
 | ((with_reducible apply r_alloc); exact rfl)
    )
  exact ret1 (.cell_a inferInstance rfl rfl rfl rfl (cl_cons cl_c (cl_cons cl_c (cl_cons cl_c (cl_cons cl_c cl_nil)))))
theorem stem_con (s : Lg) : Con Tryd.prog gl 9 [lgV s] (lgV s) := by
  refine con_of Tryd.func9 rfl (by kernel_rfl) rfl ?_
  simp only [Tryd.ntmps9, Tryd.results9, argEnv, ofC, of1, List.map]
  repeat' (first
 | ((with_reducible apply aw_seq))
 | ((with_reducible apply aw_region))
 | ((with_reducible apply thn_normal))
 | ((with_reducible apply aw_ret))
 | ((with_reducible apply ao_nil))
 | ((with_reducible apply r_field_p); exact rfl; exact rfl)
 | ((with_reducible apply r_load_p); exact rfl; exact rfl; exact rfl; exact rfl)
 | ((with_reducible apply r_box_a); exact rfl; exact rfl)
 | ((with_reducible apply r_store_pa); exact rfl; exact rfl; exact rfl; exact rfl; exact rfl; exact rfl)
 | ((with_reducible apply r_build); exact rfl; exact rfl; exact rfl)
 | ((with_reducible apply r_alloc); exact rfl)
    )
  exact ret1 (.cell_a inferInstance rfl rfl rfl rfl (cl_cons cl_c (cl_cons cl_c cl_nil)))
abbrev caseV (p : Plan) (s : Lg) : CV := .agg [LK p.classes, LI p.lens, I p.unit, I p.kerf, LL s.1, LD s.2]
abbrev caseA (p : Plan) (s : Lg) : List AV := [.c (LK p.classes), .c (LI p.lens), A p.unit, A p.kerf, .c (LL s.1), .c (LD s.2)]
def big (p : Plan) (s : Lg) : Prop := 20 < p.classes.length ∨ (8 < p.lens.length ∧ p.lens.length ≤ 32) ∨ 40 < p.lens.length ∨ 8 < s.1.length ∨ 70 < s.2.length
set_option maxRecDepth 100000 in
set_option maxHeartbeats 16000000 in
theorem light_con (p : Plan) (s : Lg) (hK : p.classes.length ≤ maxLen) (hl : s.1.length ≤ maxLen) : ∃ b, Con Tryd.prog gl 5 [caseV p s] (.v (.bool b)) := by
  have c0 := rpcheck_con (gl := gl) p hK
  have c1 := rscheck_con (gl := gl) s.1 hl
  have c2 := rslength_con (gl := gl) s.1 hl
  by_cases hb : big p s
  · refine ⟨false, ?_⟩
    unfold big at hb
    refine con_of Tryd.func5 rfl (by kernel_rfl) rfl ?_
    simp only [Tryd.ntmps5, Tryd.results5, argEnv, ofC, of1, List.map]
    rcases (show 20 < p.classes.length ∨ (¬ 20 < p.classes.length ∧ 8 < p.lens.length ∧ p.lens.length ≤ 32) ∨ (¬ 20 < p.classes.length ∧ ¬ (8 < p.lens.length ∧ p.lens.length ≤ 32) ∧ 40 < p.lens.length) ∨ (¬ 20 < p.classes.length ∧ ¬ (8 < p.lens.length ∧ p.lens.length ≤ 32) ∧ ¬ 40 < p.lens.length ∧ 8 < s.1.length) ∨ (¬ 20 < p.classes.length ∧ ¬ (8 < p.lens.length ∧ p.lens.length ≤ 32) ∧ ¬ 40 < p.lens.length ∧ ¬ 8 < s.1.length ∧ 70 < s.2.length) by omega) with h | ⟨h1, h2, h3⟩ | ⟨h1, h2, h3⟩ | ⟨h1, h2, h3, h4⟩ | ⟨h1, h2, h3, h4, h5⟩
    all_goals
      repeat' (first
 | ((with_reducible apply aw_seq))
 | ((with_reducible apply aw_region))
 | ((with_reducible apply thn_normal))
 | ((with_reducible apply thn_ret))
 | ((with_reducible apply aw_ret))
 | ((with_reducible apply ao_nil))
 | ((with_reducible apply r_move); exact rfl; exact rfl)
 | ((with_reducible apply r_assign); exact rfl; exact rfl)
 | ((with_reducible apply r_field_p); exact rfl; exact rfl)
 | ((with_reducible apply r_load_p); exact rfl; exact rfl; exact rfl; exact rfl)
 | ((with_reducible apply r_leq); exact rfl; exact rfl; exact rfl)
 | ((with_reducible apply r_gtr); exact rfl; exact rfl; exact rfl)
 | ((with_reducible apply r_box_a); exact rfl; exact rfl)
 | ((with_reducible apply r_pick_t); exact rfl; exact rfl; exact rfl)
 | ((with_reducible apply r_pick_f); exact rfl; exact rfl; exact rfl)
 | ((with_reducible apply r_len_f); exact rfl; exact inferInstance; exact rfl)
 | (((with_reducible apply r_guard); exact rfl; exact rfl; exact rfl; exact rfl) <;> intro hg <;> (first | (exact absurd hg (by decide)) | ((try simp only [decide_eq_true_eq, decide_eq_false_iff_not, Bool.not_eq_true', Bool.not_eq_false', Bool.not_true, Bool.not_false, Bool.not_not, Int.not_lt, Int.not_le, Nat.not_lt, Nat.not_le, gt_iff_lt, ge_iff_le, List.cons.injEq, and_true] at hg); first | (exact absurd trivial hg) | (exfalso; omega) | (have hT : True := hg; clear hT hg) | skip)))
 | ((with_reducible apply r_guard_none); exact rfl; exact rfl; exact rfl; exact rfl)
 | (((with_reducible apply aw_cond); exact rfl) <;> intro hg <;> (first | (exact absurd hg (by decide)) | ((try simp only [decide_eq_true_eq, decide_eq_false_iff_not, Bool.not_eq_true', Bool.not_eq_false', Bool.not_true, Bool.not_false, Bool.not_not, Int.not_lt, Int.not_le, Nat.not_lt, Nat.not_le, gt_iff_lt, ge_iff_le, List.cons.injEq, and_true] at hg); first | (exact absurd trivial hg) | (exfalso; omega) | (have hT : True := hg; clear hT hg) | skip)))
        )
      all_goals exact ret_b rfl rfl
  unfold big at hb
  by_cases h0 : planChk p = 0
  rotate_left
  · refine ⟨true, ?_⟩
    refine con_of Tryd.func5 rfl (by kernel_rfl) rfl ?_
    simp only [Tryd.ntmps5, Tryd.results5, argEnv, ofC, of1, List.map]
    repeat' (first
 | ((with_reducible apply r_call); exact rfl; exact rfl; exact c0; exact rfl; exact rfl)
 | ((with_reducible apply aw_seq))
 | ((with_reducible apply aw_region))
 | ((with_reducible apply thn_normal))
 | ((with_reducible apply aw_skip))
 | ((with_reducible apply aw_ret))
 | ((with_reducible apply ao_nil))
 | ((with_reducible apply r_move); exact rfl; exact rfl)
 | ((with_reducible apply r_assign); exact rfl; exact rfl)
 | ((with_reducible apply r_field_p); exact rfl; exact rfl)
 | ((with_reducible apply r_load_p); exact rfl; exact rfl; exact rfl; exact rfl)
 | ((with_reducible apply r_load_pa); exact rfl; exact rfl; exact rfl; exact rfl; exact rfl)
 | ((with_reducible apply r_leq); exact rfl; exact rfl; exact rfl)
 | ((with_reducible apply r_gtr); exact rfl; exact rfl; exact rfl)
 | ((with_reducible apply r_neq); exact rfl; exact rfl; exact rfl)
 | ((with_reducible apply r_box_a); exact rfl; exact rfl)
 | ((with_reducible apply r_pick_t); exact rfl; exact rfl; exact rfl)
 | ((with_reducible apply r_pick_f); exact rfl; exact rfl; exact rfl)
 | ((with_reducible apply r_len_f); exact rfl; exact inferInstance; exact rfl)
 | (((with_reducible apply r_guard); exact rfl; exact rfl; exact rfl; exact rfl) <;> intro hg <;> (first | (exact absurd hg (by decide)) | ((try simp only [decide_eq_true_eq, decide_eq_false_iff_not, Bool.not_eq_true', Bool.not_eq_false', Bool.not_true, Bool.not_false, Bool.not_not, Int.not_lt, Int.not_le, Nat.not_lt, Nat.not_le, gt_iff_lt, ge_iff_le, List.cons.injEq, and_true] at hg); first | (exact absurd trivial hg) | (exfalso; omega) | (have hT : True := hg; clear hT hg) | skip)))
 | (((with_reducible apply aw_cond); exact rfl) <;> intro hg <;> (first | (exact absurd hg (by decide)) | ((try simp only [decide_eq_true_eq, decide_eq_false_iff_not, Bool.not_eq_true', Bool.not_eq_false', Bool.not_true, Bool.not_false, Bool.not_not, Int.not_lt, Int.not_le, Nat.not_lt, Nat.not_le, gt_iff_lt, ge_iff_le, List.cons.injEq, and_true] at hg); first | (exact absurd trivial hg) | (exfalso; omega) | (have hT : True := hg; clear hT hg) | skip)))
 | (refine aw_drawq ?_ ?_; (kernel_rfl))
 | ((with_reducible apply ds_nil))
 | (((with_reducible apply rd_guard); exact rfl; exact rfl; exact rfl) <;> intro hg <;> (first | (exact absurd hg (by decide)) | ((try rw [hg]); (try simp only [decide_eq_true_eq, decide_eq_false_iff_not, Bool.not_eq_true', Bool.not_eq_false', Bool.not_true, Bool.not_false, Bool.not_not, Int.not_lt, Int.not_le, Nat.not_lt, Nat.not_le, gt_iff_lt, ge_iff_le, List.cons.injEq, and_true] at hg); first | (exact absurd trivial hg) | (exfalso; omega) | (have hT : True := hg; clear hT hg) | skip)))
      )
    all_goals exact ret_b rfl rfl
  rw [h0] at c0
  by_cases h1 : solChk s.1 = 0
  rotate_left
  · refine ⟨true, ?_⟩
    refine con_of Tryd.func5 rfl (by kernel_rfl) rfl ?_
    simp only [Tryd.ntmps5, Tryd.results5, argEnv, ofC, of1, List.map]
    repeat' (first
 | ((with_reducible apply r_call); exact rfl; exact rfl; (first | exact c0 | exact c1); exact rfl; exact rfl)
 | ((with_reducible apply aw_seq))
 | ((with_reducible apply aw_region))
 | ((with_reducible apply thn_normal))
 | ((with_reducible apply aw_skip))
 | ((with_reducible apply aw_ret))
 | ((with_reducible apply ao_nil))
 | ((with_reducible apply r_move); exact rfl; exact rfl)
 | ((with_reducible apply r_assign); exact rfl; exact rfl)
 | ((with_reducible apply r_field_p); exact rfl; exact rfl)
 | ((with_reducible apply r_load_p); exact rfl; exact rfl; exact rfl; exact rfl)
 | ((with_reducible apply r_load_pa); exact rfl; exact rfl; exact rfl; exact rfl; exact rfl)
 | ((with_reducible apply r_leq); exact rfl; exact rfl; exact rfl)
 | ((with_reducible apply r_gtr); exact rfl; exact rfl; exact rfl)
 | ((with_reducible apply r_neq); exact rfl; exact rfl; exact rfl)
 | ((with_reducible apply r_box_a); exact rfl; exact rfl)
 | ((with_reducible apply r_pick_t); exact rfl; exact rfl; exact rfl)
 | ((with_reducible apply r_pick_f); exact rfl; exact rfl; exact rfl)
 | ((with_reducible apply r_len_f); exact rfl; exact inferInstance; exact rfl)
 | (((with_reducible apply r_guard); exact rfl; exact rfl; exact rfl; exact rfl) <;> intro hg <;> (first | (exact absurd hg (by decide)) | ((try simp only [decide_eq_true_eq, decide_eq_false_iff_not, Bool.not_eq_true', Bool.not_eq_false', Bool.not_true, Bool.not_false, Bool.not_not, Int.not_lt, Int.not_le, Nat.not_lt, Nat.not_le, gt_iff_lt, ge_iff_le, List.cons.injEq, and_true] at hg); first | (exact absurd trivial hg) | (exfalso; omega) | (have hT : True := hg; clear hT hg) | skip)))
 | (((with_reducible apply aw_cond); exact rfl) <;> intro hg <;> (first | (exact absurd hg (by decide)) | ((try simp only [decide_eq_true_eq, decide_eq_false_iff_not, Bool.not_eq_true', Bool.not_eq_false', Bool.not_true, Bool.not_false, Bool.not_not, Int.not_lt, Int.not_le, Nat.not_lt, Nat.not_le, gt_iff_lt, ge_iff_le, List.cons.injEq, and_true] at hg); first | (exact absurd trivial hg) | (exfalso; omega) | (have hT : True := hg; clear hT hg) | skip)))
 | (refine aw_drawq ?_ ?_; (kernel_rfl))
 | ((with_reducible apply ds_nil))
 | (((with_reducible apply rd_guard); exact rfl; exact rfl; exact rfl) <;> intro hg <;> (first | (exact absurd hg (by decide)) | ((try rw [hg]); (try simp only [decide_eq_true_eq, decide_eq_false_iff_not, Bool.not_eq_true', Bool.not_eq_false', Bool.not_true, Bool.not_false, Bool.not_not, Int.not_lt, Int.not_le, Nat.not_lt, Nat.not_le, gt_iff_lt, ge_iff_le, List.cons.injEq, and_true] at hg); first | (exact absurd trivial hg) | (exfalso; omega) | (have hT : True := hg; clear hT hg) | skip)))
      )
    all_goals exact ret_b rfl rfl
  rw [h1] at c1
  have hu := (plan_ok h0).unit
  have hlb := length_bd s.1
  obtain ⟨L, eL⟩ : ∃ L, L = lengthS s.1 := ⟨_, rfl⟩
  rw [← eL] at c2 hlb
  have hq : L.tdiv p.unit = L / p.unit := Int.tdiv_eq_ediv_of_nonneg hlb.1
  have hq0 : 0 ≤ L / p.unit := Int.ediv_nonneg hlb.1 (by omega)
  have hq1 : L / p.unit ≤ 20000 := Int.le_trans (Int.ediv_le_self _ hlb.1) hlb.2
  have hf : fits (L.tdiv p.unit) := by rw [hq]; unfold fits; omega
  obtain ⟨u, eu⟩ : ∃ u, u = L.tdiv p.unit := ⟨_, rfl⟩
  refine ⟨decide (u ≤ 60) || decide (u > 2000), ?_⟩
  refine con_of Tryd.func5 rfl (by kernel_rfl) rfl ?_
  simp only [Tryd.ntmps5, Tryd.results5, argEnv, ofC, of1, List.map]
  by_cases g1 : u ≤ 60
  · skip
    repeat' (first
 | ((with_reducible apply r_call); exact rfl; exact rfl; (first | exact c0 | exact c1 | exact c2); exact rfl; exact rfl)
 | ((with_reducible apply r_quo); exact rfl; exact rfl; exact (by omega); exact hf; exact rfl; rw [← eu])
 | ((with_reducible apply aw_seq))
 | ((with_reducible apply aw_region))
 | ((with_reducible apply thn_normal))
 | ((with_reducible apply aw_skip))
 | ((with_reducible apply aw_ret))
 | ((with_reducible apply ao_nil))
 | ((with_reducible apply r_move); exact rfl; exact rfl)
 | ((with_reducible apply r_assign); exact rfl; exact rfl)
 | ((with_reducible apply r_field_p); exact rfl; exact rfl)
 | ((with_reducible apply r_load_p); exact rfl; exact rfl; exact rfl; exact rfl)
 | ((with_reducible apply r_load_pa); exact rfl; exact rfl; exact rfl; exact rfl; exact rfl)
 | ((with_reducible apply r_leq); exact rfl; exact rfl; exact rfl)
 | ((with_reducible apply r_gtr); exact rfl; exact rfl; exact rfl)
 | ((with_reducible apply r_neq); exact rfl; exact rfl; exact rfl)
 | ((with_reducible apply r_box_a); exact rfl; exact rfl)
 | ((with_reducible apply r_pick_t); exact rfl; exact rfl; exact rfl)
 | ((with_reducible apply r_pick_f); exact rfl; exact rfl; exact rfl)
 | ((with_reducible apply r_len_f); exact rfl; exact inferInstance; exact rfl)
 | (((with_reducible apply r_guard); exact rfl; exact rfl; exact rfl; exact rfl) <;> intro hg <;> (first | (exact absurd hg (by decide)) | ((try simp only [decide_eq_true_eq, decide_eq_false_iff_not, Bool.not_eq_true', Bool.not_eq_false', Bool.not_true, Bool.not_false, Bool.not_not, Int.not_lt, Int.not_le, Nat.not_lt, Nat.not_le, gt_iff_lt, ge_iff_le, List.cons.injEq, and_true] at hg); first | (exact absurd trivial hg) | (exfalso; omega) | (have hT : True := hg; clear hT hg) | skip)))
 | (((with_reducible apply aw_cond); exact rfl) <;> intro hg <;> (first | (exact absurd hg (by decide)) | ((try simp only [decide_eq_true_eq, decide_eq_false_iff_not, Bool.not_eq_true', Bool.not_eq_false', Bool.not_true, Bool.not_false, Bool.not_not, Int.not_lt, Int.not_le, Nat.not_lt, Nat.not_le, gt_iff_lt, ge_iff_le, List.cons.injEq, and_true] at hg); first | (exact absurd trivial hg) | (exfalso; omega) | (have hT : True := hg; clear hT hg) | skip)))
 | (refine aw_drawq ?_ ?_; (kernel_rfl))
 | ((with_reducible apply ds_nil))
 | (((with_reducible apply rd_guard); exact rfl; exact rfl; exact rfl) <;> intro hg <;> (first | (exact absurd hg (by decide)) | ((try rw [hg]); (try simp only [decide_eq_true_eq, decide_eq_false_iff_not, Bool.not_eq_true', Bool.not_eq_false', Bool.not_true, Bool.not_false, Bool.not_not, Int.not_lt, Int.not_le, Nat.not_lt, Nat.not_le, gt_iff_lt, ge_iff_le, List.cons.injEq, and_true] at hg); first | (exact absurd trivial hg) | (exfalso; omega) | (have hT : True := hg; clear hT hg) | skip)))
      )
    all_goals first | exact ret_b rfl (by simp) | exact ret_b rfl (by simp [g1])
  · skip
    repeat' (first
 | ((with_reducible apply r_call); exact rfl; exact rfl; (first | exact c0 | exact c1 | exact c2); exact rfl; exact rfl)
 | ((with_reducible apply r_quo); exact rfl; exact rfl; exact (by omega); exact hf; exact rfl; rw [← eu])
 | ((with_reducible apply aw_seq))
 | ((with_reducible apply aw_region))
 | ((with_reducible apply thn_normal))
 | ((with_reducible apply aw_skip))
 | ((with_reducible apply aw_ret))
 | ((with_reducible apply ao_nil))
 | ((with_reducible apply r_move); exact rfl; exact rfl)
 | ((with_reducible apply r_assign); exact rfl; exact rfl)
 | ((with_reducible apply r_field_p); exact rfl; exact rfl)
 | ((with_reducible apply r_load_p); exact rfl; exact rfl; exact rfl; exact rfl)
 | ((with_reducible apply r_load_pa); exact rfl; exact rfl; exact rfl; exact rfl; exact rfl)
 | ((with_reducible apply r_leq); exact rfl; exact rfl; exact rfl)
 | ((with_reducible apply r_gtr); exact rfl; exact rfl; exact rfl)
 | ((with_reducible apply r_neq); exact rfl; exact rfl; exact rfl)
 | ((with_reducible apply r_box_a); exact rfl; exact rfl)
 | ((with_reducible apply r_pick_t); exact rfl; exact rfl; exact rfl)
 | ((with_reducible apply r_pick_f); exact rfl; exact rfl; exact rfl)
 | ((with_reducible apply r_len_f); exact rfl; exact inferInstance; exact rfl)
 | (((with_reducible apply r_guard); exact rfl; exact rfl; exact rfl; exact rfl) <;> intro hg <;> (first | (exact absurd hg (by decide)) | ((try simp only [decide_eq_true_eq, decide_eq_false_iff_not, Bool.not_eq_true', Bool.not_eq_false', Bool.not_true, Bool.not_false, Bool.not_not, Int.not_lt, Int.not_le, Nat.not_lt, Nat.not_le, gt_iff_lt, ge_iff_le, List.cons.injEq, and_true] at hg); first | (exact absurd trivial hg) | (exfalso; omega) | (have hT : True := hg; clear hT hg) | skip)))
 | (((with_reducible apply aw_cond); exact rfl) <;> intro hg <;> (first | (exact absurd hg (by decide)) | ((try simp only [decide_eq_true_eq, decide_eq_false_iff_not, Bool.not_eq_true', Bool.not_eq_false', Bool.not_true, Bool.not_false, Bool.not_not, Int.not_lt, Int.not_le, Nat.not_lt, Nat.not_le, gt_iff_lt, ge_iff_le, List.cons.injEq, and_true] at hg); first | (exact absurd trivial hg) | (exfalso; omega) | (have hT : True := hg; clear hT hg) | skip)))
 | (refine aw_drawq ?_ ?_; (kernel_rfl))
 | ((with_reducible apply ds_nil))
 | (((with_reducible apply rd_guard); exact rfl; exact rfl; exact rfl) <;> intro hg <;> (first | (exact absurd hg (by decide)) | ((try rw [hg]); (try simp only [decide_eq_true_eq, decide_eq_false_iff_not, Bool.not_eq_true', Bool.not_eq_false', Bool.not_true, Bool.not_false, Bool.not_not, Int.not_lt, Int.not_le, Nat.not_lt, Nat.not_le, gt_iff_lt, ge_iff_le, List.cons.injEq, and_true] at hg); first | (exact absurd trivial hg) | (exfalso; omega) | (have hT : True := hg; clear hT hg) | skip)))
      )
    all_goals first | exact ret_b rfl (by simp) | exact ret_b rfl (by simp [g1])
end Go.Proofs.YtkhljpbkebnnmaaDoor.Bu
/- Walks of the laws on bucking: awake. -/
namespace Go.Proofs.YtkhljpbkebnnmaaDoor.Bu
set_option linter.unusedVariables false
set_option linter.unusedSimpArgs false
open Go.RowKit Go.Proofs.YtkhljpbkebnnmaaDoor.Ev Go.Proofs.YtkhljpbkebnnmaaDoor.Ge
variable {gl : List (Nat × List CV)}

set_option maxRecDepth 100000 in
set_option maxHeartbeats 32000000 in
theorem awake18_con : Con Tryd.prog Cu.G 6 [] T := by
  have h1 : Con Tryd.prog Cu.G 14 [planV (pX 0), lgV sX] (.tup [Cu.LP [(0, 0), (1, 20)], I 200, I 0]) := by have := bbest_con (pX 0) sX (by decide) (by decide) (by decide); rw [bb_X0] at this; exact this
  have h2 : Con Tryd.prog Cu.G 14 [planV (pX 1), lgV sX] (.tup [Cu.LP [(0, 0), (0, 21)], I 160, I 0]) := by have := bbest_con (pX 1) sX (by decide) (by decide) (by decide); rw [bb_X1] at this; exact this
  have h3 : Con Tryd.prog Cu.G 10 [planV (pX 0), lgV sX, Cu.LP [(0, 0), (1, 20)]] (.tup [LStem [(LM 2000, []), (LM 3000, [])], I 0]) := by have := blogs_con (gl := Cu.G) (pX 0) sX [(0, 0), (1, 20)] (by decide) (by decide) (by decide) (by decide); rw [logs_X0] at this; exact this
  have h4 : Con Tryd.prog Cu.G 7 [planV (pX 1), lgV sX] (.tup [.agg (Cu.lineL (XL 1)), I 0]) := by have := bline_con (gl := Cu.G) (pX 1) sX (by decide) (by decide) (by decide); rw [lineS_X (by decide)] at this; exact this
  have h5 : Con Tryd.prog Cu.G 19 [planV (pX 1)] (I 0) := by have := pcheck_con (gl := Cu.G) (pX 1) (by decide); rw [chk_pX (by decide)] at this; exact this
  have h6 : Con Tryd.prog Cu.G 19 [planV ⟨[], [], 0, 0⟩] (I 3) := by have := pcheck_con (gl := Cu.G) ⟨[], [], 0, 0⟩ (by decide); rw [plan0] at this; exact this
  have h7 : Con Tryd.prog Cu.G 18 [LL (LM 3000)] (I 3000) := by have := rslength_con (gl := Cu.G) (LM 3000) (by decide); rw [LM_len (by decide)] at this; exact this
  have h8 := Cu.samePieces_con (gl := Cu.G) [(0, 0), (1, 20)] (by decide)
  have h9 := Cu.samePieces_con (gl := Cu.G) [(0, 0), (0, 21)] (by decide)
  have e1 : ((((XL 1).gain[1]'(by decide)).length : Nat) : Int) = 21 := by decide +kernel
  have e2 : ((XL 1).gain[1]'(by decide))[20]'(by decide +kernel) = 120 := by decide +kernel
  refine con_of Tryd.func6 rfl (by kernel_rfl) rfl ?_
  simp only [Tryd.ntmps6, Tryd.results6, argEnv, ofC, of1, List.map]
  repeat' (first
 | ((with_reducible apply aw_seq))
 | ((with_reducible apply aw_region))
 | ((with_reducible apply aw_block))
 | ((with_reducible apply thn_normal))
 | ((with_reducible apply ao_nil))
 | ((with_reducible apply r_assign); exact rfl; exact rfl)
 | ((with_reducible apply r_field_p); exact rfl; exact rfl)
 | ((with_reducible apply r_store_p); exact rfl; exact rfl; exact rfl; exact rfl; exact rfl; exact rfl)
 | ((with_reducible apply r_alloc); exact rfl)
    )
  refine aw_nilcell 0 1 54 2 rfl rfl rfl rfl ?_
  refine aw_loopG (G := List Span) (fun (l : List Span) => l.length ≤ 20 ∧ l = List.replicate l.length (-100, 100)) (fun (l : List Span) => 20 - l.length) (fun (l : List Span) => [(1, .ptr 0 0), (2, A l.length)]) (fun (l : List Span) => [(0, some (.cells 63 [A (-10), .vec 1 l.length])), (1, some (.vec 54 2 (l.flatMap spC)))]) 2 [] ?_ (by refine weak_mk rfl ?_ ?_ <;> repeat (first | exact envW_nil | exact heapW_nil | refine envW_cons rfl rfl ?_ | refine heapW_cons rfl rfl rfl ?_)) rfl ?_
  · exact ⟨Nat.zero_le _, rfl⟩
  rintro l hI
  try dsimp only at hI
  try dsimp only
  obtain ⟨hl, hr⟩ := hI
  by_cases hlt : l.length < 20
  · skip
    repeat' (first
 | ((with_reducible apply (r_push (x0 := ((-100, 100) : Span)))); exact rfl; exact rfl; exact inferInstance; exact rfl; exact rfl; exact rfl; exact rfl; exact (by omega); exact (by omega); exact rfl)
 | ((with_reducible apply aw_seq))
 | ((with_reducible apply aw_region))
 | ((with_reducible apply aw_block))
 | ((with_reducible apply thn_normal))
 | ((with_reducible apply inb_normal))
 | ((with_reducible apply aw_skip))
 | ((with_reducible apply ao_nil))
 | ((with_reducible apply r_move); exact rfl; exact rfl)
 | ((with_reducible apply r_assign); exact rfl; exact rfl)
 | ((with_reducible apply r_field_p); exact rfl; exact rfl)
 | ((with_reducible apply r_load_p); exact rfl; exact rfl; exact rfl; exact rfl)
 | ((with_reducible apply r_lss); exact rfl; exact rfl; exact rfl)
 | ((with_reducible apply r_add); exact rfl; exact rfl; exact (by first | assumption | (unfold fits; omega)); exact rfl)
 | ((with_reducible apply r_store_p); exact rfl; exact rfl; exact rfl; exact rfl; exact rfl; exact rfl)
 | ((with_reducible apply r_build); exact rfl; exact rfl; exact rfl)
 | (((with_reducible apply aw_cond); exact rfl) <;> intro hg <;> (first | (exact absurd hg (by decide)) | ((try simp only [decide_eq_true_eq, decide_eq_false_iff_not, Bool.not_eq_true', Bool.not_eq_false', Bool.not_true, Bool.not_false, Bool.not_not, Int.not_lt, Int.not_le, Nat.not_lt, Nat.not_le, gt_iff_lt, ge_iff_le, List.cons.injEq, and_true] at hg); first | (exact absurd trivial hg) | (exfalso; omega) | (have hT : True := hg; clear hT hg) | skip)))
 | ((with_reducible apply r_lit); exact rfl; exact rfl; exact rfl; exact rfl; exact rfl; exact rfl; exact rfl)
      )
    have e : ((l.length : Int) + 1) = ((l ++ [((-100, 100) : Span)]).length : Int) := by simp
    have e2 : l.length + 1 = (l ++ [((-100, 100) : Span)]).length := by simp
    rw [e, e2]
    refine ⟨l ++ [(-100, 100)], ?_, ?_, by refine weak_mk rfl ?_ ?_ <;> repeat (first | exact envW_nil | exact heapW_nil | refine envW_cons rfl rfl ?_ | refine heapW_cons rfl rfl rfl ?_)⟩
    · show 20 - (l ++ [((-100, 100) : Span)]).length < 20 - l.length; simp; omega
    · refine ⟨by show (l ++ [((-100, 100) : Span)]).length ≤ 20; simp; omega, ?_⟩
      show l ++ [((-100, 100) : Span)] = List.replicate (l ++ [((-100, 100) : Span)]).length (-100, 100)
      rw [List.length_append, List.length_singleton, List.replicate_succ', ← hr]
  · have h20 : l.length = 20 := by omega
    have hq : l = row20 := by rw [hr, h20]; rfl
    refine aw_freezecell 0 1 (E := 54) (size := 2) (xs := l.flatMap spC) rfl rfl rfl (flat_len EncL.len l) rfl ?_
    rw [hq]
    repeat' (first
 | ((with_reducible apply ao_app))
 | ((with_reducible apply ao_app0))
 | (refine aw_nilcell 2 1 92 7 rfl rfl rfl rfl ?_; refine aw_freezecell 2 1 (E := 92) (size := 7) (xs := []) rfl rfl rfl rfl rfl ?_)
 | ((with_reducible apply r_litq); exact rfl; exact rfl; exact rfl; exact rfl; exact rfl; exact rfl; exact rfl)
 | ((with_reducible apply r_call); exact rfl; exact rfl; (first | exact h1 | exact h2 | exact h3 | exact h4 | exact h5 | exact h7 | exact h8 | exact h9); exact rfl; exact rfl)
 | ((with_reducible apply r_callq); exact h6; exact rfl; exact cl_cons (cl_agg (cl_cons cl_none (cl_cons cl_none (cl_cons cl_c (cl_cons cl_c cl_nil))))) cl_nil; exact rfl; exact rfl)
 | ((with_reducible apply (r_index_f 1)); exact rfl; exact inferInstance; exact rfl; exact rfl; exact (by decide); exact rfl)
 | ((with_reducible apply (r_index_f 20)); exact rfl; exact inferInstance; exact rfl; exact rfl; exact (by decide); exact rfl)
 | ((with_reducible apply aw_seq))
 | ((with_reducible apply aw_region))
 | ((with_reducible apply thn_normal))
 | ((with_reducible apply thn_exit))
 | ((with_reducible apply inb_exit))
 | ((with_reducible apply aw_skip))
 | ((with_reducible apply aw_exit))
 | ((with_reducible apply aw_ret))
 | ((with_reducible apply ao_nil))
 | ((with_reducible apply r_move); exact rfl; exact rfl)
 | ((with_reducible apply r_assign); exact rfl; exact rfl)
 | ((with_reducible apply r_field_p); exact rfl; exact rfl)
 | ((with_reducible apply r_load_p); exact rfl; exact rfl; exact rfl; exact rfl)
 | ((with_reducible apply r_load_pa); exact rfl; exact rfl; exact rfl; exact rfl; exact rfl)
 | ((with_reducible apply r_lss); exact rfl; exact rfl; exact rfl)
 | ((with_reducible apply r_eql); exact rfl; exact rfl; exact rfl)
 | ((with_reducible apply r_neq); exact rfl; exact rfl; exact rfl)
 | ((with_reducible apply r_pick_t); exact rfl; exact rfl; exact rfl)
 | ((with_reducible apply r_pick_f); exact rfl; exact rfl; exact rfl)
 | ((with_reducible apply r_len_f); exact rfl; exact inferInstance; exact rfl)
 | ((with_reducible apply r_index_f); exact rfl; exact inferInstance; exact rfl; exact (Int.toNat_of_nonneg (by omega)).symm; (first | assumption | omega); exact rfl)
 | ((with_reducible apply r_load_f0); exact rfl; exact inferInstance; exact List.getElem?_eq_getElem (by first | assumption | omega); exact rfl; exact rfl)
 | ((with_reducible apply r_field_e); exact rfl; exact rfl)
 | ((with_reducible apply r_store_p); exact rfl; exact rfl; exact rfl; exact rfl; exact rfl; exact rfl)
 | ((with_reducible apply r_store_pa); exact rfl; exact rfl; exact rfl; exact rfl; exact rfl; exact rfl)
 | ((with_reducible apply r_build); exact rfl; exact rfl; exact rfl)
 | ((with_reducible apply r_extract); exact rfl; exact rfl; exact rfl)
 | ((with_reducible apply r_alloc); exact rfl)
 | (((with_reducible apply r_guard); exact rfl; exact rfl; exact rfl; exact rfl) <;> intro hg <;> (first | (exact absurd hg (by decide)) | ((try simp only [decide_eq_true_eq, decide_eq_false_iff_not, Bool.not_eq_true', Bool.not_eq_false', Bool.not_true, Bool.not_false, Bool.not_not, Int.not_lt, Int.not_le, Nat.not_lt, Nat.not_le, gt_iff_lt, ge_iff_le, List.cons.injEq, and_true] at hg); first | (exact absurd trivial hg) | (exfalso; omega) | (have hT : True := hg; clear hT hg) | skip)))
 | (((with_reducible apply aw_cond); exact rfl) <;> intro hg <;> (first | (exact absurd hg (by decide)) | ((try simp only [decide_eq_true_eq, decide_eq_false_iff_not, Bool.not_eq_true', Bool.not_eq_false', Bool.not_true, Bool.not_false, Bool.not_not, Int.not_lt, Int.not_le, Nat.not_lt, Nat.not_le, gt_iff_lt, ge_iff_le, List.cons.injEq, and_true] at hg); first | (exact absurd trivial hg) | (exfalso; omega) | (have hT : True := hg; clear hT hg) | skip)))
      )
    all_goals first | exact ret_b rfl rfl | exact ret_b rfl (by decide) | trace_state
end Go.Proofs.YtkhljpbkebnnmaaDoor.Bu
/- The best pieces and their prices: plain. -/
namespace Go.Proofs.YtkhljpbkebnnmaaDoor.Bu
set_option linter.unusedVariables false
set_option linter.unusedSimpArgs false
open Go.RowKit Go.Proofs.YtkhljpbkebnnmaaDoor.Ev Go.Proofs.YtkhljpbkebnnmaaDoor.Ge

theorem pre_zeros (n : Nat) : ∀ k, Cu.pre (List.replicate n 0) k = 0 := by
  intro k
  unfold Cu.pre
  rw [List.take_replicate]
  generalize min k n = m
  induction m with
  | zero => rfl
  | succ m ih => rw [List.replicate_succ, List.sum_cons, ih]; rfl
theorem sumSp_zeros (n : Nat) : ∀ ss : List Cu.Span, Cu.sumSp (List.replicate n 0) ss = 0
  | [] => rfl
  | z :: ss => by
    have := sumSp_zeros n ss
    unfold Cu.sumSp at this ⊢
    rw [List.map_cons, List.sum_cons, this]
    unfold Cu.spV
    rw [pre_zeros, pre_zeros]; rfl
theorem gOf_line {p : Plan} {s : Lg} {u : Int} {x : Cu.Piece} (h1 : 0 ≤ x.1) (h2 : x.1.toNat < p.lens.length) (h3 : 0 ≤ x.2) (h4 : x.2 + p.lens[x.1.toNat] ≤ u) : Cu.gOf (lineOf p s u) x.1 x.2 = priceS p.classes (logOf p s x).1 (logOf p s x).2 := by
  have e1 : (p.lens.map (rowL p s u)).getD x.1.toNat [] = rowL p s u p.lens[x.1.toNat] := by simp [List.getD_eq_getElem?_getD, h2]
  have hl : x.2.toNat < (rowL p s u p.lens[x.1.toNat]).length := by rw [rowL_len]; omega
  have e2 : (rowL p s u p.lens[x.1.toNat]).getD x.2.toNat 0 = gainS p s x.2.toNat p.lens[x.1.toNat] := by
    rw [List.getD_eq_getElem?_getD, List.getElem?_eq_getElem hl, Option.getD_some, rowL_get]
  show ((p.lens.map (rowL p s u)).getD x.1.toNat []).getD x.2.toNat 0 = _
  rw [e1, e2, Int.toNat_of_nonneg h3]
  unfold gainS logOf
  rw [show p.lens.getD x.1.toNat 0 = p.lens[x.1.toNat] by simp [List.getD_eq_getElem?_getD, h2]]
theorem gsum_line {p : Plan} {s : Lg} {u : Int} (ok : LnOk p s u) {l : List Cu.Piece} {D C : List Span} (hc : Cu.cutsS (lineOf p s u) l = (0, D, C)) : Cu.gsum (lineOf p s u) l = sumP p.classes (l.map (logOf p s)) := by
  have hin := piece_in ok hc
  unfold Cu.gsum sumP
  rw [List.map_map]
  congr 1
  refine List.map_congr_left (fun x hx => ?_)
  obtain ⟨i, hi, rfl⟩ := List.mem_iff_getElem.1 hx
  obtain ⟨i1, i2, i3, i4, i5⟩ := hin i hi
  exact gOf_line i1 i2 i4 i5
theorem val_line {p : Plan} {s : Lg} {u : Int} (ok : LnOk p s u) {l : List Cu.Piece} {D C : List Span} (hc : Cu.cutsS (lineOf p s u) l = (0, D, C)) : Cu.OKs (lineOf p s u) 0 l ∧ Cu.PV (lineOf p s u) 0 l = sumP p.classes (l.map (logOf p s)) := by
  obtain ⟨h1, h2⟩ := Cu.cutsS_ok hc
  have v := Cu.valid_of h1
  obtain ⟨g1, g2⟩ := Cu.go_val v l 0 [] [] D C (by decide) ok.ub.1 h2
  refine ⟨g1, ?_⟩
  have z1 : Cu.sumSp (lineOf p s u).dust D = 0 := sumSp_zeros _ D
  have z2 : Cu.sumSp (lineOf p s u).chip C = 0 := sumSp_zeros _ C
  rw [z1, z2, gsum_line ok hc] at g2
  have e1 : Cu.sumSp (lineOf p s u).dust [] = 0 := rfl
  have e2 : Cu.sumSp (lineOf p s u).chip [] = 0 := rfl
  omega
/-- The best pieces: they can be cut, their prices are the value, and no others are worth more. -/
theorem best_line {p : Plan} {s : Lg} {u : Int} (ok : LnOk p s u) : ∃ l D C, Cu.cutsS (lineOf p s u) l = (0, D, C) ∧ Cu.bestS (lineOf p s u) = (l, sumP p.classes (l.map (logOf p s)), 0) ∧ sumP p.classes (l.map (logOf p s)) = Cu.TV (lineOf p s u) 0 := by
  have hk := line_chk ok.pk s ok.ub
  have v := Cu.valid_of hk
  have hub := ok.ub
  obtain ⟨h1, h2⟩ := Cu.chain_opt v ((lineOf p s u).len.toNat + 2) 0 (Int.le_refl 0) hub.1 (by show u - 0 + 1 ≤ ((u.toNat + 2 : Nat) : Int); omega)
  obtain ⟨D, C, hg⟩ := Cu.go_of _ 0 [] [] h1
  have hc : Cu.cutsS (lineOf p s u) (Cu.chainS (lineOf p s u) ((lineOf p s u).len.toNat + 2) 0) = (0, D, C) := by
    unfold Cu.cutsS; rw [if_neg (fun hh => hh hk)]; exact hg
  obtain ⟨_, hv⟩ := val_line ok hc
  refine ⟨_, D, C, hc, ?_, by rw [← hv, h2]⟩
  rw [Cu.best_ok hk, ← hv, h2]
theorem others {p : Plan} {s : Lg} {u : Int} (ok : LnOk p s u) {l : List Cu.Piece} {D C : List Span} (hc : Cu.cutsS (lineOf p s u) l = (0, D, C)) : sumP p.classes (l.map (logOf p s)) ≤ Cu.TV (lineOf p s u) 0 := by
  have v := Cu.valid_of (line_chk ok.pk s ok.ub)
  obtain ⟨h1, h2⟩ := val_line ok hc
  have hub := ok.ub
  have := (Cu.opt v l 0 ((lineOf p s u).len.toNat + 1) (Int.le_refl 0) hub.1 (by show u - 0 + 1 ≤ ((u.toNat + 1 : Nat) : Int); omega) h1).1
  omega
/-- A further length. -/
def plus (p : Plan) (n : Int) : Plan := ⟨p.classes, p.lens ++ [n], p.unit, p.kerf⟩
theorem plus_ok {p : Plan} {s : Lg} {u n : Int} (ok : LnOk p s u) (hn : 1 ≤ n ∧ n ≤ 2000) (hl : p.lens.length + 1 ≤ 32) : LnOk (plus p n) s u ∧ lineS (plus p n) s = (lineOf (plus p n) s u, 0) := by
  have pk := ok.pk
  have hu := pk.unit
  have hk := pk.kerf
  have hlen : (plus p n).lens.length = p.lens.length + 1 := by simp [plus]
  have hall : ∀ i (h : i < (plus p n).lens.length), lenOk (plus p n).lens[i] = true := by
    intro i hi
    unfold lenOk
    refine decide_eq_true ?_
    have hm : (plus p n).lens[i] ∈ p.lens ++ [n] := List.getElem_mem hi
    rcases List.mem_append.1 hm with h | h
    · obtain ⟨k, hk, e⟩ := List.mem_iff_getElem.1 h
      rw [← e]; exact pk.one k hk
    · rw [List.mem_singleton.1 h]; exact hn
  have h0 : planChk (plus p n) = 0 := (pc_ok (p := plus p n) pk.cls (by rw [hlen]; omega) (by rw [hlen]; omega) hall (by unfold unitBad plus; dsimp only; omega)).symm
  have hu2 : lengthS s.1 / (plus p n).unit = u := ok.ue.symm
  have hub := ok.ub
  refine ⟨⟨plan_ok h0, ok.sol, ok.dfs, hub, ok.ue⟩, ?_⟩
  have := ls_ok (p := plus p n) (s := s) h0 ok.sol ok.dfs (by rw [hu2]; omega)
  rw [hu2] at this; exact this
theorem plus_more {p : Plan} {s : Lg} {u n : Int} (ok : LnOk p s u) (hn : 1 ≤ n ∧ n ≤ 2000) (hl : p.lens.length + 1 ≤ 32) : Cu.TV (lineOf p s u) 0 ≤ Cu.TV (lineOf (plus p n) s u) 0 := by
  obtain ⟨ok2, _⟩ := plus_ok ok hn hl
  refine Cu.Grows.best ⟨rfl, rfl, rfl, rfl, rfl, by show p.lens.length ≤ (p.lens ++ [n]).length; simp, fun t h1 h2 => ?_, fun t q h1 h2 _ _ => ?_⟩ (Cu.valid_of (line_chk ok.pk s ok.ub)) (Cu.valid_of (line_chk ok2.pk s ok.ub))
  · have h2' : t < (p.lens.length : Int) := h2
    show (p.lens ++ [n]).getD t.toNat 0 = p.lens.getD t.toNat 0
    rw [List.getD_eq_getElem?_getD, List.getD_eq_getElem?_getD, List.getElem?_append_left (by omega)]
  · have h2' : t < (p.lens.length : Int) := h2
    have e : ((p.lens ++ [n]).map (rowL (plus p n) s u)).getD t.toNat [] = (p.lens.map (rowL p s u)).getD t.toNat [] := by
      rw [List.map_append, List.getD_eq_getElem?_getD, List.getD_eq_getElem?_getD, List.getElem?_append_left (by simp; omega)]; rfl
    show ((p.lens.map (rowL p s u)).getD t.toNat []).getD q.toNat 0 ≤ (((p.lens ++ [n]).map (rowL (plus p n) s u)).getD t.toNat []).getD q.toNat 0
    rw [e]; exact Int.le_refl _
end Go.Proofs.YtkhljpbkebnnmaaDoor.Bu
/- The law BuckVolume: logs, dust, chips and rest are the stem. -/
namespace Go.Proofs.YtkhljpbkebnnmaaDoor.Bu
set_option linter.unusedVariables false
set_option linter.unusedSimpArgs false
open Go.RowKit Go.Proofs.YtkhljpbkebnnmaaDoor.Ev Go.Proofs.YtkhljpbkebnnmaaDoor.Ge
variable {gl : List (Nat × List CV)}

end Go.Proofs.YtkhljpbkebnnmaaDoor.Bu
/- The walk of the law BuckVolume. -/
namespace Go.Proofs.YtkhljpbkebnnmaaDoor.Bu
set_option linter.unusedVariables false
set_option linter.unusedSimpArgs false
open Go.RowKit Go.Proofs.YtkhljpbkebnnmaaDoor.Ev Go.Proofs.YtkhljpbkebnnmaaDoor.Ge

abbrev Case := Plan × Lg
abbrev CaseQ (x : Case) : Prop := x.1.classes.length ≤ maxLen ∧ x.2.1.length ≤ maxLen ∧ x.2.2.length ≤ maxLen
end Go.Proofs.YtkhljpbkebnnmaaDoor.Bu
/- Rules for the walk of the law BuckPrice. -/
namespace Go.Proofs.YtkhljpbkebnnmaaDoor.Bu
set_option linter.unusedVariables false
set_option linter.unusedSimpArgs false
open Go.RowKit Go.Proofs.YtkhljpbkebnnmaaDoor.Ev Go.Proofs.YtkhljpbkebnnmaaDoor.Ge

def cutQ2 (s1 s2 : St) (n : Nat) (Q : Exit → St → Prop) : Exit → St → Prop
  | .normal, st => (Weak st s1 ∧ n ≤ s1.nx) ∨ (Weak st s2 ∧ n ≤ s2.nx)
  | e, st => Q e st
theorem cutQ2_l {s1 s2 st : St} {n : Nat} {Q : Exit → St → Prop} (h : Weak st s1) (hn : Nat.ble n s1.nx = true) : cutQ2 s1 s2 n Q .normal st := .inl ⟨h, Nat.le_of_ble_eq_true hn⟩
theorem cutQ2_r {s1 s2 st : St} {n : Nat} {Q : Exit → St → Prop} (h : Weak st s2) (hn : Nat.ble n s2.nx = true) : cutQ2 s1 s2 n Q .normal st := .inr ⟨h, Nat.le_of_ble_eq_true hn⟩
theorem aw_cut_at2 {P : Program} (id : Nat) (s1 s2 : St) {l : Array Oper} {K : St → Prop} {Q : Exit → St → Prop} {st : St} (h : Awp P (.region id l true) (cutQ2 s1 s2 st.nx Q) st) (h1 : K s1) (h2 : K s2) : Awp P (.region id l true) (thn K Q) st :=
  aw_cut (fun s => s = s1 ∨ s = s2) (aw_mono h (fun e s hs => by
    cases e with
    | normal =>
      rcases hs with hs | hs
      · exact ⟨s1, .inl rfl, hs⟩
      · exact ⟨s2, .inr rfl, hs⟩
    | _ => exact hs)) (fun s hs => by rcases hs with rfl | rfl <;> assumption)
end Go.Proofs.YtkhljpbkebnnmaaDoor.Bu
