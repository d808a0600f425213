/- TG: texts laid together. -/
import Derived.Test.YtdndfncpglfdeaaMrgX1
set_option maxRecDepth 100000
set_option maxHeartbeats 64000000
/- Boards for orders: boards that change places, the assignment that comes before all others. -/
namespace Go.Proofs.Ytdndfncpglfdeaa.To
set_option linter.unusedVariables false
set_option linter.unusedSimpArgs false
open Go.RowKit Go.Proofs.Ytdndfncpglfdeaa.Ev
variable {gl : List (Nat × List CV)}
section
variable {P : Program} {ops : Array Oper} {Q : Exit → St → Prop} {rest : List Oper} {d : Nat} {ty : TypeId} {pos : String} {af : Array Edge} {n : Nat} {env : List (Nat × AV)} {heap : List (Nat × Option AB)} {nx : Nat} {gl : List (Nat × List CV)}
theorem r_mapdel0 {t kt b : Nat} {m x : Operand} {f : Nat → Option Nat} {k : Nat} {idx : Int} [I : MapT P t kt] (hm : St.ev ⟨n, env, heap, nx, gl⟩ m = some (.ref b mapV)) (hH : St.H ⟨n, env, heap, nx, gl⟩ b = some (.obj (mapP f))) (hx : St.ev ⟨n, env, heap, nx, gl⟩ x = some (.c (.v (.int .i64 idx)))) (hk : idx = (k : Int))
    (h : AOps P ops Q rest ⟨n, env, (b, some (.obj (mapP (updM f k none)))) :: heap, nx, gl⟩) : AOps P ops Q (⟨none, .call ⟨.builtin .delete, #[m, x], #[t, kt]⟩, ty, pos, af, none⟩ :: rest) ⟨n, env, heap, nx, gl⟩ := by
  intro base w0 M a hs
  subst hk
  have hxv := (hs.ev hx).bool
  have hbM : M.H b = some (.obj (mapP f)) := by rw [hs.H]; exact hH
  obtain ⟨g, o1, _, ⟨o2, es, clock, o3, o4⟩, _⟩ := hs.heap.obj b _ hbM
  have hmv := ref_eq (hs.ev hm) o1
  obtain ⟨es', r1, r2⟩ := run_delete I o3 o4 k ty
  obtain ⟨M', h1, _, h3, h4⟩ := hs.changeO hbM o1 (opost_map (F := M.F) (f := f) (clock' := clock) o3 o2 r2)
  refine wl_value (w' := { M.w with heap := M.w.heap.setIfInBounds g (.map es' clock) }) (u := .tuple #[]) rfl ?_ ?_
  · simp only [execOp, resolve, List.map_toArray, List.map_cons, List.map_nil, hmv, hxv]
    rw [show mapV g = .map (some g) from rfl]
    simp [invoke, builtin, r1, Result.andThen]
  · rw [← h1]
    exact wpList_monoQ (fun e a w => Lift.ext h4) _ _ _ (h base w0 M' a h3)
theorem aw_endcloseV {c : Code} {s : St} (b : Nat) (F : List (List Bool))
    (h : Awp P c (fun e st => Q e st ∨ ∃ to first b2, Nat.beq b b2 = false ∧ st.H b = some (.cells 66 [.c (LLB F), .ref b2 mapV, .c (I first)]) ∧ st.H b2 = some (.obj (mapP to)) ∧ Q e ⟨st.n, st.env, (b, some (.obj (matP F to first))) :: (b2, none) :: st.heap, st.nx, st.gl⟩) s) : Awp P c Q s := by
  intro base w0 M a hs
  refine wp_mono (h base w0 M a hs) ?_
  intro e a' w' ⟨M', ⟨n, env, heap, nx, gl⟩, h1, h2, h3, h4⟩
  rcases h4 with h4 | ⟨to, first, b2, g0, g1, g2, g3⟩
  · exact ⟨M', _, h1, h2, h3, h4⟩
  · obtain ⟨M2, k1, k2, k3⟩ := sim_mclose h2 g1 g2 g0
    exact ⟨M2, _, k1.trans h1, k2, h3.trans k3, g3⟩
end
theorem ret0 {P : Program} {st : St} : Ret P [] (.tup []) .ret st := ⟨Or.inr rfl, Or.inr ⟨by simp, [], rfl, .nil⟩⟩
theorem ret0n {P : Program} {st : St} : Ret P [] (.tup []) .normal st := ⟨Or.inl rfl, Or.inr ⟨by simp, [], rfl, .nil⟩⟩
abbrev matB (F : List (List Bool)) (first : Int) (b : Nat) : List AV := [.c (LLB F), .ref b mapV, A first]
def MoveR (F : List (List Bool)) (B board : Nat) (to : Asg) (x : Bool × Asg) : Prop := (x.1 = true ∧ Same F B board to x.2) ∨ (x.1 = false ∧ x.2 = to)
theorem move_con (F : List (List Bool)) (B : Nat) (h : Tab F B) (to : Asg) (hok : Ok F B to) (board order : Nat) (ho : order < F.length) (hbB : board < B) (hf : fit F order board = true) (hne : to board ≠ some order) :
    OConE Try.prog gl 32 [.p, .c (I board), .c (I order)] (matP F to ((board + 1 : Nat) : Int)) (fun γ : {x // MoveR F B board to x} => BO γ.1.1) (fun γ => matP F γ.1.2 ((board + 1 : Nat) : Int)) := by
  have hn := h.n
  have hb5 := h.b
  have hcol := columns_con (gl := gl) F B h
  refine oconE_of Try.func32 rfl (by kernel_rfl) rfl (by intro x hx h e; subst e; first | (simp at hx; done) | (intro g; simp at hx; subst hx; rfl)) ?_
  intro fr hfr
  simp only [Try.ntmps32, Try.results32, argEnvO, avOf, of1, List.map]
  refine aw_endcloseV 0 F ?_
  refine aw_mopen 0 rfl ?_
  repeat' (first
 | ((with_reducible apply r_nilp); exact rfl; exact rfl)
 | ((with_reducible apply aw_seq))
 | ((with_reducible apply aw_region))
 | ((with_reducible apply aw_block))
 | ((with_reducible apply thn_normal))
 | ((with_reducible apply ao_nil))
 | ((with_reducible apply r_move); exact rfl; exact rfl)
 | ((with_reducible apply r_assign); exact rfl; exact rfl)
 | ((with_reducible apply r_field_p); exact rfl; exact rfl)
 | ((with_reducible apply r_load_p); exact rfl; exact rfl; exact rfl; exact rfl)
 )
  refine aw_loopG (G := Nat) (fun (freed : Nat) => board < freed ∧ freed ≤ B) (fun (freed : Nat) => B - freed) (fun (freed : Nat) => [(0, .ptr 0 0), (1, A board), (2, A order), (7, A freed)]) (fun (freed : Nat) => [(1, fr), (0, some (.cells 66 (matB F ((board + 1 : Nat) : Int) 2))), (2, some (.obj (mapP to)))]) 3 (board + 1) ?_ (by refine weak_mkF hfr rfl rfl rfl ?_ ?_ <;> repeat (first | exact envW_nil | exact heapW_nil | refine envW_cons rfl rfl ?_ | refine heapW_cons rfl rfl rfl ?_)) rfl ?_
  · exact ⟨Nat.lt_succ_self _, hbB⟩
  intro freed hI
  try dsimp only at hI
  try dsimp only
  obtain ⟨hbf, hfB⟩ := hI
  by_cases hfl : freed < B
  rotate_left
  · obtain rfl : freed = B := by omega
    repeat' (first
 | ((with_reducible apply r_nilp); exact rfl; exact rfl)
 | ((with_reducible apply (r_call (f := 22))); exact rfl; exact rfl; exact hcol; exact rfl; exact rfl)
 | ((with_reducible apply aw_seq))
 | ((with_reducible apply aw_region))
 | ((with_reducible apply thn_normal))
 | ((with_reducible apply thn_ret))
 | ((with_reducible apply thn_exit))
 | ((with_reducible apply inb_exit))
 | ((with_reducible apply aw_exit))
 | ((with_reducible apply aw_ret))
 | ((with_reducible apply ao_nil))
 | ((with_reducible apply r_move); exact rfl; exact rfl)
 | ((with_reducible apply r_assign); exact rfl; exact rfl)
 | ((with_reducible apply r_field_p); exact rfl; exact rfl)
 | ((with_reducible apply r_load_p); exact rfl; exact rfl; exact rfl; exact rfl)
 | ((with_reducible apply r_lss); exact rfl; exact rfl; exact rfl)
 | ((with_reducible apply r_eql); exact rfl; exact rfl; exact rfl)
 | ((with_reducible apply r_pick_f); exact rfl; exact rfl; exact rfl)
 | (((with_reducible apply r_guard); exact rfl; exact rfl; exact rfl; exact rfl) <;> intro hg <;> (first | (exact absurd hg (by decide)) | ((try simp only [decide_eq_true_eq, decide_eq_false_iff_not, Bool.not_eq_true', Bool.not_eq_false', Bool.not_true, Bool.not_false, Bool.not_not, Int.not_lt, Int.not_le, Nat.not_lt, Nat.not_le, gt_iff_lt, ge_iff_le, List.cons.injEq, and_true] at hg); first | (exact absurd trivial hg) | (exfalso; omega) | (have hT : True := hg; clear hT hg) | skip)))
 | (((with_reducible apply aw_cond); exact rfl) <;> intro hg <;> (first | (exact absurd hg (by decide)) | ((try simp only [decide_eq_true_eq, decide_eq_false_iff_not, Bool.not_eq_true', Bool.not_eq_false', Bool.not_true, Bool.not_false, Bool.not_not, Int.not_lt, Int.not_le, Nat.not_lt, Nat.not_le, gt_iff_lt, ge_iff_le, List.cons.injEq, and_true] at hg); first | (exact absurd trivial hg) | (exfalso; omega) | (have hT : True := hg; clear hT hg) | skip)))
 )
    exact .inr ⟨to, _, 2, rfl, rfl, rfl, ret_o ⟨(false, to), .inr ⟨rfl, rfl⟩⟩ (ret_b rfl rfl) rfl rfl⟩
  cases hto : to freed with
  | none =>
    repeat' (first
 | ((with_reducible apply r_nilp); exact rfl; exact rfl)
 | ((with_reducible apply (r_call (f := 22))); exact rfl; exact rfl; exact hcol; exact rfl; exact rfl)
 | ((with_reducible apply (r_in Try.func33 rfl Try.results33 (by kernel_rfl) Try.ntmps33)); exact rfl; exact rfl; exact rfl; exact rfl)
 | ((with_reducible apply back_ret); exact rfl)
 | ((with_reducible apply (r_mapok0 hto)); exact rfl; exact rfl; exact rfl; exact rfl; exact rfl)
 | ((with_reducible apply aw_seq))
 | ((with_reducible apply aw_region))
 | ((with_reducible apply aw_block))
 | ((with_reducible apply thn_normal))
 | ((with_reducible apply inb_normal))
 | ((with_reducible apply aw_skip))
 | ((with_reducible apply aw_ret))
 | ((with_reducible apply ao_nil))
 | ((with_reducible apply r_move); exact rfl; exact rfl)
 | ((with_reducible apply r_assign); exact rfl; exact rfl)
 | ((with_reducible apply r_field_p); exact rfl; exact rfl)
 | ((with_reducible apply r_load_p); exact rfl; exact rfl; exact rfl; exact rfl)
 | ((with_reducible apply r_lss); exact rfl; exact rfl; exact rfl)
 | ((with_reducible apply r_add); exact rfl; exact rfl; exact (by first | assumption | (unfold fits; omega)); exact rfl)
 | ((with_reducible apply r_pick_t); exact rfl; exact rfl; exact rfl)
 | ((with_reducible apply r_pick_f); exact rfl; exact rfl; exact rfl)
 | ((with_reducible apply r_not); exact rfl; exact rfl)
 | ((with_reducible apply r_extract); exact rfl; exact rfl; exact rfl)
 | (((with_reducible apply r_guard); exact rfl; exact rfl; exact rfl; exact rfl) <;> intro hg <;> (first | (exact absurd hg (by decide)) | ((try simp only [decide_eq_true_eq, decide_eq_false_iff_not, Bool.not_eq_true', Bool.not_eq_false', Bool.not_true, Bool.not_false, Bool.not_not, Int.not_lt, Int.not_le, Nat.not_lt, Nat.not_le, gt_iff_lt, ge_iff_le, List.cons.injEq, and_true] at hg); first | (exact absurd trivial hg) | (exfalso; omega) | (have hT : True := hg; clear hT hg) | skip)))
 | (((with_reducible apply aw_cond); exact rfl) <;> intro hg <;> (first | (exact absurd hg (by decide)) | ((try simp only [decide_eq_true_eq, decide_eq_false_iff_not, Bool.not_eq_true', Bool.not_eq_false', Bool.not_true, Bool.not_false, Bool.not_not, Int.not_lt, Int.not_le, Nat.not_lt, Nat.not_le, gt_iff_lt, ge_iff_le, List.cons.injEq, and_true] at hg); first | (exact absurd trivial hg) | (exfalso; omega) | (have hT : True := hg; clear hT hg) | skip)))
 )
    refine ⟨freed + 1, ?_, ?_, by refine weak_mkF hfr rfl rfl rfl ?_ ?_ <;> repeat (first | exact envW_nil | exact heapW_nil | refine envW_cons rfl rfl ?_ | refine heapW_cons rfl rfl rfl ?_)⟩
    · omega
    · exact ⟨by omega, by omega⟩
  | some o =>
  by_cases hoo : o = order
  rotate_left
  · skip
    repeat' (first
 | ((with_reducible apply r_nilp); exact rfl; exact rfl)
 | ((with_reducible apply (r_call (f := 22))); exact rfl; exact rfl; exact hcol; exact rfl; exact rfl)
 | ((with_reducible apply (r_in Try.func33 rfl Try.results33 (by kernel_rfl) Try.ntmps33)); exact rfl; exact rfl; exact rfl; exact rfl)
 | ((with_reducible apply back_ret); exact rfl)
 | ((with_reducible apply (r_mapok1 hto)); exact rfl; exact rfl; exact rfl; exact rfl; exact rfl)
 | ((with_reducible apply aw_seq))
 | ((with_reducible apply aw_region))
 | ((with_reducible apply aw_block))
 | ((with_reducible apply thn_normal))
 | ((with_reducible apply inb_normal))
 | ((with_reducible apply aw_skip))
 | ((with_reducible apply aw_ret))
 | ((with_reducible apply ao_nil))
 | ((with_reducible apply r_move); exact rfl; exact rfl)
 | ((with_reducible apply r_assign); exact rfl; exact rfl)
 | ((with_reducible apply r_field_p); exact rfl; exact rfl)
 | ((with_reducible apply r_load_p); exact rfl; exact rfl; exact rfl; exact rfl)
 | ((with_reducible apply r_lss); exact rfl; exact rfl; exact rfl)
 | ((with_reducible apply r_eql); exact rfl; exact rfl; exact rfl)
 | ((with_reducible apply r_add); exact rfl; exact rfl; exact (by first | assumption | (unfold fits; omega)); exact rfl)
 | ((with_reducible apply r_pick_t); exact rfl; exact rfl; exact rfl)
 | ((with_reducible apply r_not); exact rfl; exact rfl)
 | ((with_reducible apply r_extract); exact rfl; exact rfl; exact rfl)
 | (((with_reducible apply r_guard); exact rfl; exact rfl; exact rfl; exact rfl) <;> intro hg <;> (first | (exact absurd hg (by decide)) | ((try simp only [decide_eq_true_eq, decide_eq_false_iff_not, Bool.not_eq_true', Bool.not_eq_false', Bool.not_true, Bool.not_false, Bool.not_not, Int.not_lt, Int.not_le, Nat.not_lt, Nat.not_le, gt_iff_lt, ge_iff_le, List.cons.injEq, and_true] at hg); first | (exact absurd trivial hg) | (exfalso; omega) | (have hT : True := hg; clear hT hg) | skip)))
 | (((with_reducible apply aw_cond); exact rfl) <;> intro hg <;> (first | (exact absurd hg (by decide)) | ((try simp only [decide_eq_true_eq, decide_eq_false_iff_not, Bool.not_eq_true', Bool.not_eq_false', Bool.not_true, Bool.not_false, Bool.not_not, Int.not_lt, Int.not_le, Nat.not_lt, Nat.not_le, gt_iff_lt, ge_iff_le, List.cons.injEq, and_true] at hg); first | (exact absurd trivial hg) | (exfalso; omega) | (have hT : True := hg; clear hT hg) | skip)))
 )
    all_goals
      refine ⟨freed + 1, ?_, ?_, by refine weak_mkF hfr rfl rfl rfl ?_ ?_ <;> repeat (first | exact envW_nil | exact heapW_nil | refine envW_cons rfl rfl ?_ | refine heapW_cons rfl rfl rfl ?_)⟩
      · omega
      · exact ⟨by omega, by omega⟩
  subst hoo
  cases hbd : to board with
  | none =>
    have hS := mv_free hok hbB ho hf hto hbf hbd
    repeat' (first
 | ((with_reducible apply r_nilp); exact rfl; exact rfl)
 | ((with_reducible apply (r_call (f := 22))); exact rfl; exact rfl; exact hcol; exact rfl; exact rfl)
 | ((with_reducible apply (r_in Try.func33 rfl Try.results33 (by kernel_rfl) Try.ntmps33)); exact rfl; exact rfl; exact rfl; exact rfl)
 | ((with_reducible apply back_ret); exact rfl)
 | ((with_reducible apply (r_mapok1 hto)); exact rfl; exact rfl; exact rfl; exact rfl; exact rfl)
 | ((with_reducible apply (r_mapok0 hbd)); exact rfl; exact rfl; exact rfl; exact rfl; exact rfl)
 | ((with_reducible apply (r_mapset (k := board) (v := o))); exact rfl; exact rfl; exact rfl; exact rfl; exact rfl; exact rfl)
 | ((with_reducible apply (r_mapdel0 (k := freed))); exact rfl; exact rfl; exact rfl; exact rfl)
 | ((with_reducible apply aw_seq))
 | ((with_reducible apply aw_region))
 | ((with_reducible apply thn_normal))
 | ((with_reducible apply thn_ret))
 | ((with_reducible apply thn_exit))
 | ((with_reducible apply inb_exit))
 | ((with_reducible apply aw_skip))
 | ((with_reducible apply aw_exit))
 | ((with_reducible apply aw_ret))
 | ((with_reducible apply ao_nil))
 | ((with_reducible apply r_move); exact rfl; exact rfl)
 | ((with_reducible apply r_assign); exact rfl; exact rfl)
 | ((with_reducible apply r_field_p); exact rfl; exact rfl)
 | ((with_reducible apply r_load_p); exact rfl; exact rfl; exact rfl; exact rfl)
 | ((with_reducible apply r_lss); exact rfl; exact rfl; exact rfl)
 | ((with_reducible apply r_eql); exact rfl; exact rfl; exact rfl)
 | ((with_reducible apply r_pick_t); exact rfl; exact rfl; exact rfl)
 | ((with_reducible apply r_not); exact rfl; exact rfl)
 | ((with_reducible apply r_extract); exact rfl; exact rfl; exact rfl)
 | (((with_reducible apply r_guard); exact rfl; exact rfl; exact rfl; exact rfl) <;> intro hg <;> (first | (exact absurd hg (by decide)) | ((try simp only [decide_eq_true_eq, decide_eq_false_iff_not, Bool.not_eq_true', Bool.not_eq_false', Bool.not_true, Bool.not_false, Bool.not_not, Int.not_lt, Int.not_le, Nat.not_lt, Nat.not_le, gt_iff_lt, ge_iff_le, List.cons.injEq, and_true] at hg); first | (exact absurd trivial hg) | (exfalso; omega) | (have hT : True := hg; clear hT hg) | skip)))
 | (((with_reducible apply aw_cond); exact rfl) <;> intro hg <;> (first | (exact absurd hg (by decide)) | ((try simp only [decide_eq_true_eq, decide_eq_false_iff_not, Bool.not_eq_true', Bool.not_eq_false', Bool.not_true, Bool.not_false, Bool.not_not, Int.not_lt, Int.not_le, Nat.not_lt, Nat.not_le, gt_iff_lt, ge_iff_le, List.cons.injEq, and_true] at hg); first | (exact absurd trivial hg) | (exfalso; omega) | (have hT : True := hg; clear hT hg) | skip)))
 )
    all_goals exact .inr ⟨_, _, 2, rfl, rfl, rfl, ret_o ⟨(true, mv to board o freed), .inl ⟨rfl, hS⟩⟩ (ret_b rfl rfl) rfl rfl⟩
  | some now =>
    have hno : now ≠ o := fun e => hne (by rw [hbd, e])
    have hM := mv_ok (freed := freed) hok hbB ho hf
    have hnl := (hok.h board now hbd).2.1
    have hext := extend_con (gl := gl) F B h (mv to board o freed) hM (board + 1) now hnl (by omega)
    repeat' (first
 | ((with_reducible apply r_nilp); exact rfl; exact rfl)
 | ((with_reducible apply (r_call (f := 22))); exact rfl; exact rfl; exact hcol; exact rfl; exact rfl)
 | ((with_reducible apply (r_in Try.func33 rfl Try.results33 (by kernel_rfl) Try.ntmps33)); exact rfl; exact rfl; exact rfl; exact rfl)
 | ((with_reducible apply back_ret); exact rfl)
 | ((with_reducible apply (r_mapok1 hto)); exact rfl; exact rfl; exact rfl; exact rfl; exact rfl)
 | ((with_reducible apply (r_mapok1 hbd)); exact rfl; exact rfl; exact rfl; exact rfl; exact rfl)
 | ((with_reducible apply (r_mapset (k := board) (v := o))); exact rfl; exact rfl; exact rfl; exact rfl; exact rfl; exact rfl)
 | ((with_reducible apply (r_mapdel0 (k := freed))); exact rfl; exact rfl; exact rfl; exact rfl)
 | ((with_reducible apply aw_seq))
 | ((with_reducible apply aw_region))
 | ((with_reducible apply thn_normal))
 | ((with_reducible apply thn_exit))
 | ((with_reducible apply inb_exit))
 | ((with_reducible apply aw_skip))
 | ((with_reducible apply aw_exit))
 | ((with_reducible apply aw_ret))
 | ((with_reducible apply ao_nil))
 | ((with_reducible apply r_move); exact rfl; exact rfl)
 | ((with_reducible apply r_assign); exact rfl; exact rfl)
 | ((with_reducible apply r_field_p); exact rfl; exact rfl)
 | ((with_reducible apply r_load_p); exact rfl; exact rfl; exact rfl; exact rfl)
 | ((with_reducible apply r_lss); exact rfl; exact rfl; exact rfl)
 | ((with_reducible apply r_eql); exact rfl; exact rfl; exact rfl)
 | ((with_reducible apply r_pick_t); exact rfl; exact rfl; exact rfl)
 | ((with_reducible apply r_not); exact rfl; exact rfl)
 | ((with_reducible apply r_extract); exact rfl; exact rfl; exact rfl)
 | (((with_reducible apply r_guard); exact rfl; exact rfl; exact rfl; exact rfl) <;> intro hg <;> (first | (exact absurd hg (by decide)) | ((try simp only [decide_eq_true_eq, decide_eq_false_iff_not, Bool.not_eq_true', Bool.not_eq_false', Bool.not_true, Bool.not_false, Bool.not_not, Int.not_lt, Int.not_le, Nat.not_lt, Nat.not_le, gt_iff_lt, ge_iff_le, List.cons.injEq, and_true] at hg); first | (exact absurd trivial hg) | (exfalso; omega) | (have hT : True := hg; clear hT hg) | skip)))
 | (((with_reducible apply aw_cond); exact rfl) <;> intro hg <;> (first | (exact absurd hg (by decide)) | ((try simp only [decide_eq_true_eq, decide_eq_false_iff_not, Bool.not_eq_true', Bool.not_eq_false', Bool.not_true, Bool.not_false, Bool.not_not, Int.not_lt, Int.not_le, Nat.not_lt, Nat.not_le, gt_iff_lt, ge_iff_le, List.cons.injEq, and_true] at hg); first | (exact absurd trivial hg) | (exfalso; omega) | (have hT : True := hg; clear hT hg) | skip)))
 )
    refine ao_mclose (F := F) (to := mv to board o freed) (first := ((board + 1 : Nat) : Int)) 0 2 rfl rfl rfl ?_
    refine r_callOE (f := 26) 0 hext rfl rfl rfl rfl ?_
    rintro ⟨⟨rb, to2⟩, hE⟩
    dsimp only
    cases rb with
    | true =>
      rcases hE with ⟨_, hE⟩ | ⟨hE, _⟩
      rotate_left
      · cases hE
      have hS := mv_more hok hbB ho hf hto hbf hbd hno hE
      repeat' (first
 | ((with_reducible apply aw_seq))
 | ((with_reducible apply aw_region))
 | ((with_reducible apply thn_normal))
 | ((with_reducible apply thn_ret))
 | ((with_reducible apply aw_ret))
 | ((with_reducible apply ao_nil))
 | ((with_reducible apply r_assign); exact rfl; exact rfl)
 | ((with_reducible apply r_pick_f); exact rfl; exact rfl; exact rfl)
 | (((with_reducible apply aw_cond); exact rfl) <;> intro hg <;> (first | (exact absurd hg (by decide)) | ((try simp only [decide_eq_true_eq, decide_eq_false_iff_not, Bool.not_eq_true', Bool.not_eq_false', Bool.not_true, Bool.not_false, Bool.not_not, Int.not_lt, Int.not_le, Nat.not_lt, Nat.not_le, gt_iff_lt, ge_iff_le, List.cons.injEq, and_true] at hg); first | (exact absurd trivial hg) | (exfalso; omega) | (have hT : True := hg; clear hT hg) | skip)))
 )
      all_goals exact .inl (ret_o ⟨(true, to2), .inl ⟨rfl, hS⟩⟩ (ret_b rfl rfl) rfl rfl)
    | false =>
      rcases hE with ⟨hE, _⟩ | ⟨_, hE, _⟩
      · cases hE
      have hE : to2 = mv to board o freed := hE
      subst hE
      have hbk := mv_back hto hbf hbd
      refine ao_mopen 0 rfl ?_
      repeat' (first
 | ((with_reducible apply r_nilp); exact rfl; exact rfl)
 | ((with_reducible apply (r_mapset (k := board) (v := now))); exact rfl; exact rfl; exact rfl; exact rfl; exact rfl; exact rfl)
 | ((with_reducible apply (r_mapset (k := freed) (v := o))); exact rfl; exact rfl; exact rfl; exact rfl; exact rfl; exact rfl)
 | ((with_reducible apply aw_seq))
 | ((with_reducible apply aw_region))
 | ((with_reducible apply thn_normal))
 | ((with_reducible apply aw_skip))
 | ((with_reducible apply aw_ret))
 | ((with_reducible apply ao_nil))
 | ((with_reducible apply r_move); exact rfl; exact rfl)
 | ((with_reducible apply r_assign); exact rfl; exact rfl)
 | ((with_reducible apply r_field_p); exact rfl; exact rfl)
 | ((with_reducible apply r_load_p); exact rfl; exact rfl; exact rfl; exact rfl)
 | ((with_reducible apply r_pick_f); exact rfl; exact rfl; exact rfl)
 | (((with_reducible apply aw_cond); exact rfl) <;> intro hg <;> (first | (exact absurd hg (by decide)) | ((try simp only [decide_eq_true_eq, decide_eq_false_iff_not, Bool.not_eq_true', Bool.not_eq_false', Bool.not_true, Bool.not_false, Bool.not_not, Int.not_lt, Int.not_le, Nat.not_lt, Nat.not_le, gt_iff_lt, ge_iff_le, List.cons.injEq, and_true] at hg); first | (exact absurd trivial hg) | (exfalso; omega) | (have hT : True := hg; clear hT hg) | skip)))
 )
      all_goals exact .inr ⟨_, _, 3, rfl, rfl, rfl, ret_o ⟨(false, _), .inr ⟨rfl, hbk⟩⟩ (ret_b rfl rfl) rfl rfl⟩
theorem improve_con (F : List (List Bool)) (B : Nat) (h : Tab F B) (to : Asg) (hok : Ok F B to) (board : Nat) (hbB : board < B) :
    OConE Try.prog gl 27 [.p, .c (I board)] (matP F to ((board + 1 : Nat) : Int)) (fun _ : {x // Same F B board to x} => .tup []) (fun γ => matP F γ.1 ((board + 1 : Nat) : Int)) := by
  have hn := h.n
  have hb5 := h.b
  refine oconE_of Try.func27 rfl (by kernel_rfl) rfl (by intro x hx h e; subst e; first | (simp at hx; done) | (intro g; simp at hx; subst hx; rfl)) ?_
  intro fr hfr
  simp only [Try.ntmps27, Try.results27, argEnvO, avOf, of1, List.map]
  refine aw_endcloseV 0 F ?_
  refine aw_mopen 0 rfl ?_
  obtain ⟨tk, htk⟩ : ∃ tk : Bool, tk = (to board).isSome := ⟨_, rfl⟩
  obtain ⟨nw, hnw⟩ : ∃ nw : Nat, nw = (to board).getD 0 := ⟨_, rfl⟩
  have hmv : ∀ i : Nat, ¬ (tk = true ∧ i = nw) → to board ≠ some i := fun i hh e => hh (by
    rw [e] at htk hnw
    exact ⟨htk, hnw.symm⟩)
  repeat' (first
 | ((with_reducible apply r_nilp); exact rfl; exact rfl)
 | ((with_reducible apply r_mapok); exact rfl; exact rfl; exact rfl; exact rfl; exact rfl; rw [← htk, ← hnw])
 | ((with_reducible apply aw_seq))
 | ((with_reducible apply aw_region))
 | ((with_reducible apply aw_block))
 | ((with_reducible apply thn_normal))
 | ((with_reducible apply ao_nil))
 | ((with_reducible apply r_move); exact rfl; exact rfl)
 | ((with_reducible apply r_assign); exact rfl; exact rfl)
 | ((with_reducible apply r_field_p); exact rfl; exact rfl)
 | ((with_reducible apply r_load_p); exact rfl; exact rfl; exact rfl; exact rfl)
 | ((with_reducible apply r_len_f); exact rfl; exact inferInstance; exact rfl)
 | ((with_reducible apply r_extract); exact rfl; exact rfl; exact rfl)
 )
  refine aw_loopRG (G := Nat) (fun (j : Nat) => j ≤ F.length) (fun (j : Nat) => F.length - j) (fun (j : Nat) => [(0, .ptr 0 0), (1, A board), (4, A nw), (5, .c (BO tk)), (20, A F.length), (21, A j)]) (fun (j : Nat) => [(1, fr), (0, some (.cells 66 (matB F ((board + 1 : Nat) : Int) 3))), (3, some (.obj (mapP to)))]) 4 0 ?_ [(3, 2)] (by refine ren_mkF hfr [(3, 2)] rfl rfl rfl rfl rfl rfl ?_ ?_ <;> repeat (first | exact envR_nil | exact heapR_nil | refine envR_cons rfl rfl ?_ | refine heapR_cons rfl rfl rfl ?_)) ?_
  · exact Nat.zero_le _
  intro j hj
  try dsimp only at hj
  try dsimp only
  by_cases hjl : j < F.length
  rotate_left
  · obtain rfl : j = F.length := by omega
    repeat' (first
 | ((with_reducible apply aw_seq))
 | ((with_reducible apply aw_region))
 | ((with_reducible apply thn_normal))
 | ((with_reducible apply thn_exit))
 | ((with_reducible apply inb_exit))
 | ((with_reducible apply aw_exit))
 | ((with_reducible apply ao_nil))
 | ((with_reducible apply r_lss); exact rfl; exact rfl; exact rfl)
 | (((with_reducible apply aw_cond); exact rfl) <;> intro hg <;> (first | (exact absurd hg (by decide)) | ((try simp only [decide_eq_true_eq, decide_eq_false_iff_not, Bool.not_eq_true', Bool.not_eq_false', Bool.not_true, Bool.not_false, Bool.not_not, Int.not_lt, Int.not_le, Nat.not_lt, Nat.not_le, gt_iff_lt, ge_iff_le, List.cons.injEq, and_true] at hg); first | (exact absurd trivial hg) | (exfalso; omega) | (have hT : True := hg; clear hT hg) | skip)))
 )
    all_goals exact .inr ⟨to, _, 3, rfl, rfl, rfl, ret_o ⟨to, Same.refl hok⟩ (by first | exact ret0 | exact ret0n) rfl rfl⟩
  by_cases hst : tk = true ∧ j = nw
  · obtain ⟨rfl, rfl⟩ := hst
    repeat' (first
 | ((with_reducible apply aw_seq))
 | ((with_reducible apply aw_region))
 | ((with_reducible apply aw_block))
 | ((with_reducible apply thn_normal))
 | ((with_reducible apply thn_ret))
 | ((with_reducible apply inb_ret))
 | ((with_reducible apply aw_skip))
 | ((with_reducible apply aw_ret))
 | ((with_reducible apply ao_nil))
 | ((with_reducible apply r_move); exact rfl; exact rfl)
 | ((with_reducible apply r_assign); exact rfl; exact rfl)
 | ((with_reducible apply r_lss); exact rfl; exact rfl; exact rfl)
 | ((with_reducible apply r_eql); exact rfl; exact rfl; exact rfl)
 | ((with_reducible apply r_pick_t); exact rfl; exact rfl; exact rfl)
 | (((with_reducible apply r_guard); exact rfl; exact rfl; exact rfl; exact rfl) <;> intro hg <;> (first | (exact absurd hg (by decide)) | ((try simp only [decide_eq_true_eq, decide_eq_false_iff_not, Bool.not_eq_true', Bool.not_eq_false', Bool.not_true, Bool.not_false, Bool.not_not, Int.not_lt, Int.not_le, Nat.not_lt, Nat.not_le, gt_iff_lt, ge_iff_le, List.cons.injEq, and_true] at hg); first | (exact absurd trivial hg) | (exfalso; omega) | (have hT : True := hg; clear hT hg) | skip)))
 | (((with_reducible apply aw_cond); exact rfl) <;> intro hg <;> (first | (exact absurd hg (by decide)) | ((try simp only [decide_eq_true_eq, decide_eq_false_iff_not, Bool.not_eq_true', Bool.not_eq_false', Bool.not_true, Bool.not_false, Bool.not_not, Int.not_lt, Int.not_le, Nat.not_lt, Nat.not_le, gt_iff_lt, ge_iff_le, List.cons.injEq, and_true] at hg); first | (exact absurd trivial hg) | (exfalso; omega) | (have hT : True := hg; clear hT hg) | skip)))
 )
    all_goals exact .inr ⟨to, _, 3, rfl, rfl, rfl, ret_o ⟨to, Same.refl hok⟩ (by first | exact ret0 | exact ret0n) rfl rfl⟩
  have hrow := h.row j hjl
  have hfg := fit_get h hjl hbB
  by_cases hf : fit F j board = true
  rotate_left
  · have hff : (F[j])[board]'(by omega) = false := by
      rw [← hfg]; simpa using hf
    rw [hfg, hff] at hf
    cases tk with
    | true =>
      have hjn : j ≠ nw := fun e => hst ⟨rfl, e⟩
      repeat' (first
 | ((with_reducible apply r_nilp); exact rfl; exact rfl)
 | ((with_reducible apply r_move); exact (by first | exact rfl | (rw [hff]; rfl)); exact rfl)
 | ((with_reducible apply aw_seq))
 | ((with_reducible apply aw_region))
 | ((with_reducible apply aw_block))
 | ((with_reducible apply thn_normal))
 | ((with_reducible apply inb_normal))
 | ((with_reducible apply aw_skip))
 | ((with_reducible apply ao_nil))
 | ((with_reducible apply r_assign); exact rfl; exact rfl)
 | ((with_reducible apply r_field_p); exact rfl; exact rfl)
 | ((with_reducible apply r_load_p); exact rfl; exact rfl; exact rfl; exact rfl)
 | ((with_reducible apply r_lss); exact rfl; exact rfl; exact rfl)
 | ((with_reducible apply r_eql); exact rfl; exact rfl; exact rfl)
 | ((with_reducible apply r_add); exact rfl; exact rfl; exact (by first | assumption | (unfold fits; omega)); exact rfl)
 | ((with_reducible apply r_pick_t); exact rfl; exact rfl; exact rfl)
 | ((with_reducible apply r_pick_f); exact rfl; exact rfl; exact rfl)
 | ((with_reducible apply r_index_f); exact rfl; exact inferInstance; exact rfl; exact rfl; (first | assumption | omega); exact rfl)
 | ((with_reducible apply r_load_f0); exact rfl; exact inferInstance; exact List.getElem?_eq_getElem (by first | assumption | omega); exact rfl; exact rfl)
 | (((with_reducible apply r_guard); exact rfl; exact rfl; exact rfl; exact rfl) <;> intro hg <;> (first | (exact absurd hg (by decide)) | ((try simp only [decide_eq_true_eq, decide_eq_false_iff_not, Bool.not_eq_true', Bool.not_eq_false', Bool.not_true, Bool.not_false, Bool.not_not, Int.not_lt, Int.not_le, Nat.not_lt, Nat.not_le, gt_iff_lt, ge_iff_le, List.cons.injEq, and_true] at hg); first | (exact absurd trivial hg) | (exfalso; omega) | (have hT : True := hg; clear hT hg) | skip)))
 | (((with_reducible apply aw_cond); exact rfl) <;> intro hg <;> (first | (exact absurd hg (by decide)) | ((try simp only [decide_eq_true_eq, decide_eq_false_iff_not, Bool.not_eq_true', Bool.not_eq_false', Bool.not_true, Bool.not_false, Bool.not_not, Int.not_lt, Int.not_le, Nat.not_lt, Nat.not_le, gt_iff_lt, ge_iff_le, List.cons.injEq, and_true] at hg); first | (exact absurd trivial hg) | (exfalso; omega) | (have hT : True := hg; clear hT hg) | skip)))
 )
      all_goals try exact absurd (hff.symm.trans hg) (by decide)
      all_goals
        refine ⟨j + 1, [], ?_, ?_, by refine ren_mkF hfr [] rfl rfl rfl rfl rfl rfl ?_ ?_ <;> repeat (first | exact envR_nil | exact heapR_nil | refine envR_cons rfl rfl ?_ | refine heapR_cons rfl rfl rfl ?_)⟩
        · omega
        · show j + 1 ≤ F.length; omega
    | false =>
      repeat' (first
 | ((with_reducible apply r_nilp); exact rfl; exact rfl)
 | ((with_reducible apply r_move); exact (by first | exact rfl | (rw [hff]; rfl)); exact rfl)
 | ((with_reducible apply aw_seq))
 | ((with_reducible apply aw_region))
 | ((with_reducible apply aw_block))
 | ((with_reducible apply thn_normal))
 | ((with_reducible apply inb_normal))
 | ((with_reducible apply aw_skip))
 | ((with_reducible apply ao_nil))
 | ((with_reducible apply r_assign); exact rfl; exact rfl)
 | ((with_reducible apply r_field_p); exact rfl; exact rfl)
 | ((with_reducible apply r_load_p); exact rfl; exact rfl; exact rfl; exact rfl)
 | ((with_reducible apply r_lss); exact rfl; exact rfl; exact rfl)
 | ((with_reducible apply r_add); exact rfl; exact rfl; exact (by first | assumption | (unfold fits; omega)); exact rfl)
 | ((with_reducible apply r_pick_f); exact rfl; exact rfl; exact rfl)
 | ((with_reducible apply r_index_f); exact rfl; exact inferInstance; exact rfl; exact rfl; (first | assumption | omega); exact rfl)
 | ((with_reducible apply r_load_f0); exact rfl; exact inferInstance; exact List.getElem?_eq_getElem (by first | assumption | omega); exact rfl; exact rfl)
 | (((with_reducible apply r_guard); exact rfl; exact rfl; exact rfl; exact rfl) <;> intro hg <;> (first | (exact absurd hg (by decide)) | ((try simp only [decide_eq_true_eq, decide_eq_false_iff_not, Bool.not_eq_true', Bool.not_eq_false', Bool.not_true, Bool.not_false, Bool.not_not, Int.not_lt, Int.not_le, Nat.not_lt, Nat.not_le, gt_iff_lt, ge_iff_le, List.cons.injEq, and_true] at hg); first | (exact absurd trivial hg) | (exfalso; omega) | (have hT : True := hg; clear hT hg) | skip)))
 | (((with_reducible apply aw_cond); exact rfl) <;> intro hg <;> (first | (exact absurd hg (by decide)) | ((try simp only [decide_eq_true_eq, decide_eq_false_iff_not, Bool.not_eq_true', Bool.not_eq_false', Bool.not_true, Bool.not_false, Bool.not_not, Int.not_lt, Int.not_le, Nat.not_lt, Nat.not_le, gt_iff_lt, ge_iff_le, List.cons.injEq, and_true] at hg); first | (exact absurd trivial hg) | (exfalso; omega) | (have hT : True := hg; clear hT hg) | skip)))
 )
      all_goals try exact absurd (hff.symm.trans hg) (by decide)
      all_goals
        refine ⟨j + 1, [], ?_, ?_, by refine ren_mkF hfr [] rfl rfl rfl rfl rfl rfl ?_ ?_ <;> repeat (first | exact envR_nil | exact heapR_nil | refine envR_cons rfl rfl ?_ | refine heapR_cons rfl rfl rfl ?_)⟩
        · omega
        · show j + 1 ≤ F.length; omega
  have hmc := move_con (gl := gl) F B h to hok board j hjl hbB hf (hmv j hst)
  have hft : (F[j])[board]'(by omega) = true := by rw [← hfg]; exact hf
  have key : tk = false ∨ (tk = true ∧ j ≠ nw) := by
    cases tk with
    | false => exact .inl rfl
    | true => exact .inr ⟨rfl, fun e => hst ⟨rfl, e⟩⟩
  rcases key with rfl | ⟨rfl, hjn⟩
  all_goals
    repeat' (first
 | ((with_reducible apply r_nilp); exact rfl; exact rfl)
 | ((with_reducible apply aw_seq))
 | ((with_reducible apply aw_region))
 | ((with_reducible apply aw_block))
 | ((with_reducible apply thn_normal))
 | ((with_reducible apply inb_normal))
 | ((with_reducible apply aw_skip))
 | ((with_reducible apply ao_nil))
 | ((with_reducible apply r_move); exact rfl; exact rfl)
 | ((with_reducible apply r_assign); exact rfl; exact rfl)
 | ((with_reducible apply r_field_p); exact rfl; exact rfl)
 | ((with_reducible apply r_load_p); exact rfl; exact rfl; exact rfl; exact rfl)
 | ((with_reducible apply r_lss); exact rfl; exact rfl; exact rfl)
 | ((with_reducible apply r_eql); exact rfl; exact rfl; exact rfl)
 | ((with_reducible apply r_add); exact rfl; exact rfl; exact (by first | assumption | (unfold fits; omega)); exact rfl)
 | ((with_reducible apply r_pick_t); exact rfl; exact rfl; exact rfl)
 | ((with_reducible apply r_pick_f); exact rfl; exact rfl; exact rfl)
 | ((with_reducible apply r_index_f); exact rfl; exact inferInstance; exact rfl; exact rfl; (first | assumption | omega); exact rfl)
 | ((with_reducible apply r_load_f0); exact rfl; exact inferInstance; exact List.getElem?_eq_getElem (by first | assumption | omega); exact rfl; exact rfl)
 | (((with_reducible apply r_guard); exact rfl; exact rfl; exact rfl; exact rfl) <;> intro hg <;> (first | (exact absurd hg (by decide)) | ((try simp only [decide_eq_true_eq, decide_eq_false_iff_not, Bool.not_eq_true', Bool.not_eq_false', Bool.not_true, Bool.not_false, Bool.not_not, Int.not_lt, Int.not_le, Nat.not_lt, Nat.not_le, gt_iff_lt, ge_iff_le, List.cons.injEq, and_true] at hg); first | (exact absurd trivial hg) | (exfalso; omega) | (have hT : True := hg; clear hT hg) | skip)))
 | (((with_reducible apply aw_cond); exact rfl) <;> intro hg <;> (first | (exact absurd hg (by decide)) | ((try simp only [decide_eq_true_eq, decide_eq_false_iff_not, Bool.not_eq_true', Bool.not_eq_false', Bool.not_true, Bool.not_false, Bool.not_not, Int.not_lt, Int.not_le, Nat.not_lt, Nat.not_le, gt_iff_lt, ge_iff_le, List.cons.injEq, and_true] at hg); first | (exact absurd trivial hg) | (exfalso; omega) | (have hT : True := hg; clear hT hg) | skip)))
 )
    rotate_left
    · exact absurd (hft.symm.trans hg) (by decide)
    refine ao_mclose (F := F) (to := to) (first := ((board + 1 : Nat) : Int)) 0 3 rfl rfl rfl ?_
    refine r_callOE (f := 32) 0 hmc rfl rfl rfl rfl ?_
    rintro ⟨⟨rb, to2⟩, hE⟩
    refine ao_mopen 0 rfl ?_
    dsimp only
    cases rb with
    | true =>
      rcases hE with ⟨_, hE⟩ | ⟨hE, _⟩
      rotate_left
      · cases hE
      repeat' (first
 | ((with_reducible apply thn_normal))
 | ((with_reducible apply thn_ret))
 | ((with_reducible apply inb_ret))
 | ((with_reducible apply aw_ret))
 | ((with_reducible apply ao_nil))
 | ((with_reducible apply r_pick_t); exact rfl; exact rfl; exact rfl)
 | (((with_reducible apply aw_cond); exact rfl) <;> intro hg <;> (first | (exact absurd hg (by decide)) | ((try simp only [decide_eq_true_eq, decide_eq_false_iff_not, Bool.not_eq_true', Bool.not_eq_false', Bool.not_true, Bool.not_false, Bool.not_not, Int.not_lt, Int.not_le, Nat.not_lt, Nat.not_le, gt_iff_lt, ge_iff_le, List.cons.injEq, and_true] at hg); first | (exact absurd trivial hg) | (exfalso; omega) | (have hT : True := hg; clear hT hg) | skip)))
 )
      all_goals exact .inr ⟨to2, _, 4, rfl, rfl, rfl, ret_o ⟨to2, hE⟩ (by first | exact ret0 | exact ret0n) rfl rfl⟩
    | false =>
      rcases hE with ⟨hE, _⟩ | ⟨_, hE⟩
      · cases hE
      have hE : to2 = to := hE
      subst hE
      repeat' (first
 | ((with_reducible apply aw_region))
 | ((with_reducible apply thn_normal))
 | ((with_reducible apply inb_normal))
 | ((with_reducible apply aw_skip))
 | ((with_reducible apply ao_nil))
 | ((with_reducible apply r_move); exact rfl; exact rfl)
 | ((with_reducible apply r_add); exact rfl; exact rfl; exact (by first | assumption | (unfold fits; omega)); exact rfl)
 | ((with_reducible apply r_pick_t); exact rfl; exact rfl; exact rfl)
 | (((with_reducible apply aw_cond); exact rfl) <;> intro hg <;> (first | (exact absurd hg (by decide)) | ((try simp only [decide_eq_true_eq, decide_eq_false_iff_not, Bool.not_eq_true', Bool.not_eq_false', Bool.not_true, Bool.not_false, Bool.not_not, Int.not_lt, Int.not_le, Nat.not_lt, Nat.not_le, gt_iff_lt, ge_iff_le, List.cons.injEq, and_true] at hg); first | (exact absurd trivial hg) | (exfalso; omega) | (have hT : True := hg; clear hT hg) | skip)))
 )
      all_goals
        refine ⟨j + 1, [(3, 4)], ?_, ?_, by refine ren_mkF hfr [(3, 4)] rfl rfl rfl rfl rfl rfl ?_ ?_ <;> repeat (first | exact envR_nil | exact heapR_nil | refine envR_cons rfl rfl ?_ | refine heapR_cons rfl rfl rfl ?_)⟩
        · omega
        · show j + 1 ≤ F.length; omega
theorem earliest_con (F : List (List Bool)) (B : Nat) (h : Tab F B) (to : Asg) (hok : Ok F B to) :
    OConE Try.prog gl 21 [.p] (matP F to ((0 : Nat) : Int)) (fun γ : {x // Same F B 0 to x} => LI (listA γ.1 B)) (fun γ => matP F γ.1 (B : Int)) := by
  have hn := h.n
  have hb5 := h.b
  have hcol := columns_con (gl := gl) F B h
  refine oconE_of Try.func21 rfl (by kernel_rfl) rfl (by intro x hx h e; subst e; first | (simp at hx; done) | (intro g; simp at hx; subst hx; rfl)) ?_
  intro fr hfr
  simp only [Try.ntmps21, Try.results21, argEnvO, avOf, of1, List.map]
  refine aw_endcloseV 0 F ?_
  refine aw_mopen 0 rfl ?_
  repeat' (first
 | ((with_reducible apply r_nilp); exact rfl; exact rfl)
 | ((with_reducible apply (r_call (f := 22))); exact rfl; exact rfl; exact hcol; exact rfl; exact rfl)
 | ((with_reducible apply r_make (enc := intC) (0 : Int) B); exact inferInstance; exact rfl; exact rfl; exact rfl; exact rfl; exact rfl; omega; omega; exact rfl)
 | ((with_reducible apply r_len_v); exact rfl; exact rfl; (rw [flat_len EncL.len, List.length_replicate]); exact rfl)
 | ((with_reducible apply aw_seq))
 | ((with_reducible apply aw_region))
 | ((with_reducible apply aw_block))
 | ((with_reducible apply thn_normal))
 | ((with_reducible apply ao_nil))
 | ((with_reducible apply r_move); exact rfl; exact rfl)
 | ((with_reducible apply r_assign); exact rfl; exact rfl)
 | ((with_reducible apply r_field_p); exact rfl; exact rfl)
 | ((with_reducible apply r_load_p); exact rfl; exact rfl; exact rfl; exact rfl)
 )
  refine aw_loopRG (G := Nat × Asg × List Int) (fun ((b, g, s) : Nat × Asg × List Int) => b ≤ B ∧ Same F B 0 to g ∧ s.length = B ∧ ∀ k, k < b → s[k]? = (listA g B)[k]?) (fun ((b, g, s) : Nat × Asg × List Int) => B - b) (fun ((b, g, s) : Nat × Asg × List Int) => [(0, .ptr 0 0), (3, .vec 3 B), (14, A B), (15, A b)]) (fun ((b, g, s) : Nat × Asg × List Int) => [(1, fr), (0, some (.cells 66 (matB F (b : Int) 4))), (3, some (.vec 3 1 (s.flatMap intC))), (4, some (.obj (mapP g)))]) 5 (0, to, List.replicate B 0) ?_ [(4, 2)] (by refine ren_mkF hfr [(4, 2)] rfl rfl rfl rfl rfl rfl ?_ ?_ <;> repeat (first | exact envR_nil | exact heapR_nil | refine envR_cons rfl rfl ?_ | refine heapR_cons rfl rfl rfl ?_)) ?_
  · exact ⟨Nat.zero_le _, Same.refl hok, by simp, fun k hk => absurd hk (Nat.not_lt_zero _)⟩
  rintro ⟨b, g, s⟩ hI
  dsimp only at hI ⊢
  obtain ⟨hbB, hS, hsl, hsk⟩ := hI
  by_cases hbl : b < B
  rotate_left
  · obtain rfl : b = B := by omega
    have hsg : s = listA g b := by
      apply List.ext_getElem?
      intro k
      by_cases hk : k < b
      · exact hsk k hk
      · rw [List.getElem?_eq_none (by omega), List.getElem?_eq_none (by rw [listA_len]; omega)]
    subst hsg
    repeat' (first
 | ((with_reducible apply aw_seq))
 | ((with_reducible apply aw_region))
 | ((with_reducible apply thn_normal))
 | ((with_reducible apply thn_exit))
 | ((with_reducible apply inb_exit))
 | ((with_reducible apply aw_exit))
 | ((with_reducible apply aw_ret))
 | ((with_reducible apply ao_nil))
 | ((with_reducible apply r_move); exact rfl; exact rfl)
 | ((with_reducible apply r_assign); exact rfl; exact rfl)
 | ((with_reducible apply r_lss); exact rfl; exact rfl; exact rfl)
 | (((with_reducible apply aw_cond); exact rfl) <;> intro hg <;> (first | (exact absurd hg (by decide)) | ((try simp only [decide_eq_true_eq, decide_eq_false_iff_not, Bool.not_eq_true', Bool.not_eq_false', Bool.not_true, Bool.not_false, Bool.not_not, Int.not_lt, Int.not_le, Nat.not_lt, Nat.not_le, gt_iff_lt, ge_iff_le, List.cons.injEq, and_true] at hg); first | (exact absurd trivial hg) | (exfalso; omega) | (have hT : True := hg; clear hT hg) | skip)))
 )
    exact .inr ⟨g, _, 4, rfl, rfl, rfl, ret_o ⟨g, hS⟩ (ret1 (.tmp rfl (cl_vec rfl (by rw [flat_len EncL.len, hsl])))) rfl rfl⟩
  have himp := improve_con (gl := gl) F B h g hS.ok b hbl
  repeat' (first
 | ((with_reducible apply r_nilp); exact rfl; exact rfl)
 | ((with_reducible apply aw_seq))
 | ((with_reducible apply aw_region))
 | ((with_reducible apply aw_block))
 | ((with_reducible apply thn_normal))
 | ((with_reducible apply aw_skip))
 | ((with_reducible apply ao_nil))
 | ((with_reducible apply r_move); exact rfl; exact rfl)
 | ((with_reducible apply r_assign); exact rfl; exact rfl)
 | ((with_reducible apply r_field_p); exact rfl; exact rfl)
 | ((with_reducible apply r_lss); exact rfl; exact rfl; exact rfl)
 | ((with_reducible apply r_add); exact rfl; exact rfl; exact (by first | assumption | (unfold fits; omega)); exact rfl)
 | ((with_reducible apply r_store_p); exact rfl; exact rfl; exact rfl; exact rfl; exact rfl; exact rfl)
 | (((with_reducible apply aw_cond); exact rfl) <;> intro hg <;> (first | (exact absurd hg (by decide)) | ((try simp only [decide_eq_true_eq, decide_eq_false_iff_not, Bool.not_eq_true', Bool.not_eq_false', Bool.not_true, Bool.not_false, Bool.not_not, Int.not_lt, Int.not_le, Nat.not_lt, Nat.not_le, gt_iff_lt, ge_iff_le, List.cons.injEq, and_true] at hg); first | (exact absurd trivial hg) | (exfalso; omega) | (have hT : True := hg; clear hT hg) | skip)))
 )
  refine ao_mclose (F := F) (to := g) (first := ((b + 1 : Nat) : Int)) 0 4 rfl rfl rfl ?_
  refine r_callOE (f := 27) 0 himp rfl rfl rfl rfl ?_
  rintro ⟨g2, hE⟩
  refine ao_mopen 0 rfl ?_
  have hS2 : Same F B 0 to g2 := hS.trans (hE.mono (Nat.zero_le _))
  have hold : ∀ k, k < b → (listA g2 B)[k]? = (listA g B)[k]? := fun k hk => by
    rw [listA_get g2 (by omega), listA_get g (by omega), hE.same k hk]
  have hfin : ∀ x : Int, (listA g2 B)[b]? = some x → ∀ k, k < b + 1 → (s.set b x)[k]? = (listA g2 B)[k]? := fun x hx k hk => by
    rw [List.getElem?_set]
    by_cases e : b = k
    · subst e
      rw [if_pos rfl, if_pos (by omega), hx]
    · rw [if_neg e, hold k (by omega)]
      exact hsk k (by omega)
  cases hgb : g2 b with
  | none =>
    have hx := hfin (-1) (by rw [listA_get g2 hbl, hgb])
    repeat' (first
 | ((with_reducible apply r_nilp); exact rfl; exact rfl)
 | ((with_reducible apply (r_mapok0 hgb)); exact rfl; exact rfl; exact rfl; exact rfl; exact rfl)
 | ((with_reducible apply (r_store_v (enc := intC) (k := b) (l := s) (-1))); exact rfl; exact rfl; exact inferInstance; exact hsl; exact (by omega); exact rfl; exact rfl; exact rfl; exact rfl)
 | ((with_reducible apply aw_seq))
 | ((with_reducible apply aw_region))
 | ((with_reducible apply thn_normal))
 | ((with_reducible apply inb_normal))
 | ((with_reducible apply ao_nil))
 | ((with_reducible apply r_move); exact rfl; exact rfl)
 | ((with_reducible apply r_assign); exact rfl; exact rfl)
 | ((with_reducible apply r_field_p); exact rfl; exact rfl)
 | ((with_reducible apply r_load_p); exact rfl; exact rfl; exact rfl; exact rfl)
 | ((with_reducible apply r_add); exact rfl; exact rfl; exact (by first | assumption | (unfold fits; omega)); exact rfl)
 | ((with_reducible apply r_not); exact rfl; exact rfl)
 | ((with_reducible apply r_index_vf); exact rfl; exact rfl; exact inferInstance; (first | exact rfl | assumption | omega); exact rfl; exact rfl; (first | assumption | omega); exact rfl)
 | ((with_reducible apply r_extract); exact rfl; exact rfl; exact rfl)
 | (((with_reducible apply aw_cond); exact rfl) <;> intro hg <;> (first | (exact absurd hg (by decide)) | ((try simp only [decide_eq_true_eq, decide_eq_false_iff_not, Bool.not_eq_true', Bool.not_eq_false', Bool.not_true, Bool.not_false, Bool.not_not, Int.not_lt, Int.not_le, Nat.not_lt, Nat.not_le, gt_iff_lt, ge_iff_le, List.cons.injEq, and_true] at hg); first | (exact absurd trivial hg) | (exfalso; omega) | (have hT : True := hg; clear hT hg) | skip)))
 )
    refine ⟨(b + 1, g2, s.set b (-1)), [(4, 5)], ?_, ?_, by refine ren_mkF hfr [(4, 5)] rfl rfl rfl rfl rfl rfl ?_ ?_ <;> repeat (first | exact envR_nil | exact heapR_nil | refine envR_cons rfl rfl ?_ | refine heapR_cons rfl rfl rfl ?_)⟩
    · show B - (b + 1) < B - b; omega
    · exact ⟨by show b + 1 ≤ B; omega, hS2, by show (List.set _ _ _).length = B; rw [List.length_set]; exact hsl, hx⟩
  | some o =>
    have hx := hfin (o : Int) (by rw [listA_get g2 hbl, hgb])
    repeat' (first
 | ((with_reducible apply r_nilp); exact rfl; exact rfl)
 | ((with_reducible apply (r_mapok1 hgb)); exact rfl; exact rfl; exact rfl; exact rfl; exact rfl)
 | ((with_reducible apply (r_store_v (enc := intC) (k := b) (l := s) (o : Int))); exact rfl; exact rfl; exact inferInstance; exact hsl; exact (by omega); exact rfl; exact rfl; exact rfl; exact rfl)
 | ((with_reducible apply aw_seq))
 | ((with_reducible apply aw_region))
 | ((with_reducible apply thn_normal))
 | ((with_reducible apply inb_normal))
 | ((with_reducible apply aw_skip))
 | ((with_reducible apply ao_nil))
 | ((with_reducible apply r_move); exact rfl; exact rfl)
 | ((with_reducible apply r_assign); exact rfl; exact rfl)
 | ((with_reducible apply r_field_p); exact rfl; exact rfl)
 | ((with_reducible apply r_load_p); exact rfl; exact rfl; exact rfl; exact rfl)
 | ((with_reducible apply r_add); exact rfl; exact rfl; exact (by first | assumption | (unfold fits; omega)); exact rfl)
 | ((with_reducible apply r_not); exact rfl; exact rfl)
 | ((with_reducible apply r_index_vf); exact rfl; exact rfl; exact inferInstance; (first | exact rfl | assumption | omega); exact rfl; exact rfl; (first | assumption | omega); exact rfl)
 | ((with_reducible apply r_extract); exact rfl; exact rfl; exact rfl)
 | (((with_reducible apply aw_cond); exact rfl) <;> intro hg <;> (first | (exact absurd hg (by decide)) | ((try simp only [decide_eq_true_eq, decide_eq_false_iff_not, Bool.not_eq_true', Bool.not_eq_false', Bool.not_true, Bool.not_false, Bool.not_not, Int.not_lt, Int.not_le, Nat.not_lt, Nat.not_le, gt_iff_lt, ge_iff_le, List.cons.injEq, and_true] at hg); first | (exact absurd trivial hg) | (exfalso; omega) | (have hT : True := hg; clear hT hg) | skip)))
 )
    refine ⟨(b + 1, g2, s.set b (o : Int)), [(4, 5)], ?_, ?_, by refine ren_mkF hfr [(4, 5)] rfl rfl rfl rfl rfl rfl ?_ ?_ <;> repeat (first | exact envR_nil | exact heapR_nil | refine envR_cons rfl rfl ?_ | refine heapR_cons rfl rfl rfl ?_)⟩
    · show B - (b + 1) < B - b; omega
    · exact ⟨by show b + 1 ≤ B; omega, hS2, by show (List.set _ _ _).length = B; rw [List.length_set]; exact hsl, hx⟩
end Go.Proofs.Ytdndfncpglfdeaa.To
