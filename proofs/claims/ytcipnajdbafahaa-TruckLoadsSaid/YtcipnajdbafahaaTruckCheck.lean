/- The walks of Check and Sum. -/
import Derived.Test.YtcipnajdbafahaaProg
import Derived.Test.YtcipnajdbafahaaTruckPlain
namespace Go.Proofs.Ytcipnajdbafahaa.Tk
set_option linter.unusedVariables false
set_option linter.unusedSimpArgs false
open Go.RowKit

theorem ret_int {k : IntKind} {a b : Int} (h : a = b) : Ending.returned (.int k a) = .returned (.int k b) := by rw [h]

theorem inRange_any (n : Int) (w : World) : Calls Try.prog 23 #[.int .i64 n] w fun e w' => e = .returned (.bool (inR n)) ∧ w = w' := by
  by_cases h : 0 ≤ n
  · go_enter Try.func23, Try.ntmps23
    go_wp2
    go_ret
    exact ⟨by unfold inR; first | (rw [decide_eq_true h]; simp; done) | (rw [decide_eq_false (by omega : ¬ 0 ≤ n)]; rfl), rfl⟩
  · go_enter Try.func23, Try.ntmps23
    go_wp2
    go_ret
    exact ⟨by unfold inR; first | (rw [decide_eq_true h]; simp; done) | (rw [decide_eq_false (by omega : ¬ 0 ≤ n)]; rfl), rfl⟩
theorem inRange_is (n : Int) (b : Bool) (h : inR n = b) (w : World) : Calls Try.prog 23 #[.int .i64 n] w fun e w' => e = .returned (.bool b) ∧ w = w' := by
  rw [← h]; exact inRange_any n w
theorem ranged_any (n : Int) (w : World) : Calls Try.prog 25 #[.int .i64 n] w fun e w' => e = .returned (.bool (inR n)) ∧ w = w' := by
  by_cases h : 0 ≤ n
  · go_enter Try.func25, Try.ntmps25
    go_wp2
    go_ret
    exact ⟨by unfold inR; first | (rw [decide_eq_true h]; simp; done) | (rw [decide_eq_false (by omega : ¬ 0 ≤ n)]; rfl), rfl⟩
  · go_enter Try.func25, Try.ntmps25
    go_wp2
    go_ret
    exact ⟨by unfold inR; first | (rw [decide_eq_true h]; simp; done) | (rw [decide_eq_false (by omega : ¬ 0 ≤ n)]; rfl), rfl⟩
theorem ranged_is (n : Int) (b : Bool) (h : inR n = b) (w : World) : Calls Try.prog 25 #[.int .i64 n] w fun e w' => e = .returned (.bool b) ∧ w = w' := by
  rw [← h]; exact ranged_any n w

theorem numbersOf_any (p : Par) (w : World) : Calls Try.prog 24 #[.agg #[.int .i64 p.1, .int .i64 p.2.1, .int .i64 p.2.2]] w fun e w' => e = .returned (.agg #[.int .i64 p.1, .int .i64 p.2.1, .int .i64 p.2.2]) ∧ Below w.heap.size w w' := by
  go_enter Try.func24, Try.ntmps24
  go_wp2
  exact bodyPost_ret (v := .agg #[.int .i64 p.1, .int .i64 p.2.1, .int .i64 p.2.2]) (by simp [results, Try.results24, go_sem]) rfl ⟨rfl, ((Below.refl _ _).alloc (Nat.le_refl _) _).alloc (by simp) _⟩

set_option maxRecDepth 100000 in
set_option maxHeartbeats 1000000 in
theorem check_any (v : Value) (l : List Par) (W V : Int) (w : World) (hl : Kit.Sl 3 parEnc w w.heap.size v l) (hn : l.length ≤ 1000000) :
    Calls Try.prog 12 #[v, .int .i64 W, .int .i64 V] w fun e w' => e = .returned (.int .i64 (checkOf l W V)) ∧ Below w.heap.size w w' := by
  have hl' := hl
  obtain ⟨ad, cap, rfl, hcap, _⟩ := hl
  by_cases h16 : 16 < l.length
  · go_enter Try.func12, Try.ntmps12
    go_wp2
    go_ret
    exact ⟨ret_int (by unfold checkOf; rw [if_pos h16]), Below.refl _ _⟩
  have b16 : decide (16 < l.length) = false := by simp; omega
  by_cases hW : inR W = false
  · go_enter Try.func12, Try.ntmps12
    go_wp2_with (go_at_call 23; refine (inRange_is W _ hW _).mono ?_; rintro e w1 ⟨rfl, rfl⟩)
    go_ret
    exact ⟨ret_int (by unfold checkOf; rw [if_neg h16, hW]; rfl), Below.refl _ _⟩
  have hW : inR W = true := by simpa using hW
  by_cases hV : inR V = false
  · go_enter Try.func12, Try.ntmps12
    go_wp2_with fail
    refine (inRange_is W _ hW _).mono ?_
    rintro e w1 ⟨rfl, rfl⟩
    go_wp2_with fail
    refine (inRange_is V _ hV _).mono ?_
    rintro e w1 ⟨rfl, rfl⟩
    go_wp2
    go_ret
    exact ⟨ret_int (by unfold checkOf; rw [if_neg h16, hW, hV]; rfl), Below.refl _ _⟩
  have hV : inR V = true := by simpa using hV
  have HW := Lib.hid hW; clear hW
  have HV := Lib.hid hV; clear hV
  have HC := Lib.hid hl'; clear hl'
  go_enter Try.func12, Try.ntmps12
  go_wp2_with fail
  refine (inRange_is W _ HW.out _).mono ?_
  rintro e w1 ⟨rfl, rfl⟩
  go_wp2_with fail
  refine (inRange_is V _ HV.out _).mono ?_
  rintro e w1 ⟨rfl, rfl⟩
  go_wp2
  clear b16
  go_loopw [24] (fun i wr => ∃ k : Nat, k ≤ l.length ∧ i = .int .i64 k ∧ Below w.heap.size w wr ∧ (l.take k).all inP = true) (fun i _ => l.length - (intOf i).toNat)
  case atStart => exact ⟨0, by omega, rfl, Below.refl _ _, rfl⟩
  case round =>
    obtain ⟨k, hk, rfl, hbr, hall⟩ := hrel
    have HA := Lib.hid hall; clear hall
    by_cases hlt : k < l.length
    · obtain ⟨b, off, ⟨cap', hv⟩, hbl, c0, c1, c2⟩ := sl3 HC.out k hlt
      have hv' : ad = some ⟨b, off, none⟩ := by simpa using congrArg (fun v => match v with | Value.slice a _ _ => a | _ => none) hv
      subst hv'
      rw [← hbr.cell (p := ⟨b, off + k * 3, none⟩) hbl] at c0
      rw [← hbr.cell (p := ⟨b, off + k * 3 + 1, none⟩) hbl] at c1
      rw [← hbr.cell (p := ⟨b, off + k * 3 + 2, none⟩) hbl] at c2
      clear hv
      have HBAD := Lib.hid (check_bad l W V k hlt h16 HW.out HV.out)
      have HSN := Lib.hid (all_snoc l k hlt HA.out)
      have hps : ∀ p : Par, inP p = (inR p.1 && inR p.2.1 && inR p.2.2) := fun _ => rfl
      have HPS := Lib.hid (hps l[k]); clear hps
      generalize l[k] = p at *
      go_wp2_with fail
      refine (numbersOf_any p _).mono ?_
      rintro e w2 ⟨rfl, hb2⟩
      have hsz := hbr.size
      have hb2' : Below w.heap.size w w2 := (hbr.alloc hsz _).trans (hb2.mono (by simp; omega))
      clear c0 c1 c2 hb2
      have i0 : ∀ w, (Instr.index 47 (.agg #[.int .i64 p.1, .int .i64 p.2.1, .int .i64 p.2.2]) (.int .i64 0)).run Try.prog w = .ok (.int .i64 p.1) w := fun _ => by kernel_rfl
      have i1 : ∀ w, (Instr.index 47 (.agg #[.int .i64 p.1, .int .i64 p.2.1, .int .i64 p.2.2]) (.int .i64 1)).run Try.prog w = .ok (.int .i64 p.2.1) w := fun _ => by kernel_rfl
      have i2 : ∀ w, (Instr.index 47 (.agg #[.int .i64 p.1, .int .i64 p.2.1, .int .i64 p.2.2]) (.int .i64 2)).run Try.prog w = .ok (.int .i64 p.2.2) w := fun _ => by kernel_rfl
      go_wp2
      go_loop [30] (fun i => (i = .int .i64 0) ∨ (i = .int .i64 1 ∧ inR p.1 = true) ∨ (i = .int .i64 2 ∧ inR p.1 = true ∧ inR p.2.1 = true) ∨ (i = .int .i64 3 ∧ inR p.1 = true ∧ inR p.2.1 = true ∧ inR p.2.2 = true)) (fun i => 3 - (intOf i).toNat)
      case atStart => exact Or.inl rfl
      case round =>
        have HREL := Lib.hid hrel; clear hrel
        rcases HREL.out with rfl | ⟨rfl, g1⟩ | ⟨rfl, g1, g2⟩ | ⟨rfl, g1, g2, g3⟩
        · rcases (Bool.eq_false_or_eq_true (inR p.1)).symm with hr | hr
          · have HRR := Lib.hid hr; clear hr HREL
            go_wp2_with fail
            refine (inRange_is p.1 _ HRR.out _).mono ?_
            rintro e w3 ⟨rfl, rfl⟩
            go_wp2
            go_ret
            exact ⟨ret_int (by rw [HBAD.out (by rw [HPS.out, HRR.out]; rfl)]), hb2'⟩
          · have HRR := Lib.hid hr; clear hr HREL
            go_wp2_with fail
            refine (inRange_is p.1 _ HRR.out _).mono ?_
            rintro e w3 ⟨rfl, rfl⟩
            go_wp2
            go_round
            case rel => exact Or.inr (Or.inl ⟨rfl, HRR.out⟩)
            case measure => simp [intOf]
        · have G1 := Lib.hid g1; clear g1
          rcases (Bool.eq_false_or_eq_true (inR p.2.1)).symm with hr | hr
          · have HRR := Lib.hid hr; clear hr HREL
            go_wp2_with fail
            refine (inRange_is p.2.1 _ HRR.out _).mono ?_
            rintro e w3 ⟨rfl, rfl⟩
            go_wp2
            go_ret
            exact ⟨ret_int (by rw [HBAD.out (by rw [HPS.out, G1.out, HRR.out]; rfl)]), hb2'⟩
          · have HRR := Lib.hid hr; clear hr HREL
            go_wp2_with fail
            refine (inRange_is p.2.1 _ HRR.out _).mono ?_
            rintro e w3 ⟨rfl, rfl⟩
            go_wp2
            go_round
            case rel => exact Or.inr (Or.inr (Or.inl ⟨rfl, G1.out, HRR.out⟩))
            case measure => simp [intOf]
        · have G1 := Lib.hid g1; have G2 := Lib.hid g2; clear g1 g2
          rcases (Bool.eq_false_or_eq_true (inR p.2.2)).symm with hr | hr
          · have HRR := Lib.hid hr; clear hr HREL
            go_wp2_with fail
            refine (inRange_is p.2.2 _ HRR.out _).mono ?_
            rintro e w3 ⟨rfl, rfl⟩
            go_wp2
            go_ret
            exact ⟨ret_int (by rw [HBAD.out (by rw [HPS.out, G1.out, G2.out, HRR.out]; rfl)]), hb2'⟩
          · have HRR := Lib.hid hr; clear hr HREL
            go_wp2_with fail
            refine (inRange_is p.2.2 _ HRR.out _).mono ?_
            rintro e w3 ⟨rfl, rfl⟩
            go_wp2
            go_round
            case rel => exact Or.inr (Or.inr (Or.inr ⟨rfl, G1.out, G2.out, HRR.out⟩))
            case measure => simp [intOf]
        · have G : Hid (inP p = true) := by unfold Hid; rw [HPS.out, g1, g2, g3]; rfl
          clear HREL g1 g2 g3
          go_wp2
          go_roundw
          case rel => exact ⟨k + 1, by omega, by go_num, hb2', HSN.out G.out⟩
          case measure => simp [intOf]; omega
    · obtain rfl : k = l.length := by omega
      go_wp2
      go_ret
      have ha := HA.out
      rw [List.take_length] at ha
      exact ⟨ret_int (by rw [check_ok l W V h16 HW.out HV.out ha]), hbr⟩
end Go.Proofs.Ytcipnajdbafahaa.Tk
