/- The law DiskSteps. -/
import Derived.Test.YtgcbfpimfmkbmaaDiskFlushed
import Derived.StillTailTactics
namespace Go.Proofs.Ytgcbfpimfmkbmaa.Dk
set_option linter.unusedVariables false
set_option linter.unusedSimpArgs false
open Go.RowKit Go.ChangeMaps

/-- an armed disk that is up, with so many steps left -/
structure Armed (s : DS) (r : Int) : Prop where
  armed : s.armed = true
  up : s.down = false
  steps : s.steps = r
def StepRes (s : DS) (r : Int) (x : DS × Int) : Prop := (x.2 = 17 ∧ r = 0 ∧ x.1.down = true) ∨ (x.2 = 0 ∧ r ≠ 0 ∧ Armed x.1 (r - 1)) ∨ ((x.2 = 9 ∨ x.2 = 4) ∧ Armed x.1 r)
theorem armed_step {s : DS} {r : Int} (h : Armed s r) : (r = 0 ∧ s.step.2 = false ∧ s.step.1.down = true) ∨ (r ≠ 0 ∧ s.step.2 = true ∧ Armed s.step.1 (r - 1)) := by
  obtain ⟨h1, h2, h3⟩ := h
  unfold DS.step
  rw [h1, if_pos rfl]
  by_cases h0 : s.steps = 0
  · rw [if_pos h0]; exact Or.inl ⟨by omega, rfl, rfl⟩
  · rw [if_neg h0]; exact Or.inr ⟨by omega, rfl, ⟨rfl, h2, by dsimp only; omega⟩⟩
theorem armed_flush {s : DS} {r : Int} (h : Armed s r) : StepRes s r s.flush := by
  unfold StepRes DS.flush
  rw [h.up]
  rcases armed_step h with ⟨a, b, c⟩ | ⟨a, b, c⟩
  · rw [b]; exact Or.inl ⟨rfl, a, c⟩
  · rw [b]; exact Or.inr (Or.inl ⟨rfl, a, ⟨c.armed, c.up, c.steps⟩⟩)
theorem armed_write {s : DS} {r : Int} (h : Armed s r) (i : Int) (t : ByteArray) : StepRes s r (s.write i t) := by
  by_cases hi : inB s i = true
  · by_cases ht : 64 < t.size
    · have hw : s.write i t = (s, 4) := by unfold DS.write; rw [h.up, hi]; simp [ht]
      rw [hw]
      exact Or.inr (Or.inr ⟨Or.inr rfl, h⟩)
    · rcases armed_step h with ⟨a, b, c⟩ | ⟨a, b, c⟩
      · have hw : s.write i t = (s.step.1, 17) := by unfold DS.write; rw [h.up, hi, b]; simp [ht]
        rw [hw]; exact Or.inl ⟨rfl, a, c⟩
      · have hw : s.write i t = ({ s.step.1 with pend := s.step.1.pend ++ [(i, t)] }, 0) := by unfold DS.write; rw [h.up, hi, b]; simp [ht]
        rw [hw]; exact Or.inr (Or.inl ⟨rfl, a, ⟨c.armed, c.up, c.steps⟩⟩)
  · have hw : s.write i t = (s, 9) := by unfold DS.write; rw [h.up]; simp [hi]
    rw [hw]
    exact Or.inr (Or.inr ⟨Or.inl rfl, h⟩)

set_option maxRecDepth 100000 in
set_option maxHeartbeats 4000000 in
theorem diskSteps_walk {H : Type} {de : TypeId × Value → H} {base : Nat} (w : World) (b : Int) (hb : (Lit.int .i64 b).wf = true) (sv : Int) (hsv : (Lit.int .i64 sv).wf = true) (v : Value) (d0 : DataW H) (ps : List MemPlace) (ok : Value.okWide Try.prog w .any base 38 v) (h : DataW.Trod de Try.prog w 0 (fun _ => true) true 38 v d0 ps) :
    Calls Try.prog 7 #[.int .i64 b, .int .i64 sv, v] w fun e w' => e = .returned (.bool true) ∧ Below w.heap.size w w' := by
  obtain ⟨l, hl, hok, hln⟩ := open_ops ok h
  clear ok h hb hsv
  have HL := Lib.hid hl; have HOK := Lib.hid hok; have HLN := Lib.hid hln
  unfold maxLen at hln
  obtain ⟨ad, cap, rfl, hcap, _⟩ := hl
  clear hok
  rcases (Bool.eq_false_or_eq_true (shortOf l)).symm with hsh | hsh
  · have HSH := Lib.hid hsh; clear hsh
    go_enter Try.func7, Try.ntmps7
    go_wp2_with fail
    refine (short_any _ l _ _ HL.out HLN.out HOK.out).mono ?_
    rintro e w1 ⟨rfl, rfl⟩
    rw [HSH.out]
    go_wp2_with fail
    refine (awake_any _).mono ?_
    rintro e w2 ⟨rfl, hb2⟩
    go_wp2
    go_ret
    exact ⟨rfl, hb2⟩
  have hl80 : l.length ≤ 80 := by unfold shortOf at hsh; simp at hsh; exact hsh.1
  have HSH := Lib.hid hsh; clear hsh
  by_cases hb1 : b < 1
  · have q1 : decide (b < 1) = true := by simpa using hb1
    go_enter Try.func7, Try.ntmps7
    go_wp2_with fail
    refine (short_any _ l _ _ HL.out HLN.out HOK.out).mono ?_
    rintro e w1 ⟨rfl, rfl⟩
    rw [HSH.out]
    go_wp2_with fail
    refine (awake_any _).mono ?_
    rintro e w2 ⟨rfl, hb2⟩
    go_wp2
    go_ret
    exact ⟨rfl, hb2⟩
  have q1 : decide (b < 1) = false := by simpa using hb1
  by_cases hb8 : 8 < b
  · have q2 : decide (8 < b) = true := by simpa using hb8
    go_enter Try.func7, Try.ntmps7
    go_wp2_with fail
    refine (short_any _ l _ _ HL.out HLN.out HOK.out).mono ?_
    rintro e w1 ⟨rfl, rfl⟩
    rw [HSH.out]
    go_wp2_with fail
    refine (awake_any _).mono ?_
    rintro e w2 ⟨rfl, hb2⟩
    go_wp2
    go_ret
    exact ⟨rfl, hb2⟩
  have q2 : decide (8 < b) = false := by simpa using hb8
  by_cases hs0 : sv < 0
  · have q3 : decide (sv < 0) = true := by simpa using hs0
    go_enter Try.func7, Try.ntmps7
    go_wp2_with fail
    refine (short_any _ l _ _ HL.out HLN.out HOK.out).mono ?_
    rintro e w1 ⟨rfl, rfl⟩
    rw [HSH.out]
    go_wp2_with fail
    refine (awake_any _).mono ?_
    rintro e w2 ⟨rfl, hb2⟩
    go_wp2
    go_ret
    exact ⟨rfl, hb2⟩
  have q3 : decide (sv < 0) = false := by simpa using hs0
  by_cases hs1 : 100 < sv
  · have q4 : decide (100 < sv) = true := by simpa using hs1
    go_enter Try.func7, Try.ntmps7
    go_wp2_with fail
    refine (short_any _ l _ _ HL.out HLN.out HOK.out).mono ?_
    rintro e w1 ⟨rfl, rfl⟩
    rw [HSH.out]
    go_wp2_with fail
    refine (awake_any _).mono ?_
    rintro e w2 ⟨rfl, hb2⟩
    go_wp2
    go_ret
    exact ⟨rfl, hb2⟩
  have q4 : decide (100 < sv) = false := by simpa using hs1
  obtain ⟨m, rfl⟩ : ∃ m : Nat, b = (m : Int) := ⟨b.toNat, by omega⟩
  obtain ⟨st, rfl⟩ : ∃ st : Nat, sv = (st : Int) := ⟨sv.toNat, by omega⟩
  have hm1 : 1 ≤ m := by omega
  have hm2 : m ≤ 8 := by omega
  have hst : st ≤ 100 := by omega
  have HAR : Hid ((DS.new m).arm st 0 = ({ (DS.new m) with armed := true, steps := (st : Int), mask := 0 }, 0)) := by
    unfold Hid DS.arm; rw [show (DS.new m).down = false from rfl, if_neg (by simp), if_pos (by omega)]; rfl
  go_enter Try.func7, Try.ntmps7
  go_wp2_with fail
  refine (short_any _ l _ _ HL.out HLN.out HOK.out).mono ?_
  rintro e w1 ⟨rfl, rfl⟩
  rw [HSH.out]
  go_wp2_with fail
  refine (ses_new m hm1 (by omega) _).mono ?_
  rintro e w1 ⟨d, rfl, hs, hbw1⟩
  have HS := Lib.hid hs; have HB1 := Lib.hid hbw1
  clear hs hbw1
  go_wp2_with fail
  refine (ses_arm HS.out (st : Int) 0 (by omega)).mono ?_
  rintro e w2 ⟨rfl, hs2, hk2⟩
  rw [HAR.out] at hs2 ⊢
  have HS2 := Lib.hid hs2
  have HB2 := Lib.hid (HB1.out.trans (fr_below hk2 HB1.out.size))
  have HA2 : Hid (Armed ({ (DS.new m) with armed := true, steps := (st : Int), mask := 0 }, (0 : Int)).1 ((st : Int) - ((0 : Nat) : Int))) := Lib.hid ⟨rfl, rfl, by simp⟩
  clear hs2 hk2
  dsimp only
  generalize ({ (DS.new m) with armed := true, steps := (st : Int), mask := 0 } : DS) = s0 at *
  dsimp only at HS2 HA2
  go_wp2
  go_loopw [9, 10] (fun mv i wr => ∃ (k a : Nat) (s : DS), i = .int .i64 k ∧ mv = .int .i64 a ∧ k ≤ l.length ∧ a ≤ k ∧ a ≤ st ∧ Ses w.heap.size (fun _ => False) wr d (k + 1) s ∧ Armed s ((st : Int) - (a : Int)) ∧ Below w.heap.size w wr) (fun _ i _ => l.length - (intOf i).toNat)
  case atStart => exact ⟨0, 0, s0, rfl, rfl, by omega, by omega, by omega, HS2.out, HA2.out, HB2.out⟩
  case round =>
    obtain ⟨k, a, s, rfl, rfl, hk, hak, hast, hs, har, hbr⟩ := hrel
    have HSS := Lib.hid hs; have HAS := Lib.hid har
    clear hs har HS2 HA2 HB2
    by_cases hlt : k < l.length
    · obtain ⟨bl0, ol0, cap', hv, hbl0, c0, c1, c2, c3⟩ := sl_op (HL.out.below hbr (Nat.le_refl _)) k hlt
      obtain rfl : ad = some ⟨bl0, ol0, none⟩ := (Value.slice.inj hv).1
      have HOO := Lib.hid (HOK.out l[k] (List.getElem_mem _))
      generalize l[k] = o at *
      obtain ⟨o1, o2, o3, o4⟩ := o
      dsimp only at c0 c1 c2 c3
      have i1 : (0 : Int) ≤ (k : Int) := by omega
      have i2 : (k : Int) < (l.length : Int) := by omega
      clear hv c3
      go_wp2_with fail
      refine (ses_read HSS.out o2).mono ?_
      rintro e w4 ⟨rfl, rfl⟩
      generalize s.read o2 = rd at *
      obtain ⟨rd1, rd2⟩ := rd
      by_cases ho1 : o1 = 1
      · subst ho1
        have HRES := Lib.hid (armed_flush HAS.out)
        go_wp2_with fail
        clear c0 c1 c2
        refine (ses_flush HSS.out (by omega)).mono ?_
        rintro e w5 ⟨rfl, hs5, hk5⟩
        have HS5 := Lib.hid hs5
        have hb5 := hbr.trans (fr_below hk5 hbr.size)
        clear hs5 hk5
        rcases HRES.out with ⟨e1, e2, e3⟩ | ⟨e1, e2, e3⟩ | ⟨e1, e3⟩
        · rw [e1]
          have hae : a = st := by omega
          subst hae
          have HE3 := Lib.hid e3
          clear e1 e2 e3
          go_wp2_with fail
          refine (ses_down HS5.out).mono ?_
          rintro e w6 ⟨rfl, rfl⟩
          rw [HE3.out]
          go_wp2_with fail
          refine (awake_any _).mono ?_
          rintro e w6 ⟨rfl, hb6⟩
          go_wp2
          go_ret
          exact ⟨rfl, chainB hb5 hb6⟩
        · rw [e1]
          have HUP := Lib.hid e3.up
          have hsub : (st : Int) - (a : Int) - 1 = (st : Int) - ((a + 1 : Nat) : Int) := by omega
          rw [hsub] at e3
          have HA5 := Lib.hid e3
          clear hsub
          have hlt2 : a + 1 ≤ st := by omega
          have q5 : decide ((st : Int) < (a : Int) + 1) = false := by simp; omega
          clear e1 e2 e3
          go_wp2_with fail
          refine (ses_down HS5.out).mono ?_
          rintro e w6 ⟨rfl, rfl⟩
          rw [HUP.out]
          go_wp2
          go_roundw
          case rel => exact ⟨k + 1, a + 1, _, by go_num, by go_num, by omega, by omega, by omega, HS5.out, HA5.out, hb5⟩
          case measure => simp [intOf]; omega
        · have HUP := Lib.hid e3.up
          have HA5 := Lib.hid e3
          have q5 : decide ((st : Int) < (a : Int)) = false := by simp; omega
          have q5' : decide (st < a) = false := by simp; omega
          rcases e1 with e1 | e1
          all_goals
            rw [e1]
            clear e1 e3
            go_wp2_with fail
            refine (ses_down HS5.out).mono ?_
            rintro e w6 ⟨rfl, rfl⟩
            rw [HUP.out]
            go_wp2
            go_roundw
            case rel => exact ⟨k + 1, a, _, by go_num, rfl, by omega, by omega, by omega, HS5.out, HA5.out, hb5⟩
            case measure => simp [intOf]; omega
      · have q0 : (o1 == 1) = false := by simpa using ho1
        have HRES := Lib.hid (armed_write HAS.out o2 o3)
        go_wp2
        go_still_tail 11, (by kernel_rfl)
        change wpList _ _ _ _ _ wr.drew
        have HSD := Lib.hid (HSS.out.below (Below.drew (Below.refl _ _)))
        replace hbr : Below w.heap.size w wr.drew := hbr.drew
        clear HSS
        generalize wr.drew = w4 at *
        go_wp2_with fail
        clear c0 c1 c2
        refine (ses_write HSD.out (by omega) o2 o3 HOO.out.1).mono ?_
        rintro e w5 ⟨rfl, hs5, hk5⟩
        have HS5 := Lib.hid hs5
        have hb5 := hbr.trans (fr_below hk5 hbr.size)
        clear hs5 hk5
        rcases HRES.out with ⟨e1, e2, e3⟩ | ⟨e1, e2, e3⟩ | ⟨e1, e3⟩
        · rw [e1]
          have hae : a = st := by omega
          subst hae
          have HE3 := Lib.hid e3
          clear e1 e2 e3
          go_wp2_with fail
          refine (ses_down HS5.out).mono ?_
          rintro e w6 ⟨rfl, rfl⟩
          rw [HE3.out]
          go_wp2_with fail
          refine (awake_any _).mono ?_
          rintro e w6 ⟨rfl, hb6⟩
          go_wp2
          go_ret
          exact ⟨rfl, chainB hb5 hb6⟩
        · rw [e1]
          have HUP := Lib.hid e3.up
          have hsub : (st : Int) - (a : Int) - 1 = (st : Int) - ((a + 1 : Nat) : Int) := by omega
          rw [hsub] at e3
          have HA5 := Lib.hid e3
          clear hsub
          have hlt2 : a + 1 ≤ st := by omega
          have q5 : decide ((st : Int) < (a : Int) + 1) = false := by simp; omega
          clear e1 e2 e3
          go_wp2_with fail
          refine (ses_down HS5.out).mono ?_
          rintro e w6 ⟨rfl, rfl⟩
          rw [HUP.out]
          go_wp2
          go_roundw
          case rel => exact ⟨k + 1, a + 1, _, by go_num, by go_num, by omega, by omega, by omega, HS5.out, HA5.out, hb5⟩
          case measure => simp [intOf]; omega
        · have HUP := Lib.hid e3.up
          have HA5 := Lib.hid e3
          have q5 : decide ((st : Int) < (a : Int)) = false := by simp; omega
          have q5' : decide (st < a) = false := by simp; omega
          rcases e1 with e1 | e1
          all_goals
            rw [e1]
            clear e1 e3
            go_wp2_with fail
            refine (ses_down HS5.out).mono ?_
            rintro e w6 ⟨rfl, rfl⟩
            rw [HUP.out]
            go_wp2
            go_roundw
            case rel => exact ⟨k + 1, a, _, by go_num, rfl, by omega, by omega, by omega, HS5.out, HA5.out, hb5⟩
            case measure => simp [intOf]; omega
    · obtain rfl : k = l.length := by omega
      go_wp2_with fail
      refine (awake_any _).mono ?_
      rintro e w4 ⟨rfl, hb4⟩
      go_wp2
      go_ret
      exact ⟨rfl, chainB hbr hb4⟩
end Go.Proofs.Ytgcbfpimfmkbmaa.Dk
