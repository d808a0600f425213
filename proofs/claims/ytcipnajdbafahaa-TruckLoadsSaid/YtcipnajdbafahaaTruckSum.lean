/- The walks of Sum and of the reference's Check, plus, Sum. -/
import Derived.Test.YtcipnajdbafahaaTruckCheck
import Derived.RegionTactic
import Derived.Deep.RegionHeld3
namespace Go.Proofs.Ytcipnajdbafahaa.Tk
set_option linter.unusedVariables false
set_option linter.unusedSimpArgs false
open Go.RowKit

set_option maxRecDepth 100000 in
set_option maxHeartbeats 1000000 in
theorem rcheck_any (v : Value) (l : List Par) (W V : Int) (w : World) (hl : Kit.Sl 3 parEnc w w.heap.size v l) (hn : l.length ≤ 1000000) :
    Calls Try.prog 13 #[v, .int .i64 W, .int .i64 V] w fun e w' => e = .returned (.int .i64 (checkOf l W V)) ∧ w = w' := by
  have hl' := hl
  obtain ⟨ad, cap, rfl, hcap, _⟩ := hl
  by_cases h16 : 16 < l.length
  · go_enter Try.func13, Try.ntmps13
    go_wp2
    go_ret
    exact ⟨ret_int (by unfold checkOf; rw [if_pos h16]), rfl⟩
  have b16 : decide (16 < l.length) = false := by simp; omega
  by_cases hW : inR W = false
  · go_enter Try.func13, Try.ntmps13
    go_wp2_with (go_at_call 25; refine (ranged_is W _ hW _).mono ?_; rintro e w1 ⟨rfl, rfl⟩)
    go_ret
    exact ⟨ret_int (by unfold checkOf; rw [if_neg h16, hW]; rfl), rfl⟩
  have hW : inR W = true := by simpa using hW
  by_cases hV : inR V = false
  · go_enter Try.func13, Try.ntmps13
    go_wp2_with fail
    refine (ranged_is W _ hW _).mono ?_
    rintro e w1 ⟨rfl, rfl⟩
    go_wp2_with fail
    refine (ranged_is V _ hV _).mono ?_
    rintro e w1 ⟨rfl, rfl⟩
    go_wp2
    go_ret
    exact ⟨ret_int (by unfold checkOf; rw [if_neg h16, hW, hV]; rfl), rfl⟩
  have hV : inR V = true := by simpa using hV
  have HW := Lib.hid hW; clear hW
  have HV := Lib.hid hV; clear hV
  have HC := Lib.hid hl'; clear hl'
  go_enter Try.func13, Try.ntmps13
  go_wp2_with fail
  refine (ranged_is W _ HW.out _).mono ?_
  rintro e w1 ⟨rfl, rfl⟩
  go_wp2_with fail
  refine (ranged_is V _ HV.out _).mono ?_
  rintro e w1 ⟨rfl, rfl⟩
  go_wp2
  clear b16
  go_loop [7] (fun i => ∃ k : Nat, k ≤ l.length ∧ i = .int .i64 k ∧ (l.take k).all inP = true) (fun i => l.length - (intOf i).toNat)
  case atStart => exact ⟨0, by omega, rfl, rfl⟩
  case round =>
    obtain ⟨k, hk, rfl, hall⟩ := hrel
    have HA := Lib.hid hall; clear hall
    by_cases hlt : k < l.length
    · obtain ⟨b, off, ⟨cap', hv⟩, hbl, c0, c1, c2⟩ := sl3 HC.out k hlt
      have hv' : ad = some ⟨b, off, none⟩ := by simpa using congrArg (fun v => match v with | Value.slice a _ _ => a | _ => none) hv
      subst hv'
      clear hv
      have HBAD := Lib.hid (check_bad l W V k hlt h16 HW.out HV.out)
      have HSN := Lib.hid (all_snoc l k hlt HA.out)
      have hps : ∀ p : Par, inP p = (inR p.1 && inR p.2.1 && inR p.2.2) := fun _ => rfl
      have HPS := Lib.hid (hps l[k]); clear hps
      generalize l[k] = p at *
      rcases (Bool.eq_false_or_eq_true (inR p.1)).symm with hr | hr
      · have HRR := Lib.hid hr; clear hr
        go_wp2_with fail
        refine (ranged_is p.1 _ HRR.out _).mono ?_
        rintro e w3 ⟨rfl, rfl⟩
        go_wp2
        go_ret
        exact ⟨ret_int (by rw [HBAD.out (by rw [HPS.out, HRR.out]; rfl)]), rfl⟩
      · have G1 := Lib.hid hr; clear hr
        rcases (Bool.eq_false_or_eq_true (inR p.2.1)).symm with hr | hr
        · have HRR := Lib.hid hr; clear hr
          go_wp2_with fail
          refine (ranged_is p.1 _ G1.out _).mono ?_
          rintro e w3 ⟨rfl, rfl⟩
          go_wp2_with fail
          refine (ranged_is p.2.1 _ HRR.out _).mono ?_
          rintro e w3 ⟨rfl, rfl⟩
          go_wp2
          go_ret
          exact ⟨ret_int (by rw [HBAD.out (by rw [HPS.out, G1.out, HRR.out]; rfl)]), rfl⟩
        · have G2 := Lib.hid hr; clear hr
          rcases (Bool.eq_false_or_eq_true (inR p.2.2)).symm with hr | hr
          · have HRR := Lib.hid hr; clear hr
            go_wp2_with fail
            refine (ranged_is p.1 _ G1.out _).mono ?_
            rintro e w3 ⟨rfl, rfl⟩
            go_wp2_with fail
            refine (ranged_is p.2.1 _ G2.out _).mono ?_
            rintro e w3 ⟨rfl, rfl⟩
            go_wp2_with fail
            refine (ranged_is p.2.2 _ HRR.out _).mono ?_
            rintro e w3 ⟨rfl, rfl⟩
            go_wp2
            go_ret
            exact ⟨ret_int (by rw [HBAD.out (by rw [HPS.out, G1.out, G2.out, HRR.out]; rfl)]), rfl⟩
          · have HRR := Lib.hid hr; clear hr
            go_wp2_with fail
            refine (ranged_is p.1 _ G1.out _).mono ?_
            rintro e w3 ⟨rfl, rfl⟩
            go_wp2_with fail
            refine (ranged_is p.2.1 _ G2.out _).mono ?_
            rintro e w3 ⟨rfl, rfl⟩
            go_wp2_with fail
            refine (ranged_is p.2.2 _ HRR.out _).mono ?_
            rintro e w3 ⟨rfl, rfl⟩
            go_wp2
            go_round
            case rel => exact ⟨k + 1, by omega, by go_num, HSN.out (by rw [HPS.out, G1.out, G2.out, HRR.out]; rfl)⟩
            case measure => simp [intOf]; omega
    · obtain rfl : k = l.length := by omega
      go_wp2
      go_ret
      have ha := HA.out
      rw [List.take_length] at ha
      exact ⟨ret_int (by rw [check_ok l W V h16 HW.out HV.out ha]), rfl⟩

theorem plus_any (a b : Par) (w : World) (ha : Small 1000000000000000 a) (hb : Small 1000000000000000 b) :
    Calls Try.prog 22 #[.agg #[.int .i64 a.1, .int .i64 a.2.1, .int .i64 a.2.2], .agg #[.int .i64 b.1, .int .i64 b.2.1, .int .i64 b.2.2]] w fun e w' => e = .returned (.agg #[.int .i64 (addP a b).1, .int .i64 (addP a b).2.1, .int .i64 (addP a b).2.2]) ∧ Below w.heap.size w w' := by
  obtain ⟨a1, a2, a3, a4, a5, a6⟩ := ha
  obtain ⟨b1, b2, b3, b4, b5, b6⟩ := hb
  go_enter Try.func22, Try.ntmps22
  go_wp2
  exact bodyPost_ret (v := .agg #[.int .i64 (a.1 + b.1), .int .i64 (a.2.1 + b.2.1), .int .i64 (a.2.2 + b.2.2)]) (by simp [results, Try.results22, go_sem]) rfl ⟨rfl, (((Below.refl _ _).alloc (Nat.le_refl _) _).alloc (by simp) _).alloc (by simp; omega) _⟩

set_option maxRecDepth 100000 in
set_option maxHeartbeats 1000000 in
theorem sum_any (v u : Value) (l : List Par) (q : List Int) (w : World) (hl : Kit.Sl 3 parEnc w w.heap.size v l) (hn : l.length ≤ 1000000) (hq : Kit.Sl 1 intEnc w w.heap.size u q) (hm : q.length ≤ 1000000) :
    Calls Try.prog 10 #[v, u] w fun e w' => e = .returned (.tuple #[.agg #[.int .i64 (sumOf l q).1.1, .int .i64 (sumOf l q).1.2.1, .int .i64 (sumOf l q).1.2.2], .int .i64 (sumOf l q).2]) ∧ Below w.heap.size w w' := by
  have hl' := hl
  have hq' := hq
  obtain ⟨ad, cap, rfl, hcap, _⟩ := hl
  obtain ⟨ad2, cap2, rfl, hcap2, _⟩ := hq
  by_cases hc : checkOf l 0 0 = 0
  · have hcz := check_zero hc
    have hsum : sumOf l q = sumGo l q (-1) (0, 0, 0) := by unfold sumOf; rw [if_pos hc]
    rw [hsum]
    have HCZ := Lib.hid hcz; clear hcz hsum
    have HCC := Lib.hid hc; clear hc
    have HL := Lib.hid hl'; clear hl'
    have HQ := Lib.hid hq'; clear hq'
    go_enter Try.func10, Try.ntmps10
    go_wp2_with fail
    refine (check_any _ l 0 0 _ (HL.out.below ((Below.refl _ _).alloc (Nat.le_refl _) _) (Nat.le_refl _) |>.mono (by simp)) hn).mono ?_
    rintro e w1 ⟨rfl, hb1⟩
    rw [HCC.out]
    have hsz1 := hb1.size
    have hg0 : w.heap.size < w1.heap.size := by simp at hsz1; omega
    have hbw1 : Below w.heap.size w w1 := ((Below.refl _ _).alloc (Nat.le_refl _) _).trans (hb1.mono (by simp))
    have HB0 : Hid (w1.heap[w.heap.size]? = some (.cells #[.int .i64 0, .int .i64 0, .int .i64 0] 28 (0, 0))) := by
      unfold Hid; rw [hb1.block _ (by simp)]; exact blk_new _ _ _
    clear hb1 hsz1
    go_wp2
    go_loopw [8, 19] (fun la i wr => ∃ k : Nat, ∃ last : Int, ∃ s : Par, k ≤ q.length ∧ i = .int .i64 k ∧ la = .int .i64 last ∧ -1 ≤ last ∧ last < (l.length : Int) ∧ Small ((last + 1) * 1000000000000) s ∧ sumGo l q (-1) (0, 0, 0) = sumGo l (q.drop k) last s ∧ Below w.heap.size w wr ∧ wr.heap[w.heap.size]? = some (.cells #[.int .i64 0, .int .i64 0, .int .i64 0] 28 (0, 0)) ∧ wr.heap[w1.heap.size]? = some (.cells #[.int .i64 s.1, .int .i64 s.2.1, .int .i64 s.2.2] 28 (0, 0))) (fun _ i _ => q.length - (intOf i).toNat)
    case atStart => exact ⟨0, -1, (0, 0, 0), by omega, rfl, rfl, by omega, by omega, ⟨by simp, by simp, by simp, by simp, by simp, by simp⟩, rfl, hbw1.alloc (by omega) _, by rw [Below.heap_alloc _ _ _ hg0]; exact HB0.out, blk_new _ _ _⟩
    case round =>
      obtain ⟨k, last, s, hk, rfl, rfl, hlo, hhi, hsm, hgo, hbr, hB0, hB1⟩ := hrel
      obtain ⟨r0, r1, r2, rf⟩ := blk3 hB0
      obtain ⟨s0, s1, s2, sf⟩ := blk3 hB1
      have RF := Lib.hid rf; have SF := Lib.hid sf
      have f0 := rf 0; have f1 := rf 1; have f2 := rf 2
      have f3 := sf 0; have f4 := sf 1; have f5 := sf 2
      have HGO := Lib.hid hgo
      have HSM := Lib.hid hsm
      have H0 := Lib.hid hB0; have H1 := Lib.hid hB1
      clear hgo hsm hB0 hB1 rf sf
      by_cases hlt : k < q.length
      · obtain ⟨b, off, ⟨cap', hv⟩, hbl, c0⟩ := sl1 HQ.out k hlt
        have hv' : ad2 = some ⟨b, off, none⟩ := by simpa using congrArg (fun v => match v with | Value.slice a _ _ => a | _ => none) hv
        subst hv'
        clear hv
        rw [← hbr.cell (p := ⟨b, off + k, none⟩) hbl] at c0
        have HD := Lib.hid (drop_cons q k hlt)
        generalize q[k] = i at *
        by_cases hi : i < 0 ∨ (l.length : Int) ≤ i
        · have HR := Lib.hid (sumGo_low l i (q.drop (k + 1)) last s hi)
          have HE : Hid (sumGo l q (-1) (0, 0, 0) = ((0, 0, 0), 9)) := by unfold Hid; rw [HGO.out, HD.out, HR.out]
          have HI := Lib.hid hi
          rcases HI.out with h | h
          all_goals
            clear hi HI
            go_wp2
            exact bodyPost_ret (v := .tuple #[.agg #[.int .i64 0, .int .i64 0, .int .i64 0], .int .i64 9]) (by simp [results, Try.results10, go_sem, r0, r1, r2]) rfl ⟨by rw [HE.out], ((hbr.setCell (p := ⟨w.heap.size, 0, none⟩) (Nat.le_refl _) _).setCell (p := ⟨w.heap.size, 1, none⟩) (Nat.le_refl _) _).setCell (p := ⟨w.heap.size, 2, none⟩) (Nat.le_refl _) _⟩
        · by_cases hi2 : i ≤ last
          · have HR := Lib.hid (sumGo_ord l i (q.drop (k + 1)) last s hi hi2)
            have HE : Hid (sumGo l q (-1) (0, 0, 0) = ((0, 0, 0), 11)) := by unfold Hid; rw [HGO.out, HD.out, HR.out]
            have i1 : 0 ≤ i := by omega
            have i2 : i < (l.length : Int) := by omega
            have i3 : decide (i < 0) = false := by simp; omega
            clear hi
            go_wp2
            exact bodyPost_ret (v := .tuple #[.agg #[.int .i64 0, .int .i64 0, .int .i64 0], .int .i64 11]) (by simp [results, Try.results10, go_sem, r0, r1, r2]) rfl ⟨by rw [HE.out], ((hbr.setCell (p := ⟨w.heap.size, 0, none⟩) (Nat.le_refl _) _).setCell (p := ⟨w.heap.size, 1, none⟩) (Nat.le_refl _) _).setCell (p := ⟨w.heap.size, 2, none⟩) (Nat.le_refl _) _⟩
          · obtain ⟨m, rfl⟩ := Int.eq_ofNat_of_zero_le (by omega : 0 ≤ i)
            have hml : m < l.length := by omega
            have hm2 : last < (m : Int) := by omega
            have HR := Lib.hid (sumGo_go l m (q.drop (k + 1)) last s hml hm2)
            have HE : Hid (sumGo l q (-1) (0, 0, 0) = sumGo l (q.drop (k + 1)) m (addP s l[m])) := by unfold Hid; rw [HGO.out, HD.out, HR.out]
            have HPS := small_at HCZ.out.2.2.2 m hml
            have HSA := Lib.hid (small_add hm2 hlo HSM.out HPS)
            have h16 := HCZ.out.1
            obtain ⟨b', off', ⟨cap'', hv⟩, hbl', d0, d1, d2⟩ := sl3 HL.out m hml
            have hv' : ad = some ⟨b', off', none⟩ := by simpa using congrArg (fun v => match v with | Value.slice a _ _ => a | _ => none) hv
            subst hv'
            clear hv hi hi2
            rw [← hbr.cell (p := ⟨b', off' + m * 3, none⟩) hbl'] at d0
            rw [← hbr.cell (p := ⟨b', off' + m * 3 + 1, none⟩) hbl'] at d1
            rw [← hbr.cell (p := ⟨b', off' + m * 3 + 2, none⟩) hbl'] at d2
            generalize l[m] = p at *
            obtain ⟨a1, a2, a3, a4, a5, a6⟩ := HSM.out
            obtain ⟨b1, b2, b3, b4, b5, b6⟩ := HPS
            have t1 : s.1 ≤ 16000000000000 := by omega
            have t2 : s.2.1 ≤ 16000000000000 := by omega
            have t3 : s.2.2 ≤ 16000000000000 := by omega
            clear a2 a4 a6
            have hne : b' ≠ w1.heap.size := by omega
            have hne2 : w.heap.size ≠ w1.heap.size := by omega
            have i3 : decide ((m : Int) < 0) = false := by simp
            go_wp2
            go_region
            go_wp2
            go_region
            go_wp2
            go_region
            go_wp2
            go_roundw
            case rel =>
              refine ⟨k + 1, m, addP s p, by omega, by go_num, rfl, by omega, by omega, HSA.out, HE.out, ?_, ?_, ?_⟩
              · exact (((((hbr.setCell (p := ⟨w1.heap.size, 0, none⟩) (by show w.heap.size ≤ w1.heap.size; omega) _).drew).setCell (p := ⟨w1.heap.size, 1, none⟩) (by show w.heap.size ≤ w1.heap.size; omega) _).drew).setCell (p := ⟨w1.heap.size, 2, none⟩) (by show w.heap.size ≤ w1.heap.size; omega) _).drew
              · rw [blk_drew, blk_drew, blk_drew, blk_other hne2, blk_other hne2, blk_other hne2]; exact H0.out
              · rw [blk_drew, blk_drew, blk_drew]; exact blk_set (blk_set (blk_set H1.out 0 _) 1 _) 2 _
            case measure => simp [intOf]; omega
      · obtain rfl : k = q.length := by omega
        have HE : Hid (sumGo l q (-1) (0, 0, 0) = (s, 0)) := by unfold Hid; rw [HGO.out, List.drop_length]; rfl
        have hne2 : w.heap.size ≠ w1.heap.size := by omega
        go_wp2
        exact bodyPost_ret (v := .tuple #[.agg #[.int .i64 s.1, .int .i64 s.2.1, .int .i64 s.2.2], .int .i64 0]) (by simp [results, Try.results10, go_sem, r0, r1, r2]) rfl ⟨by rw [HE.out], ((hbr.setCell (p := ⟨w.heap.size, 0, none⟩) (Nat.le_refl _) _).setCell (p := ⟨w.heap.size, 1, none⟩) (Nat.le_refl _) _).setCell (p := ⟨w.heap.size, 2, none⟩) (Nat.le_refl _) _⟩
  · have hsum : sumOf l q = ((0, 0, 0), checkOf l 0 0) := by unfold sumOf; rw [if_neg hc]
    rw [hsum]
    have HL := Lib.hid hl'; clear hl'
    have hc1 : (checkOf l 0 0 != 0) = true := by simp [hc]
    clear hsum hc hq'
    generalize hcc : checkOf l 0 0 = c at *
    have HCC := Lib.hid hcc; clear hcc
    go_enter Try.func10, Try.ntmps10
    go_wp2_with fail
    refine (check_any _ l 0 0 _ (HL.out.below ((Below.refl _ _).alloc (Nat.le_refl _) _) (Nat.le_refl _) |>.mono (by simp)) hn).mono ?_
    rintro e w1 ⟨rfl, hb1⟩
    rw [HCC.out]
    have hB0 : w1.heap[w.heap.size]? = some (.cells #[.int .i64 0, .int .i64 0, .int .i64 0] 28 (0, 0)) := by
      rw [hb1.block _ (by simp)]; exact blk_new _ _ _
    have hbw1 : Below w.heap.size w w1 := ((Below.refl _ _).alloc (Nat.le_refl _) _).trans (hb1.mono (by simp))
    obtain ⟨r0, r1, r2, rf⟩ := blk3 hB0
    have f0 := rf 0; have f1 := rf 1; have f2 := rf 2
    clear hB0 rf hb1
    go_wp2
    exact bodyPost_ret (v := .tuple #[.agg #[.int .i64 0, .int .i64 0, .int .i64 0], .int .i64 c]) (by simp [results, Try.results10, go_sem, r0, r1, r2]) rfl ⟨rfl, ((hbw1.setCell (p := ⟨w.heap.size, 0, none⟩) (Nat.le_refl _) _).setCell (p := ⟨w.heap.size, 1, none⟩) (Nat.le_refl _) _).setCell (p := ⟨w.heap.size, 2, none⟩) (Nat.le_refl _) _⟩
end Go.Proofs.Ytcipnajdbafahaa.Tk
