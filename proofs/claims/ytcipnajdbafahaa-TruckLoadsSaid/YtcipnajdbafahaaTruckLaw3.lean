/- The law TruckBests. -/
import Derived.Test.YtcipnajdbafahaaTruckLaw1
import Derived.Test.YtcipnajdbafahaaTruckRBest
namespace Go.Proofs.Ytcipnajdbafahaa.Tk
set_option linter.unusedVariables false
set_option linter.unusedSimpArgs false
open Go.RowKit

def fewOf (n : Nat) : Bool := decide (n ≤ 12) || (decide (16 < n) && decide (n ≤ 40))
set_option maxRecDepth 100000 in
set_option maxHeartbeats 1000000 in
theorem few_any (ad : Option Addr) (cap : Nat) (W V : Int) (n : Nat) (w : World) (hn : n ≤ 9223372036854775807) :
    Calls Try.prog 14 #[.agg #[.slice ad n cap, .int .i64 W, .int .i64 V]] w fun e w' => e = .returned (.bool (fewOf n)) ∧ Below w.heap.size w w' := by
  have HF : Hid (fewOf n = (decide (n ≤ 12) || (decide (16 < n) && decide (n ≤ 40)))) := Lib.hid rfl
  by_cases h1 : n ≤ 12
  · have HR : Hid (fewOf n = true) := by unfold Hid; rw [HF.out]; simp [h1]
    go_enter Try.func14, Try.ntmps14
    go_wp2
    go_ret
    exact ⟨by rw [HR.out]; rfl, newB _ _⟩
  · by_cases h2 : 16 < n
    · by_cases h3 : n ≤ 40
      · have HR : Hid (fewOf n = true) := by unfold Hid; rw [HF.out]; simp [h2, h3]
        have b1 : decide ((n : Int) ≤ 12) = false := by simp; omega
        have b3 : decide ((n : Int) ≤ 40) = true := by simp; omega
        go_enter Try.func14, Try.ntmps14
        go_wp2
        go_ret
        exact ⟨by rw [HR.out]; rfl, newB _ _⟩
      · have HR : Hid (fewOf n = false) := by unfold Hid; rw [HF.out]; simp [h1, h3]
        have b1 : decide ((n : Int) ≤ 12) = false := by simp; omega
        have b3 : decide ((n : Int) ≤ 40) = false := by simp; omega
        go_enter Try.func14, Try.ntmps14
        go_wp2
        go_ret
        exact ⟨by rw [HR.out]; rfl, newB _ _⟩
    · have HR : Hid (fewOf n = false) := by unfold Hid; rw [HF.out]; simp [h1, h2]
      have b1 : decide ((n : Int) ≤ 12) = false := by simp; omega
      have b2 : decide ((16 : Int) < (n : Int)) = false := by simp; omega
      go_enter Try.func14, Try.ntmps14
      go_wp2
      go_ret
      exact ⟨by rw [HR.out]; rfl, newB _ _⟩

theorem bestRes_len (l : List Par) (W V : Int) (_ : l.length ≤ 1000000) : (bestRes l W V).1.length ≤ 1000000 := by
  unfold bestRes
  split
  · rename_i hc
    obtain ⟨z1, z2, z3, z4⟩ := check_zero hc
    have := (bestOf_isBest (good_of_all z4) (inR_true z2).1 (inR_true z3).1).1.len (Nat.zero_le _)
    simp; omega
  · simp
set_option maxRecDepth 100000 in
set_option maxHeartbeats 4000000 in
theorem truckBests_walk {H : Type} {de : TypeId × Value → H} {base : Nat} (w : World) (v : Value) (d : DataW H) (ps : List MemPlace) (ok : Value.okWide Try.prog w .any base 24 v) (h : DataW.Trod de Try.prog w 0 (fun _ => true) true 24 v d ps) :
    Calls Try.prog 4 #[v] w fun e w' => e = .returned (.bool true) ∧ Below w.heap.size w w' := by
  obtain ⟨pv, W, V, l, rfl, hl, hlm, hW, hV⟩ := open_truck ok h
  clear ok h
  unfold maxLen at hlm
  have HPL := Lib.hid hl
  obtain ⟨ad, cap, rfl, hcap, _⟩ := hl
  rcases (Bool.eq_false_or_eq_true (fewOf l.length)).symm with hfew | hfew
  · have HFW := Lib.hid hfew; clear hfew
    go_enter Try.func4, Try.ntmps4
    go_wp2_with fail
    refine (few_any _ _ _ _ _ _ (by omega)).mono ?_
    rintro e w1 ⟨rfl, hb1⟩
    rw [HFW.out]
    go_wp2_with fail
    refine (awake_any _).mono ?_
    rintro e w2 ⟨rfl, hb2⟩
    go_wp2
    go_ret
    exact ⟨rfl, chainB (chainB (newB _ _) hb1) hb2⟩
  · have hl40 : l.length ≤ 40 := by
      unfold fewOf at hfew; simp at hfew; omega
    have HFW := Lib.hid hfew; clear hfew
    go_enter Try.func4, Try.ntmps4
    have hA := newB w (.cells #[.slice ad l.length cap, .int .i64 W, .int .i64 V] 24)
    have HP := Lib.hid (slKeep hA HPL.out)
    have HX := Lib.hid (blk_new w #[.slice ad l.length cap, .int .i64 W, .int .i64 V] 24)
    obtain ⟨hxc0, hxc1, hxc2, hxf⟩ := blk3 HX.out
    clear hxf
    go_wp2_with fail
    clear hxc0 hxc1 hxc2
    refine (few_any _ _ _ _ _ _ (by omega)).mono ?_
    rintro e w0 ⟨rfl, hb0⟩
    replace HP := Lib.hid (slKeep hb0 HP.out)
    replace HX := Lib.hid (keepBlk hb0 HX.out)
    rw [HFW.out]
    have hbw0 := chainB hA hb0
    clear hA hb0
    obtain ⟨hxc0, hxc1, hxc2, hxf⟩ := blk3 HX.out
    clear hxf
    go_wp2_with fail
    clear hxc0 hxc1 hxc2
    refine (best_any _ l W V _ HP.out (by omega)).mono ?_
    rintro e w1 ⟨av, rfl, hav, hb1⟩
    replace HP := Lib.hid (slKeep hb1 HP.out)
    replace HX := Lib.hid (keepBlk hb1 HX.out)
    have hbw1 := chainB hbw0 hb1
    clear hbw0 hb1
    have HAV := Lib.hid (hav)
    clear hav
    obtain ⟨hxc0, hxc1, hxc2, hxf⟩ := blk3 HX.out
    clear hxf
    go_wp2_with fail
    clear hxc0 hxc1 hxc2
    refine (refBest_any _ l W V _ HP.out (by omega)).mono ?_
    rintro e w2 ⟨bv, rfl, hbv, hb2⟩
    replace HP := Lib.hid (slKeep hb2 HP.out)
    replace HX := Lib.hid (keepBlk hb2 HX.out)
    replace HAV := Lib.hid (slKeep hb2 HAV.out)
    have hbw2 := chainB hbw1 hb2
    clear hbw1 hb2
    have HBV := Lib.hid (hbv)
    clear hbv
    generalize hbr : bestRes l W V = br at *
    obtain ⟨bl, bc⟩ := br
    have HLN : Hid (bl.length ≤ 1000000) := Lib.hid (by have := bestRes_len l W V (by omega); rw [hbr] at this; exact this)
    clear hbr
    obtain ⟨hxc0, hxc1, hxc2, hxf⟩ := blk3 HX.out
    clear hxf
    go_wp2_with fail
    clear hxc0 hxc1 hxc2
    refine (same_any _ _ bl bl _ _ HAV.out HBV.out HLN.out HLN.out).mono ?_
    rintro e w3 ⟨rfl, hb3⟩
    replace HP := Lib.hid (slKeep hb3 HP.out)
    replace HX := Lib.hid (keepBlk hb3 HX.out)
    replace HAV := Lib.hid (slKeep hb3 HAV.out)
    replace HBV := Lib.hid (slKeep hb3 HBV.out)
    have hbw3 := chainB hbw2 hb3
    clear hbw2 hb3
    have hsame : sameOf bl bl = true := by unfold sameOf; simp
    rw [hsame]
    obtain ⟨hxc0, hxc1, hxc2, hxf⟩ := blk3 HX.out
    clear hxf
    go_wp2_with fail
    clear hxc0 hxc1 hxc2
    refine (awake_any _).mono ?_
    rintro e w4 ⟨rfl, hb4⟩
    replace HP := Lib.hid (slKeep hb4 HP.out)
    replace HX := Lib.hid (keepBlk hb4 HX.out)
    replace HAV := Lib.hid (slKeep hb4 HAV.out)
    replace HBV := Lib.hid (slKeep hb4 HBV.out)
    have hbw4 := chainB hbw3 hb4
    go_wp2
    go_ret
    exact ⟨rfl, hbw4⟩
end Go.Proofs.Ytcipnajdbafahaa.Tk
