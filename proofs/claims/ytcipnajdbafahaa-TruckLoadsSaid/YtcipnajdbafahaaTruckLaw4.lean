/- The law TruckTrips. -/
import Derived.Test.YtcipnajdbafahaaTruckLaw3
import Derived.Test.YtcipnajdbafahaaTruckRTrips
import Derived.Deep.RegionHeld3
namespace Go.Proofs.Ytcipnajdbafahaa.Tk
set_option linter.unusedVariables false
set_option linter.unusedSimpArgs false
open Go.RowKit

theorem tripsGo_len (l : List Par) (W V : Int) : ∀ (n : Nat) (left : List Int), (tripsGo l W V n left).length ≤ n ∧ ∀ x ∈ tripsGo l W V n left, x.length ≤ left.length
  | 0, left => by simp [tripsGo]
  | n + 1, left => by
    simp only [tripsGo]
    split
    · simp
    · have ih := tripsGo_len l W V n (picks (bestOf (parOf l left) W V) false 0 left)
      have h1 := picks_len_le (bestOf (parOf l left) W V) true left 0
      have h2 := picks_len_le (bestOf (parOf l left) W V) false left 0
      refine ⟨by simp; exact ih.1, fun x hx => ?_⟩
      rcases List.mem_cons.1 hx with rfl | hx
      · exact h1
      · exact Nat.le_trans (ih.2 x hx) h2
theorem tripsRes_len (l : List Par) (W V : Int) (h : l.length ≤ 1000) : (tripsRes l W V).1.length ≤ 1001 ∧ ∀ x ∈ (tripsRes l W V).1, x.length ≤ 1000000 := by
  unfold tripsRes
  split
  · have := tripsGo_len l W V (l.length + 1) (upto l.length)
    rw [upto_len] at this
    exact ⟨Nat.le_trans this.1 (by omega), fun x hx => Nat.le_trans (this.2 x hx) (by omega)⟩
  · simp
theorem TripsAt.val {w : World} {B : Nat} {tv : Value} {ls : List (List Int)} (h : TripsAt w B tv ls) : ∃ a c, tv = .slice a ls.length c := by
  obtain ⟨vs, h1, h2⟩ := h.len
  obtain ⟨a, c, h, _⟩ := h2.sl (fun _ => rfl)
  exact ⟨a, c, by rw [← h1]; exact h⟩
theorem same_refl (v u : Value) (a : List Int) (w : World) (hi : Nat) (ha : Kit.Sl 1 intEnc w hi v a) (hb : Kit.Sl 1 intEnc w hi u a) (hna : a.length ≤ 1000000) :
    Calls Try.prog 17 #[v, u] w fun e w' => e = .returned (.bool true) ∧ Below w.heap.size w w' :=
  same_is v u a a true (by unfold sameOf; simp) w hi ha hb hna hna

set_option maxRecDepth 100000 in
set_option maxHeartbeats 4000000 in
theorem truckTrips_walk {H : Type} {de : TypeId × Value → H} {base : Nat} (w : World) (v : Value) (d : DataW H) (ps : List MemPlace) (ok : Value.okWide Try.prog w .any base 24 v) (h : DataW.Trod de Try.prog w 0 (fun _ => true) true 24 v d ps) :
    Calls Try.prog 5 #[v] w fun e w' => e = .returned (.bool true) ∧ Below w.heap.size w w' := by
  obtain ⟨pv, W, V, l, rfl, hl, hlm, hW, hV⟩ := open_truck ok h
  clear ok h
  unfold maxLen at hlm
  have HPL := Lib.hid hl
  obtain ⟨ad, cap, rfl, hcap, _⟩ := hl
  rcases (Bool.eq_false_or_eq_true (fewOf l.length)).symm with hfew | hfew
  · have HFW := Lib.hid hfew; clear hfew
    go_enter Try.func5, Try.ntmps5
    go_wp2_with fail
    refine (few_any _ _ _ _ _ _ (by omega)).mono ?_
    rintro e w1 ⟨rfl, hb1⟩
    rw [HFW.out]
    go_wp2_with fail
    refine (awake_any _).mono ?_
    rintro e w2 ⟨rfl, hb2⟩
    go_wp2
    go_ret
    exact ⟨rfl, chainB (chainB (newB _ _) hb1) hb2⟩
  · have hl40 : l.length ≤ 40 := by
      unfold fewOf at hfew; simp at hfew; omega
    have HFW := Lib.hid hfew; clear hfew
    by_cases hmid : 9 < l.length ∧ l.length ≤ 16
    · obtain ⟨hm1, hm2⟩ := hmid
      have q1 : decide (9 < l.length) = true := by simp; omega
      have q2 : decide (l.length ≤ 16) = true := by simp; omega
      have q1' : decide ((9 : Int) < (l.length : Int)) = true := by simp; omega
      have q2' : decide ((l.length : Int) ≤ 16) = true := by simp; omega
      go_enter Try.func5, Try.ntmps5
      have hA := newB w (.cells #[.slice ad l.length cap, .int .i64 W, .int .i64 V] 24)
      have HP := Lib.hid (slKeep hA HPL.out)
      have HX := Lib.hid (blk_new w #[.slice ad l.length cap, .int .i64 W, .int .i64 V] 24)
      obtain ⟨hxc0, hxc1, hxc2, hxf⟩ := blk3 HX.out
      clear hxf
      go_wp2_with fail
      clear hxc0 hxc1 hxc2
      refine (few_any _ _ _ _ _ _ (by omega)).mono ?_
      rintro e w0 ⟨rfl, hb0⟩
      replace HP := Lib.hid (slKeep hb0 HP.out)
      replace HX := Lib.hid (keepBlk hb0 HX.out)
      rw [HFW.out]
      have hbw0 := chainB hA hb0
      clear hA hb0
      obtain ⟨hxc0, hxc1, hxc2, hxf⟩ := blk3 HX.out
      clear hxf
      go_wp2_with fail
      clear hxc0 hxc1 hxc2
      refine (awake_any _).mono ?_
      rintro e w4 ⟨rfl, hb4⟩
      go_wp2
      go_ret
      exact ⟨rfl, chainB hbw0 hb4⟩
    · have q1 : decide (9 < l.length) = true ∧ decide (l.length ≤ 16) = false ∧ decide ((9 : Int) < (l.length : Int)) = true ∧ decide ((l.length : Int) ≤ 16) = false ∨ decide (9 < l.length) = false ∧ decide ((9 : Int) < (l.length : Int)) = false := by
        simp only [decide_eq_false_iff_not, decide_eq_true_eq]; omega
      clear hmid
      rcases q1 with ⟨q1, q2, q3, q4⟩ | ⟨q1, q2⟩
      all_goals
        go_enter Try.func5, Try.ntmps5
        have hA := newB w (.cells #[.slice ad l.length cap, .int .i64 W, .int .i64 V] 24)
        have HP := Lib.hid (slKeep hA HPL.out)
        have HX := Lib.hid (blk_new w #[.slice ad l.length cap, .int .i64 W, .int .i64 V] 24)
        obtain ⟨hxc0, hxc1, hxc2, hxf⟩ := blk3 HX.out
        clear hxf
        go_wp2_with fail
        clear hxc0 hxc1 hxc2
        refine (few_any _ _ _ _ _ _ (by omega)).mono ?_
        rintro e w0 ⟨rfl, hb0⟩
        replace HP := Lib.hid (slKeep hb0 HP.out)
        replace HX := Lib.hid (keepBlk hb0 HX.out)
        rw [HFW.out]
        have hbw0 := chainB hA hb0
        clear hA hb0
        obtain ⟨hxc0, hxc1, hxc2, hxf⟩ := blk3 HX.out
        clear hxf
        go_wp2_with fail
        clear hxc0 hxc1 hxc2
        refine (trips_any _ l W V _ HP.out (by omega)).mono ?_
        rintro e w1 ⟨av, rfl, hav, hb1⟩
        replace HP := Lib.hid (slKeep hb1 HP.out)
        replace HX := Lib.hid (keepBlk hb1 HX.out)
        have hbw1 := chainB hbw0 hb1
        clear hbw0 hb1
        have HAV := Lib.hid (hav)
        clear hav
        obtain ⟨hxc0, hxc1, hxc2, hxf⟩ := blk3 HX.out
        clear hxf
        go_wp2_with fail
        clear hxc0 hxc1 hxc2
        refine (rtrips_any _ l W V _ HP.out (by omega)).mono ?_
        rintro e w2 ⟨bv, rfl, hbv, hb2⟩
        replace HP := Lib.hid (slKeep hb2 HP.out)
        replace HX := Lib.hid (keepBlk hb2 HX.out)
        replace HAV := Lib.hid (HAV.out.below hb2)
        have hbw2 := chainB hbw1 hb2
        clear hbw1 hb2
        have HBV := Lib.hid (hbv)
        clear hbv
        have hlen := tripsRes_len l W V (by omega)
        generalize tripsRes l W V = tr at *
        obtain ⟨ls, ec⟩ := tr
        obtain ⟨hln, hli⟩ := hlen
        replace hln : ls.length ≤ 1001 := hln
        have HLI := Lib.hid hli; clear hli
        obtain ⟨aa, ca, e1⟩ := HAV.out.val
        obtain ⟨ab, cb, e2⟩ := HBV.out.val
        subst e1 e2
        obtain ⟨hxc0, hxc1, hxc2, hxf⟩ := blk3 HX.out
        clear hxf
        go_wp2
        go_loopw [7] (fun i wr => ∃ k : Nat, k ≤ ls.length ∧ i = .int .i64 k ∧ TripsAt wr w0.heap.size (.slice aa ls.length ca) ls ∧ TripsAt wr w1.heap.size (.slice ab ls.length cb) ls ∧ Below w2.heap.size w2 wr) (fun i _ => ls.length - (intOf i).toNat)
        case atStart => exact ⟨0, by omega, rfl, HAV.out, HBV.out, Below.refl _ _⟩
        case round =>
          clear hxc0 hxc1 hxc2
          clear HAV HBV HX HP
          obtain ⟨k, hk, rfl, ha, hb, hbr⟩ := hrel
          have HA := Lib.hid ha; have HB := Lib.hid hb
          clear ha hb
          by_cases hlt : k < ls.length
          · obtain ⟨ga, xa, aa1, an1, ac1, e1, c1, s1⟩ := HA.out.at k hlt
            obtain ⟨gb, xb, ab1, bn1, bc1, e2, c2, s2⟩ := HB.out.at k hlt
            obtain rfl : aa = some ⟨ga, 0, none⟩ := (Value.slice.inj e1).1
            obtain rfl : ab = some ⟨gb, 0, none⟩ := (Value.slice.inj e2).1
            clear e1 e2
            have S1 := Lib.hid s1; have S2 := Lib.hid s2
            clear s1 s2
            have l1 := World.block_lt_of_cell? wr _ c1
            have l2 := World.block_lt_of_cell? wr _ c2
            have HMK : Hid (∀ w', Below wr.heap.size wr w' → w'.cell? ⟨ga, k, none⟩ = some (.slice aa1 an1 ac1) ∧ w'.cell? ⟨gb, k, none⟩ = some (.slice ab1 bn1 bc1) ∧ Below wr.heap.size wr w') := fun w' hb => ⟨(hb.cell (p := ⟨ga, k, none⟩) l1).trans c1, (hb.cell (p := ⟨gb, k, none⟩) l2).trans c2, hb⟩
            clear l1 l2
            have i1 : (0 : Int) ≤ (k : Int) := by omega
            have i2 : (k : Int) < (ls.length : Int) := by omega
            go_wp2
            clear c1 c2
            go_region_held3 (fun w' => w'.cell? ⟨ga, k, none⟩ = some (.slice aa1 an1 ac1) ∧ w'.cell? ⟨gb, k, none⟩ = some (.slice ab1 bn1 bc1) ∧ Below wr.heap.size wr w') (first | exact HMK.out _ ((Below.refl _ _).drew) | (go_split_ands; exact HMK.out _ (chainB (by assumption) hbk))) (first | (go_at_call 17; go_split_ands; refine (same_refl _ _ ls[k] _ _ (slKeep (by assumption) S1.out) (slKeep (by assumption) S2.out) (HLI.out _ (List.getElem_mem _))).mono ?_; rintro e wk ⟨rfl, hbk⟩))
            go_split_ands
            rename_i wz _ _ hbz
            have HA2 := Lib.hid (HA.out.below hbz); have HB2 := Lib.hid (HB.out.below hbz)
            have hb3 := chainB hbr hbz
            go_wp2
            go_roundw
            case rel => exact ⟨k + 1, by omega, by go_num, HA2.out, HB2.out, hb3⟩
            case measure => simp [intOf]; omega
          · obtain rfl : k = ls.length := by omega
            go_wp2_with fail
            refine (awake_any _).mono ?_
            rintro e w4 ⟨rfl, hb4⟩
            go_wp2
            go_ret
            exact ⟨rfl, chainB (chainB hbw2 hbr) hb4⟩
end Go.Proofs.Ytcipnajdbafahaa.Tk
