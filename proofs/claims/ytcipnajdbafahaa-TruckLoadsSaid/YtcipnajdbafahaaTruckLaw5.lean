/- The law TruckLoads. -/
import Derived.Test.YtcipnajdbafahaaTruckLaw4
import Derived.Test.YtcipnajdbafahaaTruckLoadsP
import Derived.Test.YtcipnajdbafahaaTruckLaw2
import Derived.Test.YtcipnajdbafahaaKitMake
import Derived.Deep.RegionHeld3
import Derived.Deep.DeepCutAuto
namespace Go.Proofs.Ytcipnajdbafahaa.Tk
set_option linter.unusedVariables false
set_option linter.unusedSimpArgs false
open Go.RowKit

theorem TripsAt.down {w : World} {B B' : Nat} {tv : Value} {ls : List (List Int)} (h : TripsAt w B tv ls) (hB : B' ≤ B) : TripsAt w B' tv ls := by
  obtain ⟨vs, h1, h2⟩ := h
  exact ⟨vs, h1.mono hB, h2⟩
theorem zero_bool (i : TypeInfo) (z : Value) (h : Try.prog.info? 4 = some i) (hz : i.zero = some z) : z.cells.toList = boolEnc false := by
  have h0 : (Try.prog.info? 4).map (fun i => i.zero) = some (some (.bool false)) := by kernel_rfl
  rw [h] at h0
  simp only [Option.map_some, Option.some.injEq] at h0
  rw [h0] at hz
  obtain rfl := Option.some.inj hz
  rfl

theorem own_cell {w : World} {B g cap n : Nat} {fl : List Bool} (h : Kit.Own 4 1 boolEnc w B (.slice (some ⟨g, 0, none⟩) n cap) fl) (m : Nat) (hm : m < fl.length) : w.cell? ⟨g, m, none⟩ = some (.bool fl[m]) := by
  obtain ⟨b, off, ⟨c, hv⟩, _, hc⟩ := slb (h.sl (fun _ => rfl)) m hm
  have := (Value.slice.inj hv).1
  simp only [Option.some.injEq, Addr.mk.injEq] at this
  obtain ⟨rfl, rfl, _⟩ := this
  simpa using hc

set_option maxRecDepth 100000 in
set_option maxHeartbeats 4000000 in
theorem truckLoads_walk {H : Type} {de : TypeId × Value → H} {base : Nat} (w : World) (v : Value) (d : DataW H) (ps : List MemPlace) (ok : Value.okWide Try.prog w .any base 24 v) (h : DataW.Trod de Try.prog w 0 (fun _ => true) true 24 v d ps) :
    Calls Try.prog 8 #[v] w fun e w' => e = .returned (.bool true) ∧ Below w.heap.size w w' := by
  obtain ⟨pv, W, V, l, rfl, hl, hlm, hW, hV⟩ := open_truck ok h
  clear ok h
  unfold maxLen at hlm
  have HPL := Lib.hid hl
  obtain ⟨ad, cap, rfl, hcap, _⟩ := hl
  by_cases h9 : 9 < l.length
  · go_enter Try.func8, Try.ntmps8
    go_wp2_with fail
    refine (awake_any _).mono ?_
    rintro e w2 ⟨rfl, hb2⟩
    go_wp2
    go_ret
    exact ⟨rfl, chainB (newB _ _) hb2⟩
  · by_cases hc : checkOf l W V = 0
    rotate_left
    · have hc1 : (checkOf l W V != 0) = true := by simp [hc]
      have HR : Hid (tripsRes l W V = ([], checkOf l W V)) := by unfold Hid tripsRes; rw [if_neg hc]
      clear hc
      generalize checkOf l W V = c at *
      go_enter Try.func8, Try.ntmps8
      have hA := newB w (.cells #[.slice ad l.length cap, .int .i64 W, .int .i64 V] 24)
      have HP := Lib.hid (slKeep hA HPL.out)
      have HX := Lib.hid (blk_new w #[.slice ad l.length cap, .int .i64 W, .int .i64 V] 24)
      obtain ⟨hxc0, hxc1, hxc2, hxf⟩ := blk3 HX.out
      clear hxf
      go_wp2_with fail
      clear hxc0 hxc1 hxc2
      refine (trips_any _ l W V _ HP.out (by omega)).mono ?_
      rintro e w1 ⟨tv, rfl, htv, hb1⟩
      replace HP := Lib.hid (slKeep hb1 HP.out)
      replace HX := Lib.hid (keepBlk hb1 HX.out)
      have hbw1 := chainB hA hb1
      rw [HR.out] at htv ⊢
      have HTV := Lib.hid (htv.down (B' := w.heap.size) (by simp))
      clear hA hb1 htv HPL
      obtain ⟨aa, ca, e1⟩ := HTV.out.val
      subst e1
      go_wp2_with fail
      refine (awake_any _).mono ?_
      rintro e w2 ⟨rfl, hb2⟩
      go_wp2
      go_ret
      exact ⟨rfl, chainB hbw1 hb2⟩
    · have HR : Hid (tripsRes l W V = (tripsOf l W V, 0)) := by unfold Hid tripsRes; rw [if_pos hc]
      have HLN : Hid ((tripsOf l W V).length ≤ 1001 ∧ ∀ x ∈ tripsOf l W V, x.length ≤ 1000000) := by
        have := tripsRes_len l W V (by omega)
        rw [HR.out] at this; exact this
      obtain ⟨z1, z2, z3, z4⟩ := check_zero hc
      have HG := Lib.hid (good_of_all z4)
      have HW := Lib.hid (inR_true z2).1; have HV := Lib.hid (inR_true z3).1
      have HC := Lib.hid (check00 hc)
      have HD : Hid (tripsOf l W V = tripsGo l W V (l.length + 1) (upto l.length)) := Lib.hid rfl
      clear hc z1 z2 z3 z4
      go_enter Try.func8, Try.ntmps8
      have hA := newB w (.cells #[.slice ad l.length cap, .int .i64 W, .int .i64 V] 24)
      have HP := Lib.hid (slKeep hA HPL.out)
      have HX := Lib.hid (blk_new w #[.slice ad l.length cap, .int .i64 W, .int .i64 V] 24)
      obtain ⟨hxc0, hxc1, hxc2, hxf⟩ := blk3 HX.out
      clear hxf
      go_wp2_with fail
      clear hxc0 hxc1 hxc2
      refine (trips_any _ l W V _ HP.out (by omega)).mono ?_
      rintro e w1 ⟨tv, rfl, htv, hb1⟩
      replace HP := Lib.hid (slKeep hb1 HP.out)
      replace HX := Lib.hid (keepBlk hb1 HX.out)
      have hbw1 := chainB hA hb1
      rw [HR.out] at htv ⊢
      have HTV := Lib.hid (htv.down (B' := w.heap.size) (by simp))
      clear hA hb1 htv HPL
      generalize tripsOf l W V = ls at *
      obtain ⟨hln, hli⟩ := HLN.out
      have HLI := Lib.hid hli; clear hli HLN HR
      obtain ⟨aa, ca, e1⟩ := HTV.out.val
      subst e1
      have hsz1 := hbw1.size
      obtain ⟨hxc0, hxc1, hxc2, hxf⟩ := blk3 HX.out
      clear hxf
      go_wp2_with (at_make; refine Kit.wp_make T_bool false zero_bool w1 rfl _ _ rfl w1.heap.size l.length rfl rfl (by omega) (by unfold maxLen; omega) (Nat.le_refl _) w1.heap.size rfl ?_)
      clear hxc0 hxc1 hxc2
      intro wu hou hbu hsu
      have HOU := Lib.hid hou; clear hou
      go_wp2
      go_loopw [6, 7] (fun la i wr => ∃ (k n : Nat) (left : List Int) (fl : List Bool) (lw : Int), i = .int .i64 k ∧ la = .int .i64 lw ∧ k ≤ ls.length ∧ ls.drop k = tripsGo l W V n left ∧ Rem l W V n left fl k lw ∧ Kit.Own 4 1 boolEnc wr w1.heap.size (.slice (some ⟨w1.heap.size, 0, none⟩) l.length l.length) (inv fl) ∧ Below w1.heap.size w1 wr ∧ w1.heap.size < wr.heap.size) (fun _ i _ => ls.length - (intOf i).toNat)
      case atStart => exact ⟨0, l.length + 1, upto l.length, List.replicate l.length true, 0, rfl, rfl, by omega, HD.out, Rem.start l W V, by rw [inv_start]; exact HOU.out, hbu, hsu⟩
      case round =>
        obtain ⟨k, n, left, fl, lw, rfl, rfl, hk, hdr, hrem, hown, hbr, hsr⟩ := hrel
        have HDR := Lib.hid hdr; have HRM := Lib.hid hrem; have HOW := Lib.hid hown
        clear hdr hrem hown HOU HD
        have hszr := hbr.size
        by_cases hlt : k < ls.length
        · obtain ⟨gt, xt, at1, an1, ac1, e1, c1, s1⟩ := (HTV.out.below hbr).at k hlt
          obtain rfl : aa = some ⟨gt, 0, none⟩ := (Value.slice.inj e1).1
          clear e1
          have HDN : Hid (tripsGo l W V n left = ls[k] :: ls.drop (k + 1)) := by unfold Hid; rw [← HDR.out]; exact List.drop_eq_getElem_cons hlt
          obtain ⟨n1, n2, n3, n4, n5, rest, n6, n7⟩ := HRM.out.next HG.out HW.out HV.out HDN.out
          have hxl : ls[k].length ≤ 1000000 := HLI.out _ (List.getElem_mem _)
          have HSM := Lib.hid (sumOf_asc HC.out n1)
          have hw : wr.heap[w.heap.size]? = some (.cells #[.slice ad l.length cap, .int .i64 W, .int .i64 V] 24 (0, 0)) := keepBlk hbr HX.out
          have HXR := Lib.hid hw; clear hw
          have HPR := Lib.hid (slKeep hbr HP.out)
          have N1 := Lib.hid n1; have N4 := Lib.hid n4; have N6 := Lib.hid n6; have N7 := Lib.hid n7
          have hx0 : 0 < ls[k].length := List.length_pos_iff.2 n2
          unfold Fits at n3
          clear n1 n2 n4 n6 n7 HRM HDR HDN
          generalize hxk : ls[k] = x at *
          have HXK := Lib.hid hxk; clear hxk
          generalize tot l x = tt at *
          obtain ⟨t1, t2, t3⟩ := tt
          replace n3 : t1 ≤ W ∧ t2 ≤ V := n3
          replace n5 : k = 0 ∨ t3 ≤ lw := n5
          obtain ⟨n3, n3'⟩ := n3
          have S1 := Lib.hid s1; clear s1
          have l0 : w.heap.size < wr.heap.size := (Array.getElem?_eq_some_iff.1 HXR.out).1
          obtain ⟨hxc0, hxc1, hxc2, hxf⟩ := blk3 HXR.out
          have l1 := World.block_lt_of_cell? wr _ c1
          have HMK : Hid (∀ w', Below wr.heap.size wr w' → w'.cell? ⟨w.heap.size, 0, none⟩ = some (.slice ad l.length cap) ∧ w'.cell? ⟨gt, k, none⟩ = some (.slice at1 an1 ac1) ∧ Below wr.heap.size wr w') := fun w' hb => ⟨(hb.cell (p := ⟨w.heap.size, 0, none⟩) l0).trans hxc0, (hb.cell (p := ⟨gt, k, none⟩) l1).trans c1, hb⟩
          clear hxc0 hxc1 hxc2 hxf
          have i1 : (0 : Int) ≤ (k : Int) := by omega
          have i2 : (k : Int) < (ls.length : Int) := by omega
          have C1 := Lib.hid c1
          clear c1
          have HD0 : Hid (Below wr.heap.size wr wr.drew) := Lib.hid ((Below.refl _ _).drew)
          go_upto_region 11 with fail
          go_cut [8, 9] (fun s8 s9 wx => ∃ g : Nat, s8 = .pointer (some ⟨g, 0, none⟩) ∧ s9 = .int .i64 0 ∧ wx.heap[g]? = some (.cells #[.int .i64 t1, .int .i64 t2, .int .i64 t3] 28 (0, 0)) ∧ Below wr.heap.size wr wx)
          case first =>
            go_region_held3 (fun w' => w'.cell? ⟨w.heap.size, 0, none⟩ = some (.slice ad l.length cap) ∧ w'.cell? ⟨gt, k, none⟩ = some (.slice at1 an1 ac1) ∧ Below wr.heap.size wr w') ((refine HMK.out _ ?_; first | exact HD0.out | exact chainB HD0.out (newB _ _) | exact chainB HD0.out hbk | exact chainB (chainB HD0.out (newB _ _)) hbk | exact chainB (chainB HD0.out hbk) (newB _ _) | exact Below.setCell (Below.setCell (Below.setCell (chainB (chainB HD0.out (newB _ _)) hbk) (Nat.le_refl _) _) (Nat.le_refl _) _) (Nat.le_refl _) _)) (first | (go_at_call 10; go_split_ands; refine (sum_any _ _ l x _ (slKeep (by assumption) HPR.out) (by omega) (slKeep (by assumption) S1.out) (by omega)).mono ?_; rintro e wk ⟨rfl, hbk⟩; rw [HSM.out]; try (obtain ⟨y0, y1, y2, yf⟩ := blk3 (keepBlk hbk (blk_new _ _ _)); have y3 := yf 0; have y4 := yf 1; have y5 := yf 2; clear yf)))
            all_goals (go_wp2_with fail; go_meet; first | exact ⟨wk.heap.size, rfl, rfl, blk_new _ _ _, chainB (chainB HD0.out hbk) (newB _ _)⟩ | exact ⟨wr.heap.size, rfl, rfl, by simpa using blk_set (blk_set (blk_set (keepBlk hbk (blk_new _ _ _)) 0 (.int .i64 t1)) 1 (.int .i64 t2)) 2 (.int .i64 t3), Below.setCell (Below.setCell (Below.setCell (chainB (chainB HD0.out (newB _ _)) hbk) (Nat.le_refl _) _) (Nat.le_refl _) _) (Nat.le_refl _) _⟩)
          case rest =>
            obtain ⟨g8, rfl, rfl, hg8, hb8⟩ := hcut
            have HG8 := Lib.hid hg8; clear hg8
            obtain ⟨yc0, yc1, yc2, yf⟩ := blk3 HG8.out
            obtain ⟨hxc0, hxc1, hxc2, hxf⟩ := blk3 (keepBlk hb8 HXR.out)
            clear yf hxf hxc0
            have c1 : wc.cell? ⟨gt, k, none⟩ = some (.slice at1 an1 ac1) := (hb8.cell (p := ⟨gt, k, none⟩) l1).trans C1.out
            have han : an1 = x.length := by obtain ⟨_, _, h, _⟩ := S1.out; exact (Value.slice.inj h).2.1
            subst han
            have b1 : ((x.length : Int) == 0) = false := beq_eq_false_iff_ne.2 (by omega)
            have b1' : x.length ≠ 0 := by omega
            have b2 : decide (W < t1) = false := by simp; omega
            have b3 : decide (V < t2) = false := by simp; omega
            go_upto_region 12 with fail
            go_cut [90] (fun s90 wx => s90 = .bool false ∧ wx = wc)
            case first =>
              rcases n5 with n5 | n5
              · subst n5
                go_wp2_with fail
                go_meet
                exact ⟨rfl, rfl⟩
              · have b4 : decide (lw < t3) = false := by simp; omega
                by_cases hk0 : k = 0
                · subst hk0
                  go_wp2_with fail
                  go_meet
                  exact ⟨rfl, rfl⟩
                · have b5 : decide (0 < k) = true := by simp; omega
                  have b6 : decide ((0 : Int) < (k : Int)) = true := by simp; omega
                  go_wp2_with fail
                  go_meet
                  exact ⟨rfl, rfl⟩
            case rest =>
              obtain ⟨rfl, rfl⟩ := hcut
              clear b1 b1' b2 b3 hxc1 hxc2
              have HOC := Lib.hid (HOW.out.below' hb8)
              have hbc : Below w1.heap.size w1 wc := hbr.trans (hb8.mono hszr)
              have hsc : w1.heap.size < wc.heap.size := by have := hb8.size; omega
              go_wp2
              clear yc0 yc1 yc2 c1
              go_loopw [10] (fun j wq => ∃ m : Nat, j = .int .i64 m ∧ m ≤ x.length ∧ Kit.Own 4 1 boolEnc wq w1.heap.size (.slice (some ⟨w1.heap.size, 0, none⟩) l.length l.length) (inv (clr fl (x.take m))) ∧ Below w1.heap.size w1 wq ∧ w1.heap.size < wq.heap.size) (fun j _ => x.length - (intOf j).toNat)
              case atStart => exact ⟨0, rfl, by omega, by simpa [clr] using HOC.out, hbc, hsc⟩
              case round =>
                obtain ⟨m, rfl, hm, hown, hbq, hsq⟩ := hrel
                have HOQ := Lib.hid hown; clear hown
                obtain ⟨gt2, xt2, at2, an2, ac2, e2, c2, s2⟩ := (HTV.out.below hbq).at k hlt
                obtain rfl : gt = gt2 := by have := (Value.slice.inj e2).1; simpa using this
                clear e2
                rw [HXK.out] at s2
                have han : an2 = x.length := by obtain ⟨_, _, h, _⟩ := s2; exact (Value.slice.inj h).2.1
                subst han
                have S2 := Lib.hid s2; clear s2
                have HFL : Hid (fl.length = l.length) := by have := N7.out.flag.1; rw [clr_len] at this; exact this
                by_cases hml : m < x.length
                · obtain ⟨bx, ox, ⟨cx', ex⟩, _, cx⟩ := sl1 S2.out m hml
                  obtain rfl : at2 = some ⟨bx, ox, none⟩ := (Value.slice.inj ex).1
                  clear ex
                  obtain ⟨q, hq, hql⟩ := asc_at N1.out m hml
                  have hfr := clr_fresh N1.out (by rw [HFL.out]; exact Nat.le_refl _) N4.out m hml
                  have HTS := Lib.hid (take_snoc' x m hml)
                  rw [hq] at cx hfr HTS
                  rw [Int.toNat_natCast] at hfr
                  have hcl : (clr fl (x.take m)).length = l.length := by rw [clr_len]; exact HFL.out
                  have cu := own_cell HOQ.out q (by rw [inv_len, hcl]; exact hql)
                  rw [inv_get _ _ (by rw [hcl]; exact hql), hfr] at cu
                  have fu := own_thaw HOQ.out q
                  have HNX : Hid (Kit.Own 4 1 boolEnc (wr.setCell ⟨w1.heap.size, q, none⟩ (.bool true)) w1.heap.size (.slice (some ⟨w1.heap.size, 0, none⟩) l.length l.length) (inv (clr fl (x.take (m + 1))))) := by
                    have := own_store HOQ.out q true
                    rw [inv_clr] at this
                    unfold Hid
                    rw [HTS.out, clr_snoc, Int.toNat_natCast]; exact this
                  have j1 : (0 : Int) ≤ (m : Int) := by omega
                  have j2 : (m : Int) < (x.length : Int) := by omega
                  have j3 : (0 : Int) ≤ (q : Int) := by omega
                  have j4 : (q : Int) < (l.length : Int) := by omega
                  have b1 : decide ((q : Int) < 0) = false := by simp
                  have b2 : decide (l.length ≤ q) = false := by simp; omega
                  have b2' : decide ((l.length : Int) ≤ (q : Int)) = false := by simp; omega
                  clear hq hfr hcl
                  go_wp2
                  go_roundw
                  case rel => exact ⟨m + 1, by go_num, by omega, HNX.out, hbq.setCell (Nat.le_refl _) _, by simpa using hsq⟩
                  case measure => simp [intOf]; omega
                · obtain rfl : m = x.length := by omega
                  have how := HOQ.out
                  rw [List.take_length] at how
                  have HOZ := Lib.hid how; clear how HOQ
                  go_wp2
                  go_roundw
                  case rel => exact ⟨k + 1, n - 1, rest, clr fl x, t3, by go_num, rfl, by omega, N6.out, N7.out, HOZ.out, hbq, hsq⟩
                  case measure => simp [intOf]; omega
        · obtain rfl : k = ls.length := by omega
          have HLA := Lib.hid (HRM.out.last HG.out HW.out HV.out (by rw [← HDR.out]; simp))
          have HFL := Lib.hid HRM.out.flag.1
          clear HDR HRM
          go_wp2
          go_loopw [12] (fun j wq => ∃ m : Nat, j = .int .i64 m ∧ m ≤ l.length ∧ Below wr.heap.size wr wq) (fun j _ => l.length - (intOf j).toNat)
          case atStart => exact ⟨0, rfl, by omega, Below.refl _ _⟩
          case round =>
            obtain ⟨m, rfl, hm, hbq⟩ := hrel
            by_cases hml : m < l.length
            · have hXq := keepBlk hbq (keepBlk hbr HX.out)
              obtain ⟨hxc0, hxc1, hxc2, hxf⟩ := blk3 hXq
              have cu := own_cell (HOW.out.below' hbq) m (by rw [inv_len, HFL.out]; exact hml)
              rw [inv_get _ _ (by rw [HFL.out]; exact hml)] at cu
              obtain ⟨b', off', ⟨cap'', hv⟩, hbl', d0, d1, d2⟩ := sl3 (slKeep hbq (slKeep hbr HP.out)) m hml
              obtain rfl : ad = some ⟨b', off', none⟩ := (Value.slice.inj hv).1
              have hla := HLA.out m hml
              have j1 : (0 : Int) ≤ (m : Int) := by omega
              have j2 : (m : Int) < (l.length : Int) := by omega
              clear hv hxf hXq
              generalize l[m] = pm at *
              generalize fl.getD m false = fb at *
              obtain ⟨p1, p2, p3⟩ := pm
              replace hla : fb = true → p1 ≤ W → p2 ≤ V → p3 ≤ 0 := hla
              have HBA := Lib.hid (hbq.trans ((newB wr (.cells #[.int .i64 p1, .int .i64 p2, .int .i64 p3] 28)).mono hbq.size))
              have lz1 := World.block_lt_of_cell? wr _ cu
              have lz2 := World.block_lt_of_cell? wr _ hxc1
              have hNB := newB wr (.cells #[.int .i64 p1, .int .i64 p2, .int .i64 p3] 28)
              replace cu := (hNB.cell (p := ⟨w1.heap.size, m, none⟩) lz1).trans cu
              replace hxc1 := (hNB.cell (p := ⟨w.heap.size, 1, none⟩) lz2).trans hxc1
              replace hxc2 := (hNB.cell (p := ⟨w.heap.size, 2, none⟩) lz2).trans hxc2
              clear hNB lz1 lz2
              cases fb with
              | false =>
                clear hla
                go_wp2
                go_roundw
                case rel => exact ⟨m + 1, by go_num, by omega, HBA.out⟩
                case measure => simp [intOf]; omega
              | true =>
                replace hla := hla rfl
                by_cases q1 : p1 ≤ W
                · by_cases q2 : p2 ≤ V
                  · have q3 := hla q1 q2
                    have b1 : decide (p1 ≤ W) = true := by simpa using q1
                    have b2 : decide (p2 ≤ V) = true := by simpa using q2
                    have b3 : decide (0 < p3) = false := by simp; omega
                    clear hla
                    go_wp2
                    go_roundw
                    case rel => exact ⟨m + 1, by go_num, by omega, HBA.out⟩
                    case measure => simp [intOf]; omega
                  · have b1 : decide (p1 ≤ W) = true := by simpa using q1
                    have b2 : decide (p2 ≤ V) = false := by simpa using q2
                    clear hla
                    go_wp2
                    go_roundw
                    case rel => exact ⟨m + 1, by go_num, by omega, HBA.out⟩
                    case measure => simp [intOf]; omega
                · have b1 : decide (p1 ≤ W) = false := by simpa using q1
                  clear hla
                  go_wp2
                  go_roundw
                  case rel => exact ⟨m + 1, by go_num, by omega, HBA.out⟩
                  case measure => simp [intOf]; omega
            · obtain rfl : m = l.length := by omega
              go_wp2_with fail
              refine (awake_any _).mono ?_
              rintro e w4 ⟨rfl, hb4⟩
              go_wp2
              go_ret
              exact ⟨rfl, chainB (chainB (chainB hbw1 hbr) hbq) hb4⟩
end Go.Proofs.Ytcipnajdbafahaa.Tk
