/- The walk of the reference's Sum. -/
import Derived.Test.YtcipnajdbafahaaTruckSum
import Derived.Deep.QuietTactic
import Derived.BigQuiet
import Derived.Deep.RegionWith
namespace Go.Proofs.Ytcipnajdbafahaa.Tk
set_option linter.unusedVariables false
set_option linter.unusedSimpArgs false
open Go.RowKit

theorem last_of (q : List Int) (k : Nat) (last : Int) (h : last = if k = 0 then -1 else q.getD (k - 1) 0) (hk : 0 < k) (hq : k - 1 < q.length) : q[k - 1] = last := by
  rw [h, if_neg (by omega)]; simp [hq]

set_option maxRecDepth 100000 in
set_option maxHeartbeats 2000000 in
theorem rsum_any (v u : Value) (l : List Par) (q : List Int) (w : World) (hl : Kit.Sl 3 parEnc w w.heap.size v l) (hn : l.length ≤ 1000000) (hq : Kit.Sl 1 intEnc w w.heap.size u q) (hm : q.length ≤ 1000000) :
    Calls Try.prog 11 #[v, u] w fun e w' => e = .returned (.tuple #[.agg #[.int .i64 (sumOf l q).1.1, .int .i64 (sumOf l q).1.2.1, .int .i64 (sumOf l q).1.2.2], .int .i64 (sumOf l q).2]) ∧ Below w.heap.size w w' := by
  have hl' := hl
  have hq' := hq
  obtain ⟨ad, cap, rfl, hcap, _⟩ := hl
  obtain ⟨ad2, cap2, rfl, hcap2, _⟩ := hq
  by_cases hc : checkOf l 0 0 = 0
  · have hcz := check_zero hc
    have hsum : sumOf l q = sumGo l q (-1) (0, 0, 0) := by unfold sumOf; rw [if_pos hc]
    rw [hsum]
    have HCZ := Lib.hid hcz; clear hcz hsum
    have HCC := Lib.hid hc; clear hc
    have HL := Lib.hid hl'; clear hl'
    have HQ := Lib.hid hq'; clear hq'
    go_enter Try.func11, Try.ntmps11
    go_wp2_with fail
    refine (rcheck_any _ l 0 0 _ (HL.out.below ((Below.refl _ _).alloc (Nat.le_refl _) _) (Nat.le_refl _) |>.mono (by simp)) hn).mono ?_
    rintro e w1 ⟨rfl, rfl⟩
    rw [HCC.out]
    go_wp2
    go_loopw [8] (fun i wr => ∃ k : Nat, ∃ last : Int, ∃ s : Par, k ≤ q.length ∧ i = .int .i64 k ∧ last = (if k = 0 then -1 else q.getD (k - 1) 0) ∧ -1 ≤ last ∧ last < (l.length : Int) ∧ Small ((last + 1) * 1000000000000) s ∧ sumGo l q (-1) (0, 0, 0) = sumGo l (q.drop k) last s ∧ Below w.heap.size w wr ∧ wr.heap[w.heap.size]? = some (.cells #[.int .i64 0, .int .i64 0, .int .i64 0] 28 (0, 0)) ∧ wr.heap[w.heap.size + 1]? = some (.cells #[.int .i64 s.1, .int .i64 s.2.1, .int .i64 s.2.2] 28 (0, 0))) (fun i _ => q.length - (intOf i).toNat)
    case atStart =>
      refine ⟨0, -1, (0, 0, 0), by omega, rfl, rfl, by omega, by omega, ⟨by simp, by simp, by simp, by simp, by simp, by simp⟩, rfl, ((Below.refl _ _).alloc (Nat.le_refl _) _).alloc (by simp) _, ?_, ?_⟩
      · rw [Below.heap_alloc _ _ _ (by simp)]; exact blk_new _ _ _
      · have := blk_new (w.alloc (.cells #[.int .i64 0, .int .i64 0, .int .i64 0] 28)) #[.int .i64 0, .int .i64 0, .int .i64 0] 28
        simpa using this
    case round =>
      obtain ⟨k, last, s, hk, rfl, hlast, hlo, hhi, hsm, hgo, hbr, hB0, hB1⟩ := hrel
      obtain ⟨r0, r1, r2, rf⟩ := blk3 hB0
      obtain ⟨s0, s1, s2, sf⟩ := blk3 hB1
      have f0 := rf 0; have f1 := rf 1; have f2 := rf 2
      have f3 := sf 0; have f4 := sf 1; have f5 := sf 2
      have HGO := Lib.hid hgo
      have HSM := Lib.hid hsm
      have HLA := Lib.hid hlast
      have H0 := Lib.hid hB0; have H1 := Lib.hid hB1
      have hgl : w.heap.size + 1 < wr.heap.size := (Array.getElem?_eq_some_iff.1 hB1).1
      clear hgo hsm hB0 hB1 rf sf hlast
      by_cases hlt : k < q.length
      · obtain ⟨b, off, ⟨cap', hv⟩, hbl, c0⟩ := sl1 HQ.out k hlt
        have hprev : 0 < k → w.cell? ⟨b, off + (k - 1), none⟩ = some (.int .i64 last) := by
          intro h0
          obtain ⟨b', off', ⟨cap'', hv2⟩, hbl', c'⟩ := sl1 HQ.out (k - 1) (by omega)
          rw [hv] at hv2
          simp only [Value.slice.injEq, Option.some.injEq, Addr.mk.injEq] at hv2
          obtain ⟨⟨rfl, rfl, _⟩, _⟩ := hv2
          rw [c', last_of q k last HLA.out h0 (by omega)]
        have HPV := Lib.hid hprev; clear hprev
        have hv' : ad2 = some ⟨b, off, none⟩ := by simpa using congrArg (fun v => match v with | Value.slice a _ _ => a | _ => none) hv
        subst hv'
        clear hv
        rw [← hbr.cell (p := ⟨b, off + k, none⟩) hbl] at c0
        have HD := Lib.hid (drop_cons q k hlt)
        have HQK : Hid (q.getD k 0 = q[k]) := by unfold Hid; simp [hlt]
        generalize q[k] = i at *
        by_cases hi : i < 0 ∨ (l.length : Int) ≤ i
        · have HR := Lib.hid (sumGo_low l i (q.drop (k + 1)) last s hi)
          have HE : Hid (sumGo l q (-1) (0, 0, 0) = ((0, 0, 0), 9)) := by unfold Hid; rw [HGO.out, HD.out, HR.out]
          have HI := Lib.hid hi
          rcases HI.out with h | h
          all_goals
            clear hi HI
            go_wp2
            exact bodyPost_ret (v := .tuple #[.agg #[.int .i64 0, .int .i64 0, .int .i64 0], .int .i64 9]) (by simp [results, Try.results11, go_sem, r0, r1, r2]) rfl ⟨by rw [HE.out], ((hbr.setCell (p := ⟨w.heap.size, 0, none⟩) (Nat.le_refl _) _).setCell (p := ⟨w.heap.size, 1, none⟩) (Nat.le_refl _) _).setCell (p := ⟨w.heap.size, 2, none⟩) (Nat.le_refl _) _⟩
        · have i1 : 0 ≤ i := by omega
          have i2 : i < (l.length : Int) := by omega
          have i3 : decide (i < 0) = false := by simp; omega
          have k0 : (0 : Int) ≤ (k : Int) := by omega
          by_cases hi2 : i ≤ last
          · have hkp : 0 < k := by
              rcases Nat.eq_zero_or_pos k with h | h
              · subst h; have := HLA.out; simp at this; omega
              · exact h
            have HR := Lib.hid (sumGo_ord l i (q.drop (k + 1)) last s hi hi2)
            have HE : Hid (sumGo l q (-1) (0, 0, 0) = ((0, 0, 0), 11)) := by unfold Hid; rw [HGO.out, HD.out, HR.out]
            have cp := HPV.out hkp
            rw [← hbr.cell (p := ⟨b, off + (k - 1), none⟩) hbl] at cp
            have j1 : (0 : Int) ≤ (k : Int) - 1 := by omega
            have j2 : (k : Int) - 1 < (q.length : Int) := by omega
            have j3 : ((k : Int) - 1).toNat = k - 1 := by omega
            have j4 : (k : Int) < (q.length : Int) := by omega
            have j5 : decide ((0 : Int) < (k : Int)) = true := by simp; omega
            have j6 : IntKind.i64.wrap ((k : Int) - 1) = (k : Int) - 1 := IntWalk.i64_in _ (by omega)
            have j7 : decide (0 < k) = true := by simp; omega
            have j8 : (1 : Int) ≤ (k : Int) := by omega
            clear hi
            go_wp2
            go_quiet (fail)
            go_wp2
            have hbr' : Below w.heap.size w (wr.drewN nq) := below_drewN hbr nq
            exact bodyPost_ret (v := .tuple #[.agg #[.int .i64 0, .int .i64 0, .int .i64 0], .int .i64 11]) (by simp [results, Try.results11, go_sem, r0, r1, r2]) rfl ⟨by rw [HE.out], ((hbr'.setCell (p := ⟨w.heap.size, 0, none⟩) (Nat.le_refl _) _).setCell (p := ⟨w.heap.size, 1, none⟩) (Nat.le_refl _) _).setCell (p := ⟨w.heap.size, 2, none⟩) (Nat.le_refl _) _⟩
          · obtain ⟨m, rfl⟩ := Int.eq_ofNat_of_zero_le i1
            have hml : m < l.length := by omega
            have hm2 : last < (m : Int) := by omega
            have HR := Lib.hid (sumGo_go l m (q.drop (k + 1)) last s hml hm2)
            have HE : Hid (sumGo l q (-1) (0, 0, 0) = sumGo l (q.drop (k + 1)) m (addP s l[m])) := by unfold Hid; rw [HGO.out, HD.out, HR.out]
            have HPS := small_at HCZ.out.2.2.2 m hml
            have HSA := Lib.hid (small_add hm2 hlo HSM.out HPS)
            have h16 := HCZ.out.1
            obtain ⟨b', off', ⟨cap'', hv⟩, hbl', d0, d1, d2⟩ := sl3 HL.out m hml
            have hv' : ad = some ⟨b', off', none⟩ := by simpa using congrArg (fun v => match v with | Value.slice a _ _ => a | _ => none) hv
            subst hv'
            clear hv hi hi2
            rw [← hbr.cell (p := ⟨b', off' + m * 3, none⟩) hbl'] at d0
            rw [← hbr.cell (p := ⟨b', off' + m * 3 + 1, none⟩) hbl'] at d1
            rw [← hbr.cell (p := ⟨b', off' + m * 3 + 2, none⟩) hbl'] at d2
            have HNX : Hid ((m : Int) = if k + 1 = 0 then -1 else q.getD (k + 1 - 1) 0) := by unfold Hid; rw [if_neg (by omega), Nat.add_sub_cancel, HQK.out]
            generalize l[m] = p at *
            obtain ⟨a1, a2, a3, a4, a5, a6⟩ := HSM.out
            have HS1 : Hid (Small 1000000000000000 s) := ⟨a1, by omega, a3, by omega, a5, by omega⟩
            have HP1 : Hid (Small 1000000000000000 p) := by
              obtain ⟨b1, b2, b3, b4, b5, b6⟩ := HPS
              exact ⟨b1, by omega, b3, by omega, b5, by omega⟩
            clear HPS a1 a2 a3 a4 a5 a6
            have j4 : (k : Int) < (q.length : Int) := by omega
            have hne : w.heap.size ≠ w.heap.size + 1 := by omega
            have m0 : (0 : Int) ≤ (m : Int) := by omega
            have key : ∀ wq : World, Below w.heap.size w wq → (∀ g : Nat, wq.heap[g]? = wr.heap[g]?) → wq.heap.size = wr.heap.size → ∀ w2, Below wq.heap.size wq w2 →
                Below w.heap.size w (((w2.setCell ⟨w.heap.size + 1, 0, none⟩ (.int .i64 (addP s p).1)).setCell ⟨w.heap.size + 1, 1, none⟩ (.int .i64 (addP s p).2.1)).setCell ⟨w.heap.size + 1, 2, none⟩ (.int .i64 (addP s p).2.2)) ∧
                (((w2.setCell ⟨w.heap.size + 1, 0, none⟩ (.int .i64 (addP s p).1)).setCell ⟨w.heap.size + 1, 1, none⟩ (.int .i64 (addP s p).2.1)).setCell ⟨w.heap.size + 1, 2, none⟩ (.int .i64 (addP s p).2.2)).heap[w.heap.size]? = some (.cells #[.int .i64 0, .int .i64 0, .int .i64 0] 28 (0, 0)) ∧
                (((w2.setCell ⟨w.heap.size + 1, 0, none⟩ (.int .i64 (addP s p).1)).setCell ⟨w.heap.size + 1, 1, none⟩ (.int .i64 (addP s p).2.1)).setCell ⟨w.heap.size + 1, 2, none⟩ (.int .i64 (addP s p).2.2)).heap[w.heap.size + 1]? = some (.cells #[.int .i64 (addP s p).1, .int .i64 (addP s p).2.1, .int .i64 (addP s p).2.2] 28 (0, 0)) := by
              intro wq h1 h2 h3 w2 h4
              have e1 : w2.heap[w.heap.size]? = some (.cells #[.int .i64 0, .int .i64 0, .int .i64 0] 28 (0, 0)) := by rw [h4.block _ (by omega), h2]; exact H0.out
              have e2 : w2.heap[w.heap.size + 1]? = some (.cells #[.int .i64 s.1, .int .i64 s.2.1, .int .i64 s.2.2] 28 (0, 0)) := by rw [h4.block _ (by omega), h2]; exact H1.out
              refine ⟨?_, ?_, ?_⟩
              · exact (((h1.trans (h4.mono h1.size)).setCell (p := ⟨w.heap.size + 1, 0, none⟩) (Nat.le_succ _) _).setCell (p := ⟨w.heap.size + 1, 1, none⟩) (Nat.le_succ _) _).setCell (p := ⟨w.heap.size + 1, 2, none⟩) (Nat.le_succ _) _
              · rw [blk_other hne, blk_other hne, blk_other hne]; exact e1
              · exact blk_set (blk_set (blk_set e2 0 _) 1 _) 2 _
            have KEY := Lib.hid key; clear key
            have hkc : 0 < k ∨ k = 0 := by omega
            rcases hkc with hkp | hkz
            · have cp := HPV.out hkp
              rw [← hbr.cell (p := ⟨b, off + (k - 1), none⟩) hbl] at cp
              have j1 : (0 : Int) ≤ (k : Int) - 1 := by omega
              have j2 : (k : Int) - 1 < (q.length : Int) := by omega
              have j3 : ((k : Int) - 1).toNat = k - 1 := by omega
              have j5 : decide ((0 : Int) < (k : Int)) = true := by simp; omega
              have j6 : IntKind.i64.wrap ((k : Int) - 1) = (k : Int) - 1 := IntWalk.i64_in _ (by omega)
              have j7 : decide (0 < k) = true := by simp; omega
              have j8 : (1 : Int) ≤ (k : Int) := by omega
              go_wp2
              go_quiet (fail)
              have hbr' : Below w.heap.size w (wr.drewN nq) := below_drewN hbr nq
              clear j1 j2 j3 j5 j6 j7 j8 cp
              go_wp2
              go_region_with (go_at_call 22; refine (plus_any s p _ HS1.out HP1.out).mono ?_; rintro e w2 ⟨rfl, hb2⟩; obtain ⟨y0, y1, y2, yf⟩ := blk3 (show w2.heap[w.heap.size + 1]? = some (.cells #[.int .i64 s.1, .int .i64 s.2.1, .int .i64 s.2.2] 28 (0, 0)) from (by rw [hb2.block _ (by simp; omega)]; exact H1.out)); have y3 := yf 0; have y4 := yf 1; have y5 := yf 2; clear yf)
              all_goals
                go_wp2
                obtain ⟨g1, g2, g3⟩ := KEY.out _ hbr'.drew (fun _ => rfl) rfl _ hb2
                go_roundw
                case rel => exact ⟨k + 1, m, addP s p, by omega, by go_num, HNX.out, by omega, by omega, HSA.out, HE.out, g1, g2, g3⟩
                case measure => simp [intOf]; omega
            · have hkz' : decide ((0 : Int) < (k : Int)) = false := by simp; omega
              have hkz'' : decide (0 < k) = false := by simp; omega
              have HKZ := Lib.hid hkz; clear hkz
              go_wp2
              go_quiet (fail)
              have hbr' : Below w.heap.size w (wr.drewN nq) := below_drewN hbr nq
              clear hkz' hkz''
              go_wp2
              go_region_with (go_at_call 22; refine (plus_any s p _ HS1.out HP1.out).mono ?_; rintro e w2 ⟨rfl, hb2⟩; obtain ⟨y0, y1, y2, yf⟩ := blk3 (show w2.heap[w.heap.size + 1]? = some (.cells #[.int .i64 s.1, .int .i64 s.2.1, .int .i64 s.2.2] 28 (0, 0)) from (by rw [hb2.block _ (by simp; omega)]; exact H1.out)); have y3 := yf 0; have y4 := yf 1; have y5 := yf 2; clear yf)
              all_goals
                go_wp2
                obtain ⟨g1, g2, g3⟩ := KEY.out _ hbr'.drew (fun _ => rfl) rfl _ hb2
                go_roundw
                case rel => exact ⟨k + 1, m, addP s p, by omega, by go_num, HNX.out, by omega, by omega, HSA.out, HE.out, g1, g2, g3⟩
                case measure => simp [intOf]; omega
      · obtain rfl : k = q.length := by omega
        have HE : Hid (sumGo l q (-1) (0, 0, 0) = (s, 0)) := by unfold Hid; rw [HGO.out, List.drop_length]; rfl
        go_wp2
        exact bodyPost_ret (v := .tuple #[.agg #[.int .i64 s.1, .int .i64 s.2.1, .int .i64 s.2.2], .int .i64 0]) (by simp [results, Try.results11, go_sem, r0, r1, r2]) rfl ⟨by rw [HE.out], ((hbr.setCell (p := ⟨w.heap.size, 0, none⟩) (Nat.le_refl _) _).setCell (p := ⟨w.heap.size, 1, none⟩) (Nat.le_refl _) _).setCell (p := ⟨w.heap.size, 2, none⟩) (Nat.le_refl _) _⟩
  · have hsum : sumOf l q = ((0, 0, 0), checkOf l 0 0) := by unfold sumOf; rw [if_neg hc]
    rw [hsum]
    have HL := Lib.hid hl'; clear hl'
    have hc1 : (checkOf l 0 0 != 0) = true := by simp [hc]
    clear hsum hc hq'
    generalize hcc : checkOf l 0 0 = c at *
    have HCC := Lib.hid hcc; clear hcc
    go_enter Try.func11, Try.ntmps11
    go_wp2_with fail
    refine (rcheck_any _ l 0 0 _ (HL.out.below ((Below.refl _ _).alloc (Nat.le_refl _) _) (Nat.le_refl _) |>.mono (by simp)) hn).mono ?_
    rintro e w1 ⟨rfl, rfl⟩
    rw [HCC.out]
    go_wp2
    exact bodyPost_ret (v := .tuple #[.agg #[.int .i64 0, .int .i64 0, .int .i64 0], .int .i64 c]) (by simp [results, Try.results11, go_sem]) rfl ⟨rfl, (Below.refl _ _).alloc (Nat.le_refl _) _⟩
end Go.Proofs.Ytcipnajdbafahaa.Tk
