/- The walks of the reference: Write, Read. -/
import Derived.Test.YtgcbfpimfmkbmaaDiskRef4
namespace Go.Proofs.Ytgcbfpimfmkbmaa.Dk
set_option linter.unusedVariables false
set_option linter.unusedSimpArgs false
open Go.RowKit Go.ChangeMaps

theorem step_pend (s : DS) : s.step.1.pend.length ≤ s.pend.length := by
  unfold DS.step
  split
  · split
    · simp [DS.crash, DS.settle]
    · exact Nat.le_refl _
  · exact Nat.le_refl _
theorem newest_take (p : List (Int × ByteArray)) (k : Nat) (hk : k < p.length) (n : Int) : newest (p.take (k + 1)) n = if p[k].1 = n then some p[k].2 else newest (p.take k) n := by
  rw [take_snocW p k hk, newest_snoc]
set_option maxRecDepth 100000 in
set_option maxHeartbeats 4000000 in
theorem rwrite_any (bv pv : Value) (s : DS) (i : Int) (t : ByteArray) (ht : t.size ≤ maxLen) (w : World) (h : RIn w bv pv s) (hpn : s.pend.length < 1000000) :
    Calls Try.prog 29 #[.agg #[bv, pv, .bool s.down, .bool s.armed, .int .i64 s.steps, .int .u64 s.mask], .int .i64 i, .string t] w (RPost w bv pv (s.write i t).1 (.int .i64 (s.write i t).2)) := by
  obtain ⟨xa, xn, xc, xa', xn', xc', rfl, rfl⟩ := h.sh
  have HFI := Lib.hid h.fine
  have H0 := Lib.hid h
  obtain ⟨bl, pn, dn, ar, st, mk⟩ := s
  dsimp only at *
  have hst := h.fine.steps
  have HMK := Lib.hid h.fine.mask
  dsimp only at hst
  obtain ⟨hs1, hs2⟩ := hst
  unfold maxLen at ht
  have HXN := Lib.hid h.blen
  have hl := h.fine.len
  dsimp only at hl
  clear h
  cases dn with
  | true =>
    have HW : Hid ((⟨bl, pn, true, ar, st, mk⟩ : DS).write i t = ((⟨bl, pn, true, ar, st, mk⟩ : DS), 17)) := Lib.hid rfl
    have HF := HFI
    go_enter Try.func29, Try.ntmps29
    go_wp2
    exact bodyPost_ret (v := .tuple #[.agg #[.slice xa xn xc, .slice xa' xn' xc', .bool true, .bool ar, .int .i64 st, .int .u64 mk], .int .i64 17]) (by simp [results, Try.results29, go_sem]) rfl (by rw [HW.out]; exact ⟨_, _, rfl, (H0.out.below (chainB (newB _ _) (newB _ _))).flag rfl rfl HF.out, From.refl _ _ _, chainB (newB _ _) (newB _ _)⟩)
  | false =>
    have hxn : xn = bl.length := HXN.out
    by_cases h1 : i < 0
    · have HW : Hid ((⟨bl, pn, false, ar, st, mk⟩ : DS).write i t = ((⟨bl, pn, false, ar, st, mk⟩ : DS), 9)) := by
        have : inB (⟨bl, pn, false, ar, st, mk⟩ : DS) i = false := by unfold inB; simp; omega
        unfold Hid DS.write; rw [this]; rfl
      have HF := HFI
      have b1 : decide (i < 0) = true := by simpa using h1
      clear hxn
      go_enter Try.func29, Try.ntmps29
      go_wp2
      exact bodyPost_ret (v := .tuple #[.agg #[.slice xa xn xc, .slice xa' xn' xc', .bool false, .bool ar, .int .i64 st, .int .u64 mk], .int .i64 9]) (by simp [results, Try.results29, go_sem]) rfl (by rw [HW.out]; exact ⟨_, _, rfl, (H0.out.below (chainB (newB _ _) (newB _ _))).flag rfl rfl HF.out, From.refl _ _ _, chainB (newB _ _) (newB _ _)⟩)
    have b1 : decide (i < 0) = false := by simpa using h1
    by_cases h2 : (xn : Int) ≤ i
    · have HW : Hid ((⟨bl, pn, false, ar, st, mk⟩ : DS).write i t = ((⟨bl, pn, false, ar, st, mk⟩ : DS), 9)) := by
        have : inB (⟨bl, pn, false, ar, st, mk⟩ : DS) i = false := by unfold inB; simp; omega
        unfold Hid DS.write; rw [this]; rfl
      have HF := HFI
      have b2 : decide ((xn : Int) ≤ i) = true := by simpa using h2
      clear hxn
      go_enter Try.func29, Try.ntmps29
      go_wp2
      exact bodyPost_ret (v := .tuple #[.agg #[.slice xa xn xc, .slice xa' xn' xc', .bool false, .bool ar, .int .i64 st, .int .u64 mk], .int .i64 9]) (by simp [results, Try.results29, go_sem]) rfl (by rw [HW.out]; exact ⟨_, _, rfl, (H0.out.below (chainB (newB _ _) (newB _ _))).flag rfl rfl HF.out, From.refl _ _ _, chainB (newB _ _) (newB _ _)⟩)
    have b2 : decide ((xn : Int) ≤ i) = false := by simpa using h2
    obtain ⟨m, rfl⟩ : ∃ m : Nat, i = (m : Int) := ⟨i.toNat, by omega⟩
    have b2' : decide (xn ≤ m) = false := by simp; omega
    have HIN : Hid (inB (⟨bl, pn, false, ar, st, mk⟩ : DS) m = true) := Lib.hid ((inB_iff _ _).2 ⟨m, rfl, by show m < bl.length; omega⟩)
    have HML : Hid (m < bl.length) := Lib.hid (by omega)
    have hx40 : xn ≤ 4096 := by omega
    clear hxn
    by_cases h3 : 64 < t.size
    · have HW : Hid ((⟨bl, pn, false, ar, st, mk⟩ : DS).write m t = ((⟨bl, pn, false, ar, st, mk⟩ : DS), 4)) := by unfold Hid DS.write; rw [HIN.out]; simp [h3]
      have HF := HFI
      have b3 : decide (64 < t.size) = true := by simpa using h3
      have b3' : decide ((64 : Int) < (t.size : Int)) = true := by simp; omega
      go_enter Try.func29, Try.ntmps29
      go_wp2
      exact bodyPost_ret (v := .tuple #[.agg #[.slice xa xn xc, .slice xa' xn' xc', .bool false, .bool ar, .int .i64 st, .int .u64 mk], .int .i64 4]) (by simp [results, Try.results29, go_sem]) rfl (by rw [HW.out]; exact ⟨_, _, rfl, (H0.out.below (chainB (newB _ _) (newB _ _))).flag rfl rfl HF.out, From.refl _ _ _, chainB (newB _ _) (newB _ _)⟩)
    have b3 : decide (64 < t.size) = false := by simpa using h3
    have b3' : decide ((64 : Int) < (t.size : Int)) = false := by simp; omega
    have hA := newB w (.cells #[.slice xa xn xc, .slice xa' xn' xc', .bool false, .bool ar, .int .i64 st, .int .u64 mk] 30)
    have hA2 := newB (w.alloc (.cells #[.slice xa xn xc, .slice xa' xn' xc', .bool false, .bool ar, .int .i64 st, .int .u64 mk] 30)) (.cells #[.slice none 0 0, .slice none 0 0, .bool false, .bool false, .int .i64 0, .int .u64 0] 30)
    have hb2 := chainB hA hA2
    have HX : Hid (((w.alloc (.cells #[.slice xa xn xc, .slice xa' xn' xc', .bool false, .bool ar, .int .i64 st, .int .u64 mk] 30)).alloc (.cells #[.slice none 0 0, .slice none 0 0, .bool false, .bool false, .int .i64 0, .int .u64 0] 30)).heap[w.heap.size]? = some (.cells #[.slice xa xn xc, .slice xa' xn' xc', .bool false, .bool ar, .int .i64 st, .int .u64 mk] 30 (0, 0))) := Lib.hid (by rw [hA2.block _ (by simp)]; exact blk_new _ _ _)
    have HR : Hid (((w.alloc (.cells #[.slice xa xn xc, .slice xa' xn' xc', .bool false, .bool ar, .int .i64 st, .int .u64 mk] 30)).alloc (.cells #[.slice none 0 0, .slice none 0 0, .bool false, .bool false, .int .i64 0, .int .u64 0] 30)).heap[w.heap.size + 1]? = some (.cells #[.slice none 0 0, .slice none 0 0, .bool false, .bool false, .int .i64 0, .int .u64 0] 30 (0, 0))) := Lib.hid (by have := blk_new (w.alloc (.cells #[.slice xa xn xc, .slice xa' xn' xc', .bool false, .bool ar, .int .i64 st, .int .u64 mk] 30)) #[.slice none 0 0, .slice none 0 0, .bool false, .bool false, .int .i64 0, .int .u64 0] 30; simpa using this)
    have H2 := Lib.hid (H0.out.below hb2)
    have HB2 := Lib.hid hb2
    have HZ2 := Lib.hid hb2.size
    have HS2 : Hid (w.heap.size + 2 ≤ ((w.alloc (.cells #[.slice xa xn xc, .slice xa' xn' xc', .bool false, .bool ar, .int .i64 st, .int .u64 mk] 30)).alloc (.cells #[.slice none 0 0, .slice none 0 0, .bool false, .bool false, .int .i64 0, .int .u64 0] 30)).heap.size) := Lib.hid (by simp)
    clear hA hA2 hb2
    rcases (Bool.eq_false_or_eq_true (⟨bl, pn, false, ar, st, mk⟩ : DS).step.2).symm with hst | hst
    · have HW : Hid ((⟨bl, pn, false, ar, st, mk⟩ : DS).write m t = ((⟨bl, pn, false, ar, st, mk⟩ : DS).step.1, 17)) := by unfold Hid DS.write; rw [HIN.out, hst]; simp [h3]
      have HST := Lib.hid hst
      clear hst
      go_enter Try.func29, Try.ntmps29
      go_wp2_with fail
      refine (rstep_any _ _ (⟨bl, pn, false, ar, st, mk⟩ : DS) _ H2.out).mono ?_
      rintro e w2 ⟨bv', pv', rfl, hr2, hf2, hb2⟩
      have HR2 := Lib.hid (show w2.heap[w.heap.size + 1]? = _ from (hb2.block _ (by have := HS2.out; omega)).trans HR.out)
      have HBW := Lib.hid (chainB HB2.out hb2)
      have HFR := Lib.hid hf2
      rw [HST.out]
      generalize (⟨bl, pn, false, ar, st, mk⟩ : DS).step.1 = s2 at *
      have HI := Lib.hid hr2
      have HAP := Lib.hid (hf2.apart H0.out.lb H0.out.lp)
      have hgs := HS2.out
      have hgb := hb2.size
      clear hr2 hf2 hb2
      obtain ⟨ya, yn, yc, ya', yn', yc', rfl, rfl⟩ := HI.out.sh
      obtain ⟨bl2, pn2, dn2, ar2, st2, mk2⟩ := s2
      dsimp only at *
      have hX := newB w2 (.cells #[.slice ya yn yc, .slice ya' yn' yc', .bool dn2, .bool ar2, .int .i64 st2, .int .u64 mk2] 30)
      have HXX := Lib.hid (blk_new w2 #[.slice ya yn yc, .slice ya' yn' yc', .bool dn2, .bool ar2, .int .i64 st2, .int .u64 mk2] 30)
      have HRX := Lib.hid (show (w2.alloc (.cells #[.slice ya yn yc, .slice ya' yn' yc', .bool dn2, .bool ar2, .int .i64 st2, .int .u64 mk2] 30)).heap[w.heap.size + 1]? = _ from (hX.block _ (by omega)).trans HR2.out)
      have HIX := Lib.hid (HI.out.below hX)
      have HBX := Lib.hid (chainB HBW.out hX)
      have HSX : Hid ((w2.alloc (.cells #[.slice ya yn yc, .slice ya' yn' yc', .bool dn2, .bool ar2, .int .i64 st2, .int .u64 mk2] 30)).heap.size = w2.heap.size + 1) := Lib.hid (by simp)
      have r0 := blkc HRX.out 0 _ rfl; have t0 := blkf HRX.out 0
      have r1 := blkc HRX.out 1 _ rfl; have t1 := blkf HRX.out 1
      have r2 := blkc HRX.out 2 _ rfl; have t2 := blkf HRX.out 2
      have r3 := blkc HRX.out 3 _ rfl; have t3 := blkf HRX.out 3
      have r4 := blkc HRX.out 4 _ rfl; have t4 := blkf HRX.out 4
      have r5 := blkc HRX.out 5 _ rfl; have t5 := blkf HRX.out 5
      clear hX
      go_wp2
      have hk5 := put6_keeps (w2.alloc (.cells #[.slice ya yn yc, .slice ya' yn' yc', .bool dn2, .bool ar2, .int .i64 st2, .int .u64 mk2] 30)) (w.heap.size + 1) (.slice ya yn yc) (.slice ya' yn' yc') (.bool dn2) (.bool ar2) (.int .i64 st2) (.int .u64 mk2)
      have hb5 := put6_below HBX.out (g := w.heap.size + 1) (by omega) (.slice ya yn yc) (.slice ya' yn' yc') (.bool dn2) (.bool ar2) (.int .i64 st2) (.int .u64 mk2)
      have hri := HIX.out.keeps hk5 (fun k hk e => by have := HAP.out.1 k hk; omega) (fun k hk e => by have := HAP.out.2 k hk; omega)
      refine bodyPost_ret (v := .tuple #[.agg #[.slice ya yn yc, .slice ya' yn' yc', .bool dn2, .bool ar2, .int .i64 st2, .int .u64 mk2], .int .i64 17]) (by simp [results, Try.results29, go_sem, r0, r1, r2, r3, r4, r5]) rfl ?_
      rw [HW.out]
      exact ⟨_, _, rfl, hri, From.trans (From.refl w _ _) HFR.out HZ2.out, hb5⟩
    · have HW : Hid ((⟨bl, pn, false, ar, st, mk⟩ : DS).write m t = ({ (⟨bl, pn, false, ar, st, mk⟩ : DS).step.1 with pend := (⟨bl, pn, false, ar, st, mk⟩ : DS).step.1.pend ++ [((m : Int), t)] }, 0)) := by unfold Hid DS.write; rw [HIN.out, hst]; simp [h3]
      have HST := Lib.hid hst
      have HBL : Hid ((⟨bl, pn, false, ar, st, mk⟩ : DS).step.1.blocks.length = bl.length) := Lib.hid (step_blocks _)
      have HPL : Hid ((⟨bl, pn, false, ar, st, mk⟩ : DS).step.1.pend.length ≤ pn.length) := Lib.hid (step_pend _)
      clear hst
      go_enter Try.func29, Try.ntmps29
      go_wp2_with fail
      refine (rstep_any _ _ (⟨bl, pn, false, ar, st, mk⟩ : DS) _ H2.out).mono ?_
      rintro e w2 ⟨bv', pv', rfl, hr2, hf2, hb2⟩
      have HR2 := Lib.hid (show w2.heap[w.heap.size + 1]? = _ from (hb2.block _ (by have := HS2.out; omega)).trans HR.out)
      have HBW := Lib.hid (chainB HB2.out hb2)
      have HFR := Lib.hid hf2
      rw [HST.out]
      generalize (⟨bl, pn, false, ar, st, mk⟩ : DS).step.1 = s2 at *
      have HI := Lib.hid hr2
      have HAP := Lib.hid (hf2.apart H0.out.lb H0.out.lp)
      have hgs := HS2.out
      have hgb := hb2.size
      clear hr2 hf2 hb2
      obtain ⟨ya, yn, yc, ya', yn', yc', rfl, rfl⟩ := HI.out.sh
      obtain ⟨bl2, pn2, dn2, ar2, st2, mk2⟩ := s2
      dsimp only at *
      have hX := newB w2 (.cells #[.slice ya yn yc, .slice ya' yn' yc', .bool dn2, .bool ar2, .int .i64 st2, .int .u64 mk2] 30)
      have HXX := Lib.hid (blk_new w2 #[.slice ya yn yc, .slice ya' yn' yc', .bool dn2, .bool ar2, .int .i64 st2, .int .u64 mk2] 30)
      have HRX := Lib.hid (show (w2.alloc (.cells #[.slice ya yn yc, .slice ya' yn' yc', .bool dn2, .bool ar2, .int .i64 st2, .int .u64 mk2] 30)).heap[w.heap.size + 1]? = _ from (hX.block _ (by omega)).trans HR2.out)
      have HIX := Lib.hid (HI.out.below hX)
      have HBX := Lib.hid (chainB HBW.out hX)
      have HSX : Hid ((w2.alloc (.cells #[.slice ya yn yc, .slice ya' yn' yc', .bool dn2, .bool ar2, .int .i64 st2, .int .u64 mk2] 30)).heap.size = w2.heap.size + 1) := Lib.hid (by simp)
      have hb0 := HBW.out.size
      have hpl := HPL.out
      have hyn : yn' = pn2.length := HI.out.plen
      subst hyn
      clear hX
      go_wp2_with (at_builtin; refine Kit.wp_appendA T_pn (by rfl) _ _ (by rfl) _ (w2.heap.size + 1) _ [] (by rfl) (Kit.Own.nil _ _) pn2 ya' pn2.length yc' _ (by rfl) HIX.out.pend ?c1 ?c2 ?c3 ?_)
      case c1 => simp; unfold maxLen; omega
      case c2 => simp; omega
      case c3 => simp
      intro lv w4 hown4 hb4 _ hv4
      have HX4 := Lib.hid (show w4.heap[w2.heap.size]? = _ from (hb4.block _ (by omega)).trans HXX.out)
      have HR4 := Lib.hid (show w4.heap[w.heap.size + 1]? = _ from (hb4.block _ (by omega)).trans HRX.out)
      have hz4 := hb4.size
      rw [HSX.out] at hz4
      have HB4 : Hid (Below w2.heap.size w2 w4) := Lib.hid ((newB w2 _).trans (hb4.mono (by omega)))
      have HO4 := Lib.hid hown4
      obtain ⟨la, lc, hlv⟩ : ∃ a c, lv = .slice a pn2.length c := by obtain ⟨a, c, h, _⟩ := hown4.sl (fun _ => rfl); exact ⟨a, c, h⟩
      subst hlv
      clear hown4 hb4
      go_wp2_with (at_builtin; refine Kit.wp_push T_pn (by rfl) _ _ (by rfl) w4 (w2.heap.size + 1) _ _ (by rfl) HO4.out ((m : Int), t) _ _ w4.heap.size rfl (by rfl) ?c1 ?c2 ?c3 hz4 ?_)
      case c1 => rfl
      case c2 => unfold maxLen; omega
      case c3 => omega
      intro g5 cap5 w5 hown5 hb5 _ hsz5 hv5 hgl5 hBg5
      have HX5 := Lib.hid (show w5.heap[w2.heap.size]? = _ from (hb5.block _ (by omega)).trans HX4.out)
      have HR5 := Lib.hid (show w5.heap[w.heap.size + 1]? = _ from (hb5.block _ (by omega)).trans HR4.out)
      have HB5 : Hid (Below w2.heap.size w2 w5) := Lib.hid (HB4.out.trans (hb5.mono (by omega)))
      have HO5 := Lib.hid hown5
      have z1 := blkc HX5.out 1 _ rfl; have y1 := blkf HX5.out 1
      clear hown5 hb5
      go_upto_region 13 with fail
      clear z1 y1
      have HX6 := Lib.hid (blk_set HX5.out 1 (.slice (some ⟨g5, 0, none⟩) (pn2.length + 1) cap5))
      have hk6 : Kit.Keeps (fun j => j = w2.heap.size) w5 (w5.setCell ⟨w2.heap.size, 1, none⟩ (.slice (some ⟨g5, 0, none⟩) (pn2.length + 1) cap5)) := (Kit.Keeps.refl (fun j => j = w2.heap.size) w5).setCell (p := ⟨w2.heap.size, 1, none⟩) (Or.inl rfl) _
      have HR6 := Lib.hid (Kit.blk_keeps HR5.out hk6 (by omega))
      have HB6 := Lib.hid (HB5.out.setCell (p := ⟨w2.heap.size, 1, none⟩) (Nat.le_refl _) (.slice (some ⟨g5, 0, none⟩) (pn2.length + 1) cap5))
      have HO6 := Lib.hid (HO5.out.keeps hk6 (fun k hk e => by simp [Value.ownBlock] at hk; omega))
      clear hk6
      generalize w5.setCell ⟨w2.heap.size, 1, none⟩ (.slice (some ⟨g5, 0, none⟩) (pn2.length + 1) cap5) = w6 at *
      have z0 := blkc HX6.out 0 _ rfl; have z1 := blkc HX6.out 1 _ rfl; have z2 := blkc HX6.out 2 _ rfl; have z3 := blkc HX6.out 3 _ rfl; have z4 := blkc HX6.out 4 _ rfl; have z5 := blkc HX6.out 5 _ rfl
      have r0 := blkc HR6.out 0 _ rfl; have t0 := blkf HR6.out 0
      have r1 := blkc HR6.out 1 _ rfl; have t1 := blkf HR6.out 1
      have r2 := blkc HR6.out 2 _ rfl; have t2 := blkf HR6.out 2
      have r3 := blkc HR6.out 3 _ rfl; have t3 := blkf HR6.out 3
      have r4 := blkc HR6.out 4 _ rfl; have t4 := blkf HR6.out 4
      have r5 := blkc HR6.out 5 _ rfl; have t5 := blkf HR6.out 5
      go_wp2
      have hk7 := put6_keeps w6 (w.heap.size + 1) (.slice ya yn yc) (.slice (some ⟨g5, 0, none⟩) (pn2.length + 1) cap5) (.bool dn2) (.bool ar2) (.int .i64 st2) (.int .u64 mk2)
      have hb7 := put6_below (chainB HBW.out HB6.out) (g := w.heap.size + 1) (by omega) (.slice ya yn yc) (.slice (some ⟨g5, 0, none⟩) (pn2.length + 1) cap5) (.bool dn2) (.bool ar2) (.int .i64 st2) (.int .u64 mk2)
      have ho7 := HO6.out.keeps hk7 (fun k hk e => by simp [Value.ownBlock] at hk; omega)
      have hi7 := (HI.out.below HB6.out).keeps hk7 (fun k hk e => by have := HAP.out.1 k hk; omega) (fun k hk e => by have := HAP.out.2 k hk; omega)
      refine bodyPost_ret (v := .tuple #[.agg #[.slice ya yn yc, .slice (some ⟨g5, 0, none⟩) (pn2.length + 1) cap5, .bool dn2, .bool ar2, .int .i64 st2, .int .u64 mk2], .int .i64 0]) (by simp [results, Try.results29, go_sem, r0, r1, r2, r3, r4, r5]) rfl ?_
      rw [HW.out]
      refine ⟨_, _, rfl, ⟨hi7.blocks, ho7.sl (fun _ => rfl), hi7.fine.push (by show m < bl2.length; rw [HBL.out]; exact HML.out) (by omega), by simp; omega, hi7.lb, fun k hk => (World.ownsRow.lt ho7 k hk).2⟩, ⟨(From.trans (From.refl w _ _) HFR.out HZ2.out).1, fun k hk => Or.inr (Or.inr ?_)⟩, hb7⟩
      simp [Value.ownBlock] at hk
      omega
set_option maxRecDepth 100000 in
set_option maxHeartbeats 4000000 in
theorem rread_any (bv pv : Value) (s : DS) (i : Int) (w : World) (h : RIn w bv pv s) :
    Calls Try.prog 19 #[.agg #[bv, pv, .bool s.down, .bool s.armed, .int .i64 s.steps, .int .u64 s.mask], .int .i64 i] w fun e w' => e = .returned (.tuple #[.string (s.read i).1, .int .i64 (s.read i).2]) ∧ Below w.heap.size w w' := by
  obtain ⟨xa, xn, xc, xa', xn', xc', rfl, rfl⟩ := h.sh
  have HFI := Lib.hid h.fine
  have H0 := Lib.hid h
  obtain ⟨bl, pn, dn, ar, st, mk⟩ := s
  dsimp only at *
  have hst := h.fine.steps
  have HMK := Lib.hid h.fine.mask
  dsimp only at hst
  obtain ⟨hs1, hs2⟩ := hst
  have HXN := Lib.hid h.blen
  have HPN := Lib.hid h.plen
  have hl := h.fine.len
  have hfw := h.few
  dsimp only at hl hfw
  clear h
  cases dn with
  | true =>
    have HW : Hid ((⟨bl, pn, true, ar, st, mk⟩ : DS).read i = (ByteArray.empty, 17)) := Lib.hid rfl
    go_enter Try.func19, Try.ntmps19
    go_wp2
    go_ret2
    rw [HW.out]
    exact ⟨rfl, newB _ _⟩
  | false =>
    have hxn : xn = bl.length := HXN.out
    by_cases h1 : i < 0
    · have HW : Hid ((⟨bl, pn, false, ar, st, mk⟩ : DS).read i = (ByteArray.empty, 9)) := by
        have : inB (⟨bl, pn, false, ar, st, mk⟩ : DS) i = false := by unfold inB; simp; omega
        unfold Hid DS.read; rw [this]; rfl
      have b1 : decide (i < 0) = true := by simpa using h1
      clear hxn
      go_enter Try.func19, Try.ntmps19
      go_wp2
      go_ret2
      rw [HW.out]
      exact ⟨rfl, newB _ _⟩
    have b1 : decide (i < 0) = false := by simpa using h1
    by_cases h2 : (xn : Int) ≤ i
    · have HW : Hid ((⟨bl, pn, false, ar, st, mk⟩ : DS).read i = (ByteArray.empty, 9)) := by
        have : inB (⟨bl, pn, false, ar, st, mk⟩ : DS) i = false := by unfold inB; simp; omega
        unfold Hid DS.read; rw [this]; rfl
      have b2 : decide ((xn : Int) ≤ i) = true := by simpa using h2
      clear hxn
      go_enter Try.func19, Try.ntmps19
      go_wp2
      go_ret2
      rw [HW.out]
      exact ⟨rfl, newB _ _⟩
    have b2 : decide ((xn : Int) ≤ i) = false := by simpa using h2
    obtain ⟨m, rfl⟩ : ∃ m : Nat, i = (m : Int) := ⟨i.toNat, by omega⟩
    have b2' : decide (xn ≤ m) = false := by simp; omega
    have hmb : m < bl.length := by omega
    have HW : Hid ((⟨bl, pn, false, ar, st, mk⟩ : DS).read m = ((newest pn m).getD bl[m], 0)) := by
      have : inB (⟨bl, pn, false, ar, st, mk⟩ : DS) m = true := (inB_iff _ _).2 ⟨m, rfl, hmb⟩
      unfold Hid DS.read; rw [this]; simp [hmb]
    obtain ⟨bb, ob, cb, hbe, _⟩ := H0.out.bform
    have hxa := (Value.slice.inj hbe).1
    subst hxa
    have hpn : xn' = pn.length := HPN.out
    subst hpn
    have hA := newB w (.cells #[.slice (some ⟨bb, ob, none⟩) xn xc, .slice xa' pn.length xc', .bool false, .bool ar, .int .i64 st, .int .u64 mk] 30)
    have HA := Lib.hid (H0.out.below hA)
    have HX := Lib.hid (blk_new w #[.slice (some ⟨bb, ob, none⟩) xn xc, .slice xa' pn.length xc', .bool false, .bool ar, .int .i64 st, .int .u64 mk] 30)
    have HAB := Lib.hid hA
    have cm := sl_str HA.out.blocks m hmb
    generalize bl[m] = bm at *
    have j1 : (0 : Int) ≤ (m : Int) := by omega
    have j2 : (m : Int) < (xn : Int) := by omega
    clear hxn hA hbe
    go_enter Try.func19, Try.ntmps19
    go_wp2
    clear cm
    generalize hW1 : w.alloc (.cells #[.slice (some ⟨bb, ob, none⟩) xn xc, .slice xa' pn.length xc', .bool false, .bool ar, .int .i64 st, .int .u64 mk] 30) = W1 at *
    clear hW1
    go_loop [6, 7] (fun sv k => ∃ n : Nat, n ≤ pn.length ∧ k = .int .i64 n ∧ sv = .string ((newest (pn.take n) m).getD bm)) (fun _ k => pn.length - (intOf k).toNat)
    case atStart => exact ⟨0, by omega, rfl, rfl⟩
    case round =>
      obtain ⟨n, hn, rfl, rfl⟩ := hrel
      have z1 := blkc HX.out 1 _ rfl
      by_cases hlt : n < pn.length
      · obtain ⟨bp, op, rfl, hbp, q0, q1⟩ := sl_wr HA.out.pend n hlt
        obtain ⟨⟨mm, hmm, hml⟩, hsz⟩ := HFI.out.pend pn[n] (List.getElem_mem _)
        have HE := Lib.hid (newest_take pn n hlt m)
        rw [hmm] at q0
        rw [hmm] at HE
        generalize pn[n].2 = tx at *
        have i1 : (0 : Int) ≤ (n : Int) := by omega
        have i2 : (n : Int) < (pn.length : Int) := by omega
        clear hmm
        by_cases he : mm = m
        · subst he
          have HE2 : Hid (newest (pn.take (n + 1)) mm = some tx) := by unfold Hid; rw [HE.out, if_pos rfl]
          go_wp2
          go_round
          case rel => exact ⟨n + 1, by omega, by go_num, by rw [HE2.out]; rfl⟩
          case measure => simp [intOf]; omega
        · have HE2 : Hid (newest (pn.take (n + 1)) m = newest (pn.take n) m) := by unfold Hid; rw [HE.out, if_neg (by omega)]
          have b5 : ((mm : Int) == (m : Int)) = false := beq_eq_false_iff_ne.2 (by omega)
          have b6 : (mm == m) = false := beq_eq_false_iff_ne.2 (by omega)
          go_wp2
          go_round
          case rel => exact ⟨n + 1, by omega, by go_num, by rw [HE2.out]⟩
          case measure => simp [intOf]; omega
      · obtain rfl : n = pn.length := by omega
        go_wp2
        go_ret2
        rw [HW.out]
        exact ⟨rfl, HAB.out⟩
end Go.Proofs.Ytgcbfpimfmkbmaa.Dk
