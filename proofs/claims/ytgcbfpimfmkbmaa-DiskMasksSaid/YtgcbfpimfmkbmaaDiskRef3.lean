/- The walks of the reference: step, Write, Read, Flush, Arm, Crash, Recover. -/
import Derived.Test.YtgcbfpimfmkbmaaDiskRef2
import Derived.Test.YtgcbfpimfmkbmaaKitAppend
namespace Go.Proofs.Ytgcbfpimfmkbmaa.Dk
set_option linter.unusedVariables false
set_option linter.unusedSimpArgs false
open Go.RowKit Go.ChangeMaps

set_option maxRecDepth 100000 in
set_option maxHeartbeats 4000000 in
theorem rstep_any (bv pv : Value) (s : DS) (w : World) (h : RIn w bv pv s) : Calls Try.prog 38 #[.agg #[bv, pv, .bool s.down, .bool s.armed, .int .i64 s.steps, .int .u64 s.mask]] w (RPost w bv pv s.step.1 (.bool s.step.2)) := by
  obtain ⟨xa, xn, xc, xa', xn', xc', rfl, rfl⟩ := h.sh
  have HFI := Lib.hid h.fine
  have H0 := Lib.hid h
  obtain ⟨bl, pn, dn, ar, st, mk⟩ := s
  dsimp only at *
  have hst := h.fine.steps
  have HMK := Lib.hid h.fine.mask
  dsimp only at hst
  obtain ⟨hs1, hs2⟩ := hst
  clear h
  cases ar with
  | false =>
    have HW : Hid ((⟨bl, pn, dn, false, st, mk⟩ : DS).step = ((⟨bl, pn, dn, false, st, mk⟩ : DS), true)) := Lib.hid rfl
    have HF := HFI
    go_enter Try.func38, Try.ntmps38
    go_wp2
    exact bodyPost_ret (v := .tuple #[.agg #[.slice xa xn xc, .slice xa' xn' xc', .bool dn, .bool false, .int .i64 st, .int .u64 mk], .bool true]) (by simp [results, Try.results38, go_sem]) rfl (by rw [HW.out]; exact ⟨_, _, rfl, (H0.out.below (chainB (newB _ _) (newB _ _))).flag rfl rfl HF.out, From.refl _ _ _, chainB (newB _ _) (newB _ _)⟩)
  | true =>
    by_cases h0 : st = 0
    · subst h0
      have HW : Hid ((⟨bl, pn, dn, true, 0, mk⟩ : DS).step = ((⟨bl, pn, dn, true, 0, mk⟩ : DS).crash mk, false)) := Lib.hid rfl
      have hA := newB w (.cells #[.slice xa xn xc, .slice xa' xn' xc', .bool dn, .bool true, .int .i64 0, .int .u64 mk] 30)
      have hA2 := newB (w.alloc (.cells #[.slice xa xn xc, .slice xa' xn' xc', .bool dn, .bool true, .int .i64 0, .int .u64 mk] 30)) (.cells #[.slice none 0 0, .slice none 0 0, .bool false, .bool false, .int .i64 0, .int .u64 0] 30)
      have hb2 := chainB hA hA2
      have HX : Hid (((w.alloc (.cells #[.slice xa xn xc, .slice xa' xn' xc', .bool dn, .bool true, .int .i64 0, .int .u64 mk] 30)).alloc (.cells #[.slice none 0 0, .slice none 0 0, .bool false, .bool false, .int .i64 0, .int .u64 0] 30)).heap[w.heap.size]? = some (.cells #[.slice xa xn xc, .slice xa' xn' xc', .bool dn, .bool true, .int .i64 0, .int .u64 mk] 30 (0, 0))) := Lib.hid (by rw [hA2.block _ (by simp)]; exact blk_new _ _ _)
      have HR : Hid (((w.alloc (.cells #[.slice xa xn xc, .slice xa' xn' xc', .bool dn, .bool true, .int .i64 0, .int .u64 mk] 30)).alloc (.cells #[.slice none 0 0, .slice none 0 0, .bool false, .bool false, .int .i64 0, .int .u64 0] 30)).heap[w.heap.size + 1]? = some (.cells #[.slice none 0 0, .slice none 0 0, .bool false, .bool false, .int .i64 0, .int .u64 0] 30 (0, 0))) := Lib.hid (by have := blk_new (w.alloc (.cells #[.slice xa xn xc, .slice xa' xn' xc', .bool dn, .bool true, .int .i64 0, .int .u64 mk] 30)) #[.slice none 0 0, .slice none 0 0, .bool false, .bool false, .int .i64 0, .int .u64 0] 30; simpa using this)
      have H2 := Lib.hid (H0.out.below hb2)
      have HB2 := Lib.hid hb2
      have HZ2 := Lib.hid hb2.size
      have HS2 : Hid (w.heap.size + 2 ≤ ((w.alloc (.cells #[.slice xa xn xc, .slice xa' xn' xc', .bool dn, .bool true, .int .i64 0, .int .u64 mk] 30)).alloc (.cells #[.slice none 0 0, .slice none 0 0, .bool false, .bool false, .int .i64 0, .int .u64 0] 30)).heap.size) := Lib.hid (by simp)
      clear hA hA2 hb2
      go_enter Try.func38, Try.ntmps38
      go_wp2_with fail
      refine (crashed_any _ _ (⟨bl, pn, dn, true, 0, mk⟩ : DS) mk HMK.out _ H2.out).mono ?_
      rintro e w2 ⟨bv', pv', rfl, hr2, hf2, hb2⟩
      have HR2 := Lib.hid (show w2.heap[w.heap.size + 1]? = _ from (hb2.block _ (by have := HS2.out; omega)).trans HR.out)
      have HBW := Lib.hid (chainB HB2.out hb2)
      have HFR := Lib.hid hf2
      generalize (⟨bl, pn, dn, true, 0, mk⟩ : DS).crash mk = s2 at *
      have HI := Lib.hid hr2
      have HAP := Lib.hid (hf2.apart H0.out.lb H0.out.lp)
      have hgs := HS2.out
      have hgb := hb2.size
      clear hr2 hf2 hb2
      obtain ⟨ya, yn, yc, ya', yn', yc', rfl, rfl⟩ := HI.out.sh
      obtain ⟨bl2, pn2, dn2, ar2, st2, mk2⟩ := s2
      dsimp only at *
      have r0 := blkc HR2.out 0 _ rfl; have t0 := blkf HR2.out 0
      have r1 := blkc HR2.out 1 _ rfl; have t1 := blkf HR2.out 1
      have r2 := blkc HR2.out 2 _ rfl; have t2 := blkf HR2.out 2
      have r3 := blkc HR2.out 3 _ rfl; have t3 := blkf HR2.out 3
      have r4 := blkc HR2.out 4 _ rfl; have t4 := blkf HR2.out 4
      have r5 := blkc HR2.out 5 _ rfl; have t5 := blkf HR2.out 5
      go_wp2
      have hk5 := put6_keeps w2 (w.heap.size + 1) (.slice ya yn yc) (.slice ya' yn' yc') (.bool dn2) (.bool ar2) (.int .i64 st2) (.int .u64 mk2)
      have hb5 := put6_below HBW.out (g := w.heap.size + 1) (by omega) (.slice ya yn yc) (.slice ya' yn' yc') (.bool dn2) (.bool ar2) (.int .i64 st2) (.int .u64 mk2)
      have hri := HI.out.keeps hk5 (fun k hk e => by have := HAP.out.1 k hk; omega) (fun k hk e => by have := HAP.out.2 k hk; omega)
      refine bodyPost_ret (v := .tuple #[.agg #[.slice ya yn yc, .slice ya' yn' yc', .bool dn2, .bool ar2, .int .i64 st2, .int .u64 mk2], .bool false]) (by simp [results, Try.results38, go_sem, r0, r1, r2, r3, r4, r5]) rfl ?_
      rw [HW.out]
      exact ⟨_, _, rfl, hri, From.trans (From.refl w _ _) HFR.out HZ2.out, hb5⟩
    · have HW : Hid ((⟨bl, pn, dn, true, st, mk⟩ : DS).step = ((⟨bl, pn, dn, true, (st - 1), mk⟩ : DS), true)) := by unfold Hid DS.step; dsimp only; rw [if_pos rfl, if_neg h0]
      have HF := Lib.hid HFI.out.step
      rw [HW.out] at HF
      have b0 : (st == 0) = false := by simpa using h0
      go_enter Try.func38, Try.ntmps38
      go_wp2
      exact bodyPost_ret (v := .tuple #[.agg #[.slice xa xn xc, .slice xa' xn' xc', .bool dn, .bool true, .int .i64 (st - 1), .int .u64 mk], .bool true]) (by simp [results, Try.results38, go_sem]) rfl (by rw [HW.out]; exact ⟨_, _, rfl, (H0.out.below (chainB (newB _ _) (newB _ _))).flag rfl rfl HF.out, From.refl _ _ _, chainB (newB _ _) (newB _ _)⟩)

end Go.Proofs.Ytgcbfpimfmkbmaa.Dk
