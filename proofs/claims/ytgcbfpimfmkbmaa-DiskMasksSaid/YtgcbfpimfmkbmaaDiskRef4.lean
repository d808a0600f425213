/- The walks of the reference: Flush, Arm, Crash, Recover, Write. -/
import Derived.Test.YtgcbfpimfmkbmaaDiskRef3
namespace Go.Proofs.Ytgcbfpimfmkbmaa.Dk
set_option linter.unusedVariables false
set_option linter.unusedSimpArgs false
open Go.RowKit Go.ChangeMaps

theorem bit_max (k : Nat) : bitOf 18446744073709551615 k = true := by
  have h : ∀ j : Fin 64, ((18446744073709551615 : Int) / 2 ^ j.val % 2 == 1) = true := by decide +kernel
  exact h ⟨k % 64, Nat.mod_lt _ (by omega)⟩
theorem bit_all : bitOf 18446744073709551615 = fun _ => true := funext bit_max
theorem RIn.blen {w : World} {a : Option Addr} {n c : Nat} {pv : Value} {s : DS} (h : RIn w (.slice a n c) pv s) : n = s.blocks.length := by
  obtain ⟨_, _, he, _⟩ := h.blocks; exact (Value.slice.inj he).2.1
theorem RIn.plen {w : World} {a : Option Addr} {n c : Nat} {bv : Value} {s : DS} (h : RIn w bv (.slice a n c) s) : n = s.pend.length := by
  obtain ⟨_, _, he, _⟩ := h.pend; exact (Value.slice.inj he).2.1

set_option maxRecDepth 100000 in
set_option maxHeartbeats 4000000 in
theorem rarm_any (bv pv : Value) (s : DS) (i m : Int) (hm : 0 ≤ m ∧ m < 18446744073709551616) (w : World) (h : RIn w bv pv s) :
    Calls Try.prog 31 #[.agg #[bv, pv, .bool s.down, .bool s.armed, .int .i64 s.steps, .int .u64 s.mask], .int .i64 i, .int .u64 m] w (RPost w bv pv (s.arm i m).1 (.int .i64 (s.arm i m).2)) := by
  obtain ⟨xa, xn, xc, xa', xn', xc', rfl, rfl⟩ := h.sh
  have HFI := Lib.hid h.fine
  have H0 := Lib.hid h
  obtain ⟨bl, pn, dn, ar, st, mk⟩ := s
  dsimp only at *
  have hst := h.fine.steps
  have HMK := Lib.hid h.fine.mask
  dsimp only at hst
  obtain ⟨hs1, hs2⟩ := hst
  have HM := Lib.hid hm
  clear h hm
  cases dn with
  | true =>
    have HW : Hid ((⟨bl, pn, true, ar, st, mk⟩ : DS).arm i m = ((⟨bl, pn, true, ar, st, mk⟩ : DS), 17)) := Lib.hid rfl
    have HF := HFI
    go_enter Try.func31, Try.ntmps31
    go_wp2
    exact bodyPost_ret (v := .tuple #[.agg #[.slice xa xn xc, .slice xa' xn' xc', .bool true, .bool ar, .int .i64 st, .int .u64 mk], .int .i64 17]) (by simp [results, Try.results31, go_sem]) rfl (by rw [HW.out]; exact ⟨_, _, rfl, (H0.out.below (chainB (newB _ _) (newB _ _))).flag rfl rfl HF.out, From.refl _ _ _, chainB (newB _ _) (newB _ _)⟩)
  | false =>
    by_cases h1 : i < 0
    · have HW : Hid ((⟨bl, pn, false, ar, st, mk⟩ : DS).arm i m = ((⟨bl, pn, false, ar, st, mk⟩ : DS), 9)) := by unfold Hid DS.arm; dsimp only; rw [if_neg (by simp), if_neg (by omega)]
      have HF := HFI
      have b1 : decide (i < 0) = true := by simpa using h1
      go_enter Try.func31, Try.ntmps31
      go_wp2
      exact bodyPost_ret (v := .tuple #[.agg #[.slice xa xn xc, .slice xa' xn' xc', .bool false, .bool ar, .int .i64 st, .int .u64 mk], .int .i64 9]) (by simp [results, Try.results31, go_sem]) rfl (by rw [HW.out]; exact ⟨_, _, rfl, (H0.out.below (chainB (newB _ _) (newB _ _))).flag rfl rfl HF.out, From.refl _ _ _, chainB (newB _ _) (newB _ _)⟩)
    have b1 : decide (i < 0) = false := by simpa using h1
    by_cases h2 : 1099511627776 < i
    · have HW : Hid ((⟨bl, pn, false, ar, st, mk⟩ : DS).arm i m = ((⟨bl, pn, false, ar, st, mk⟩ : DS), 9)) := by unfold Hid DS.arm; dsimp only; rw [if_neg (by simp), if_neg (by omega)]
      have HF := HFI
      have b2 : decide (1099511627776 < i) = true := by simpa using h2
      go_enter Try.func31, Try.ntmps31
      go_wp2
      exact bodyPost_ret (v := .tuple #[.agg #[.slice xa xn xc, .slice xa' xn' xc', .bool false, .bool ar, .int .i64 st, .int .u64 mk], .int .i64 9]) (by simp [results, Try.results31, go_sem]) rfl (by rw [HW.out]; exact ⟨_, _, rfl, (H0.out.below (chainB (newB _ _) (newB _ _))).flag rfl rfl HF.out, From.refl _ _ _, chainB (newB _ _) (newB _ _)⟩)
    have b2 : decide (1099511627776 < i) = false := by simpa using h2
    have HW : Hid ((⟨bl, pn, false, ar, st, mk⟩ : DS).arm i m = ((⟨bl, pn, false, true, i, m⟩ : DS), 0)) := by unfold Hid DS.arm; dsimp only; rw [if_neg (by simp), if_pos (by omega)]
    have HF : Hid (Fine (⟨bl, pn, false, true, i, m⟩ : DS)) := Lib.hid ⟨HFI.out.len, HFI.out.text, HFI.out.pend, ⟨by dsimp only; omega, by dsimp only; omega⟩, HM.out⟩
    go_enter Try.func31, Try.ntmps31
    go_wp2
    exact bodyPost_ret (v := .tuple #[.agg #[.slice xa xn xc, .slice xa' xn' xc', .bool false, .bool true, .int .i64 i, .int .u64 m], .int .i64 0]) (by simp [results, Try.results31, go_sem]) rfl (by rw [HW.out]; exact ⟨_, _, rfl, (H0.out.below (chainB (newB _ _) (newB _ _))).flag rfl rfl HF.out, From.refl _ _ _, chainB (newB _ _) (newB _ _)⟩)

set_option maxRecDepth 100000 in
set_option maxHeartbeats 4000000 in
theorem rrecover_any (bv pv : Value) (s : DS) (w : World) (h : RIn w bv pv s) :
    Calls Try.prog 33 #[.agg #[bv, pv, .bool s.down, .bool s.armed, .int .i64 s.steps, .int .u64 s.mask]] w (RPost w bv pv s.recover.1 (.int .i64 s.recover.2)) := by
  obtain ⟨xa, xn, xc, xa', xn', xc', rfl, rfl⟩ := h.sh
  have HFI := Lib.hid h.fine
  have H0 := Lib.hid h
  obtain ⟨bl, pn, dn, ar, st, mk⟩ := s
  dsimp only at *
  have hst := h.fine.steps
  have HMK := Lib.hid h.fine.mask
  dsimp only at hst
  obtain ⟨hs1, hs2⟩ := hst
  clear h
  cases dn with
  | true =>
    have HW : Hid ((⟨bl, pn, true, ar, st, mk⟩ : DS).recover = ((⟨bl, pn, false, ar, st, mk⟩ : DS), 0)) := Lib.hid rfl
    have HF : Hid (Fine (⟨bl, pn, false, ar, st, mk⟩ : DS)) := Lib.hid ⟨HFI.out.len, HFI.out.text, HFI.out.pend, HFI.out.steps, HFI.out.mask⟩
    go_enter Try.func33, Try.ntmps33
    go_wp2
    exact bodyPost_ret (v := .tuple #[.agg #[.slice xa xn xc, .slice xa' xn' xc', .bool false, .bool ar, .int .i64 st, .int .u64 mk], .int .i64 0]) (by simp [results, Try.results33, go_sem]) rfl (by rw [HW.out]; exact ⟨_, _, rfl, (H0.out.below (chainB (newB _ _) (newB _ _))).flag rfl rfl HF.out, From.refl _ _ _, chainB (newB _ _) (newB _ _)⟩)
  | false =>
    have HW : Hid ((⟨bl, pn, false, ar, st, mk⟩ : DS).recover = ((⟨bl, pn, false, ar, st, mk⟩ : DS), 14)) := Lib.hid rfl
    have HF := HFI
    go_enter Try.func33, Try.ntmps33
    go_wp2
    exact bodyPost_ret (v := .tuple #[.agg #[.slice xa xn xc, .slice xa' xn' xc', .bool false, .bool ar, .int .i64 st, .int .u64 mk], .int .i64 14]) (by simp [results, Try.results33, go_sem]) rfl (by rw [HW.out]; exact ⟨_, _, rfl, (H0.out.below (chainB (newB _ _) (newB _ _))).flag rfl rfl HF.out, From.refl _ _ _, chainB (newB _ _) (newB _ _)⟩)

set_option maxRecDepth 100000 in
set_option maxHeartbeats 4000000 in
theorem rhit_any (bv pv : Value) (s : DS) (m : Int) (hm : 0 ≤ m ∧ m < 18446744073709551616) (w : World) (h : RIn w bv pv s) :
    Calls Try.prog 32 #[.agg #[bv, pv, .bool s.down, .bool s.armed, .int .i64 s.steps, .int .u64 s.mask], .int .u64 m] w (RPost w bv pv (s.hit m).1 (.int .i64 (s.hit m).2)) := by
  obtain ⟨xa, xn, xc, xa', xn', xc', rfl, rfl⟩ := h.sh
  have HFI := Lib.hid h.fine
  have H0 := Lib.hid h
  obtain ⟨bl, pn, dn, ar, st, mk⟩ := s
  dsimp only at *
  have hst := h.fine.steps
  have HMK := Lib.hid h.fine.mask
  dsimp only at hst
  obtain ⟨hs1, hs2⟩ := hst
  have HM := Lib.hid hm
  clear h hm
  cases dn with
  | true =>
    have HW : Hid ((⟨bl, pn, true, ar, st, mk⟩ : DS).hit m = ((⟨bl, pn, true, ar, st, mk⟩ : DS), 17)) := Lib.hid rfl
    have HF := HFI
    go_enter Try.func32, Try.ntmps32
    go_wp2
    exact bodyPost_ret (v := .tuple #[.agg #[.slice xa xn xc, .slice xa' xn' xc', .bool true, .bool ar, .int .i64 st, .int .u64 mk], .int .i64 17]) (by simp [results, Try.results32, go_sem]) rfl (by rw [HW.out]; exact ⟨_, _, rfl, (H0.out.below (chainB (newB _ _) (newB _ _))).flag rfl rfl HF.out, From.refl _ _ _, chainB (newB _ _) (newB _ _)⟩)
  | false =>
    have HW : Hid ((⟨bl, pn, false, ar, st, mk⟩ : DS).hit m = ((⟨bl, pn, false, ar, st, mk⟩ : DS).crash m, 0)) := Lib.hid rfl
    have hA := newB w (.cells #[.slice xa xn xc, .slice xa' xn' xc', .bool false, .bool ar, .int .i64 st, .int .u64 mk] 30)
    have hA2 := newB (w.alloc (.cells #[.slice xa xn xc, .slice xa' xn' xc', .bool false, .bool ar, .int .i64 st, .int .u64 mk] 30)) (.cells #[.slice none 0 0, .slice none 0 0, .bool false, .bool false, .int .i64 0, .int .u64 0] 30)
    have hb2 := chainB hA hA2
    have HX : Hid (((w.alloc (.cells #[.slice xa xn xc, .slice xa' xn' xc', .bool false, .bool ar, .int .i64 st, .int .u64 mk] 30)).alloc (.cells #[.slice none 0 0, .slice none 0 0, .bool false, .bool false, .int .i64 0, .int .u64 0] 30)).heap[w.heap.size]? = some (.cells #[.slice xa xn xc, .slice xa' xn' xc', .bool false, .bool ar, .int .i64 st, .int .u64 mk] 30 (0, 0))) := Lib.hid (by rw [hA2.block _ (by simp)]; exact blk_new _ _ _)
    have HR : Hid (((w.alloc (.cells #[.slice xa xn xc, .slice xa' xn' xc', .bool false, .bool ar, .int .i64 st, .int .u64 mk] 30)).alloc (.cells #[.slice none 0 0, .slice none 0 0, .bool false, .bool false, .int .i64 0, .int .u64 0] 30)).heap[w.heap.size + 1]? = some (.cells #[.slice none 0 0, .slice none 0 0, .bool false, .bool false, .int .i64 0, .int .u64 0] 30 (0, 0))) := Lib.hid (by have := blk_new (w.alloc (.cells #[.slice xa xn xc, .slice xa' xn' xc', .bool false, .bool ar, .int .i64 st, .int .u64 mk] 30)) #[.slice none 0 0, .slice none 0 0, .bool false, .bool false, .int .i64 0, .int .u64 0] 30; simpa using this)
    have H2 := Lib.hid (H0.out.below hb2)
    have HB2 := Lib.hid hb2
    have HZ2 := Lib.hid hb2.size
    have HS2 : Hid (w.heap.size + 2 ≤ ((w.alloc (.cells #[.slice xa xn xc, .slice xa' xn' xc', .bool false, .bool ar, .int .i64 st, .int .u64 mk] 30)).alloc (.cells #[.slice none 0 0, .slice none 0 0, .bool false, .bool false, .int .i64 0, .int .u64 0] 30)).heap.size) := Lib.hid (by simp)
    clear hA hA2 hb2
    go_enter Try.func32, Try.ntmps32
    go_wp2_with fail
    refine (crashed_any _ _ (⟨bl, pn, false, ar, st, mk⟩ : DS) m HM.out _ H2.out).mono ?_
    rintro e w2 ⟨bv', pv', rfl, hr2, hf2, hb2⟩
    have HR2 := Lib.hid (show w2.heap[w.heap.size + 1]? = _ from (hb2.block _ (by have := HS2.out; omega)).trans HR.out)
    have HBW := Lib.hid (chainB HB2.out hb2)
    have HFR := Lib.hid hf2
    generalize (⟨bl, pn, false, ar, st, mk⟩ : DS).crash m = s2 at *
    have HI := Lib.hid hr2
    have HAP := Lib.hid (hf2.apart H0.out.lb H0.out.lp)
    have hgs := HS2.out
    have hgb := hb2.size
    clear hr2 hf2 hb2
    obtain ⟨ya, yn, yc, ya', yn', yc', rfl, rfl⟩ := HI.out.sh
    obtain ⟨bl2, pn2, dn2, ar2, st2, mk2⟩ := s2
    dsimp only at *
    have r0 := blkc HR2.out 0 _ rfl; have t0 := blkf HR2.out 0
    have r1 := blkc HR2.out 1 _ rfl; have t1 := blkf HR2.out 1
    have r2 := blkc HR2.out 2 _ rfl; have t2 := blkf HR2.out 2
    have r3 := blkc HR2.out 3 _ rfl; have t3 := blkf HR2.out 3
    have r4 := blkc HR2.out 4 _ rfl; have t4 := blkf HR2.out 4
    have r5 := blkc HR2.out 5 _ rfl; have t5 := blkf HR2.out 5
    go_wp2
    have hk5 := put6_keeps w2 (w.heap.size + 1) (.slice ya yn yc) (.slice ya' yn' yc') (.bool dn2) (.bool ar2) (.int .i64 st2) (.int .u64 mk2)
    have hb5 := put6_below HBW.out (g := w.heap.size + 1) (by omega) (.slice ya yn yc) (.slice ya' yn' yc') (.bool dn2) (.bool ar2) (.int .i64 st2) (.int .u64 mk2)
    have hri := HI.out.keeps hk5 (fun k hk e => by have := HAP.out.1 k hk; omega) (fun k hk e => by have := HAP.out.2 k hk; omega)
    refine bodyPost_ret (v := .tuple #[.agg #[.slice ya yn yc, .slice ya' yn' yc', .bool dn2, .bool ar2, .int .i64 st2, .int .u64 mk2], .int .i64 0]) (by simp [results, Try.results32, go_sem, r0, r1, r2, r3, r4, r5]) rfl ?_
    rw [HW.out]
    exact ⟨_, _, rfl, hri, From.trans (From.refl w _ _) HFR.out HZ2.out, hb5⟩

set_option maxRecDepth 100000 in
set_option maxHeartbeats 4000000 in
theorem rflush_any (bv pv : Value) (s : DS) (w : World) (h : RIn w bv pv s) :
    Calls Try.prog 30 #[.agg #[bv, pv, .bool s.down, .bool s.armed, .int .i64 s.steps, .int .u64 s.mask]] w (RPost w bv pv s.flush.1 (.int .i64 s.flush.2)) := by
  obtain ⟨xa, xn, xc, xa', xn', xc', rfl, rfl⟩ := h.sh
  have HFI := Lib.hid h.fine
  have H0 := Lib.hid h
  obtain ⟨bl, pn, dn, ar, st, mk⟩ := s
  dsimp only at *
  have hst := h.fine.steps
  have HMK := Lib.hid h.fine.mask
  dsimp only at hst
  obtain ⟨hs1, hs2⟩ := hst
  clear h
  cases dn with
  | true =>
    have HW : Hid ((⟨bl, pn, true, ar, st, mk⟩ : DS).flush = ((⟨bl, pn, true, ar, st, mk⟩ : DS), 17)) := Lib.hid rfl
    have HF := HFI
    go_enter Try.func30, Try.ntmps30
    go_wp2
    exact bodyPost_ret (v := .tuple #[.agg #[.slice xa xn xc, .slice xa' xn' xc', .bool true, .bool ar, .int .i64 st, .int .u64 mk], .int .i64 17]) (by simp [results, Try.results30, go_sem]) rfl (by rw [HW.out]; exact ⟨_, _, rfl, (H0.out.below (chainB (newB _ _) (newB _ _))).flag rfl rfl HF.out, From.refl _ _ _, chainB (newB _ _) (newB _ _)⟩)
  | false =>
    have hA := newB w (.cells #[.slice xa xn xc, .slice xa' xn' xc', .bool false, .bool ar, .int .i64 st, .int .u64 mk] 30)
    have hA2 := newB (w.alloc (.cells #[.slice xa xn xc, .slice xa' xn' xc', .bool false, .bool ar, .int .i64 st, .int .u64 mk] 30)) (.cells #[.slice none 0 0, .slice none 0 0, .bool false, .bool false, .int .i64 0, .int .u64 0] 30)
    have hb2 := chainB hA hA2
    have HX : Hid (((w.alloc (.cells #[.slice xa xn xc, .slice xa' xn' xc', .bool false, .bool ar, .int .i64 st, .int .u64 mk] 30)).alloc (.cells #[.slice none 0 0, .slice none 0 0, .bool false, .bool false, .int .i64 0, .int .u64 0] 30)).heap[w.heap.size]? = some (.cells #[.slice xa xn xc, .slice xa' xn' xc', .bool false, .bool ar, .int .i64 st, .int .u64 mk] 30 (0, 0))) := Lib.hid (by rw [hA2.block _ (by simp)]; exact blk_new _ _ _)
    have HR : Hid (((w.alloc (.cells #[.slice xa xn xc, .slice xa' xn' xc', .bool false, .bool ar, .int .i64 st, .int .u64 mk] 30)).alloc (.cells #[.slice none 0 0, .slice none 0 0, .bool false, .bool false, .int .i64 0, .int .u64 0] 30)).heap[w.heap.size + 1]? = some (.cells #[.slice none 0 0, .slice none 0 0, .bool false, .bool false, .int .i64 0, .int .u64 0] 30 (0, 0))) := Lib.hid (by have := blk_new (w.alloc (.cells #[.slice xa xn xc, .slice xa' xn' xc', .bool false, .bool ar, .int .i64 st, .int .u64 mk] 30)) #[.slice none 0 0, .slice none 0 0, .bool false, .bool false, .int .i64 0, .int .u64 0] 30; simpa using this)
    have H2 := Lib.hid (H0.out.below hb2)
    have HB2 := Lib.hid hb2
    have HZ2 := Lib.hid hb2.size
    have HS2 : Hid (w.heap.size + 2 ≤ ((w.alloc (.cells #[.slice xa xn xc, .slice xa' xn' xc', .bool false, .bool ar, .int .i64 st, .int .u64 mk] 30)).alloc (.cells #[.slice none 0 0, .slice none 0 0, .bool false, .bool false, .int .i64 0, .int .u64 0] 30)).heap.size) := Lib.hid (by simp)
    clear hA hA2 hb2
    rcases (Bool.eq_false_or_eq_true (⟨bl, pn, false, ar, st, mk⟩ : DS).step.2).symm with hst | hst
    · have HW : Hid ((⟨bl, pn, false, ar, st, mk⟩ : DS).flush = ((⟨bl, pn, false, ar, st, mk⟩ : DS).step.1, 17)) := by unfold Hid DS.flush; rw [hst]; rfl
      have HST := Lib.hid hst
      clear hst
      go_enter Try.func30, Try.ntmps30
      go_wp2_with fail
      refine (rstep_any _ _ (⟨bl, pn, false, ar, st, mk⟩ : DS) _ H2.out).mono ?_
      rintro e w2 ⟨bv', pv', rfl, hr2, hf2, hb2⟩
      have HR2 := Lib.hid (show w2.heap[w.heap.size + 1]? = _ from (hb2.block _ (by have := HS2.out; omega)).trans HR.out)
      have HBW := Lib.hid (chainB HB2.out hb2)
      have HFR := Lib.hid hf2
      rw [HST.out]
      generalize (⟨bl, pn, false, ar, st, mk⟩ : DS).step.1 = s2 at *
      have HI := Lib.hid hr2
      have HAP := Lib.hid (hf2.apart H0.out.lb H0.out.lp)
      have hgs := HS2.out
      have hgb := hb2.size
      clear hr2 hf2 hb2
      obtain ⟨ya, yn, yc, ya', yn', yc', rfl, rfl⟩ := HI.out.sh
      obtain ⟨bl2, pn2, dn2, ar2, st2, mk2⟩ := s2
      dsimp only at *
      have hX := newB w2 (.cells #[.slice ya yn yc, .slice ya' yn' yc', .bool dn2, .bool ar2, .int .i64 st2, .int .u64 mk2] 30)
      have HXX := Lib.hid (blk_new w2 #[.slice ya yn yc, .slice ya' yn' yc', .bool dn2, .bool ar2, .int .i64 st2, .int .u64 mk2] 30)
      have HRX := Lib.hid (show (w2.alloc (.cells #[.slice ya yn yc, .slice ya' yn' yc', .bool dn2, .bool ar2, .int .i64 st2, .int .u64 mk2] 30)).heap[w.heap.size + 1]? = _ from (hX.block _ (by omega)).trans HR2.out)
      have HIX := Lib.hid (HI.out.below hX)
      have HBX := Lib.hid (chainB HBW.out hX)
      have HSX : Hid ((w2.alloc (.cells #[.slice ya yn yc, .slice ya' yn' yc', .bool dn2, .bool ar2, .int .i64 st2, .int .u64 mk2] 30)).heap.size = w2.heap.size + 1) := Lib.hid (by simp)
      have r0 := blkc HRX.out 0 _ rfl; have t0 := blkf HRX.out 0
      have r1 := blkc HRX.out 1 _ rfl; have t1 := blkf HRX.out 1
      have r2 := blkc HRX.out 2 _ rfl; have t2 := blkf HRX.out 2
      have r3 := blkc HRX.out 3 _ rfl; have t3 := blkf HRX.out 3
      have r4 := blkc HRX.out 4 _ rfl; have t4 := blkf HRX.out 4
      have r5 := blkc HRX.out 5 _ rfl; have t5 := blkf HRX.out 5
      clear hX
      go_wp2
      have hk5 := put6_keeps (w2.alloc (.cells #[.slice ya yn yc, .slice ya' yn' yc', .bool dn2, .bool ar2, .int .i64 st2, .int .u64 mk2] 30)) (w.heap.size + 1) (.slice ya yn yc) (.slice ya' yn' yc') (.bool dn2) (.bool ar2) (.int .i64 st2) (.int .u64 mk2)
      have hb5 := put6_below HBX.out (g := w.heap.size + 1) (by omega) (.slice ya yn yc) (.slice ya' yn' yc') (.bool dn2) (.bool ar2) (.int .i64 st2) (.int .u64 mk2)
      have hri := HIX.out.keeps hk5 (fun k hk e => by have := HAP.out.1 k hk; omega) (fun k hk e => by have := HAP.out.2 k hk; omega)
      refine bodyPost_ret (v := .tuple #[.agg #[.slice ya yn yc, .slice ya' yn' yc', .bool dn2, .bool ar2, .int .i64 st2, .int .u64 mk2], .int .i64 17]) (by simp [results, Try.results30, go_sem, r0, r1, r2, r3, r4, r5]) rfl ?_
      rw [HW.out]
      exact ⟨_, _, rfl, hri, From.trans (From.refl w _ _) HFR.out HZ2.out, hb5⟩
    · have HW : Hid ((⟨bl, pn, false, ar, st, mk⟩ : DS).flush = ((⟨bl, pn, false, ar, st, mk⟩ : DS).step.1.settle (fun _ => true), 0)) := by unfold Hid DS.flush; rw [hst]; rfl
      have HST := Lib.hid hst
      clear hst
      go_enter Try.func30, Try.ntmps30
      go_wp2_with fail
      refine (rstep_any _ _ (⟨bl, pn, false, ar, st, mk⟩ : DS) _ H2.out).mono ?_
      rintro e w2 ⟨bv', pv', rfl, hr2, hf2, hb2⟩
      have HR2 := Lib.hid (show w2.heap[w.heap.size + 1]? = _ from (hb2.block _ (by have := HS2.out; omega)).trans HR.out)
      have HBW := Lib.hid (chainB HB2.out hb2)
      have HFR := Lib.hid hf2
      rw [HST.out]
      generalize (⟨bl, pn, false, ar, st, mk⟩ : DS).step.1 = s2 at *
      have HI := Lib.hid hr2
      have HAP := Lib.hid (hf2.apart H0.out.lb H0.out.lp)
      have hgs := HS2.out
      have hgb := hb2.size
      clear hr2 hf2 hb2
      obtain ⟨ya, yn, yc, ya', yn', yc', rfl, rfl⟩ := HI.out.sh
      obtain ⟨bl2, pn2, dn2, ar2, st2, mk2⟩ := s2
      dsimp only at *
      have hX := newB w2 (.cells #[.slice ya yn yc, .slice ya' yn' yc', .bool dn2, .bool ar2, .int .i64 st2, .int .u64 mk2] 30)
      have HXX := Lib.hid (blk_new w2 #[.slice ya yn yc, .slice ya' yn' yc', .bool dn2, .bool ar2, .int .i64 st2, .int .u64 mk2] 30)
      have HRX := Lib.hid (show (w2.alloc (.cells #[.slice ya yn yc, .slice ya' yn' yc', .bool dn2, .bool ar2, .int .i64 st2, .int .u64 mk2] 30)).heap[w.heap.size + 1]? = _ from (hX.block _ (by omega)).trans HR2.out)
      have HIX := Lib.hid (HI.out.below hX)
      have HBX := Lib.hid (chainB HBW.out hX)
      have HSX : Hid ((w2.alloc (.cells #[.slice ya yn yc, .slice ya' yn' yc', .bool dn2, .bool ar2, .int .i64 st2, .int .u64 mk2] 30)).heap.size = w2.heap.size + 1) := Lib.hid (by simp)
      clear hX
      go_wp2_with fail
      refine (settled_any _ _ ⟨bl2, pn2, dn2, ar2, st2, mk2⟩ 18446744073709551615 (by omega) _ HIX.out).mono ?_
      rintro e w3 ⟨bv3, pv3, rfl, hr3, hf3, hb3⟩
      rw [bit_all] at hr3 ⊢
      have HR3 := Lib.hid (show w3.heap[w.heap.size + 1]? = _ from (hb3.block _ (by have := HSX.out; omega)).trans HRX.out)
      have HB3 := Lib.hid (chainB HBX.out hb3)
      have HF3 := Lib.hid (HFR.out.trans hf3 (by have := HSX.out; have := HBW.out.size; omega))
      have HAP3 := Lib.hid (HF3.out.apart H0.out.lb H0.out.lp)
      generalize (⟨bl2, pn2, dn2, ar2, st2, mk2⟩ : DS).settle (fun _ => true) = s3 at *
      have HI3 := Lib.hid hr3
      clear hr3 hf3 hb3
      obtain ⟨va, vn, vc, va', vn', vc', rfl, rfl⟩ := HI3.out.sh
      obtain ⟨bl3, pn3, dn3, ar3, st3, mk3⟩ := s3
      dsimp only at *
      replace HAP := HAP3
      replace HFR := HF3
      have r0 := blkc HR3.out 0 _ rfl; have t0 := blkf HR3.out 0
      have r1 := blkc HR3.out 1 _ rfl; have t1 := blkf HR3.out 1
      have r2 := blkc HR3.out 2 _ rfl; have t2 := blkf HR3.out 2
      have r3 := blkc HR3.out 3 _ rfl; have t3 := blkf HR3.out 3
      have r4 := blkc HR3.out 4 _ rfl; have t4 := blkf HR3.out 4
      have r5 := blkc HR3.out 5 _ rfl; have t5 := blkf HR3.out 5
      go_wp2
      have hk5 := put6_keeps w3 (w.heap.size + 1) (.slice va vn vc) (.slice va' vn' vc') (.bool dn3) (.bool ar3) (.int .i64 st3) (.int .u64 mk3)
      have hb5 := put6_below HB3.out (g := w.heap.size + 1) (by omega) (.slice va vn vc) (.slice va' vn' vc') (.bool dn3) (.bool ar3) (.int .i64 st3) (.int .u64 mk3)
      have hri := HI3.out.keeps hk5 (fun k hk e => by have := HAP.out.1 k hk; omega) (fun k hk e => by have := HAP.out.2 k hk; omega)
      refine bodyPost_ret (v := .tuple #[.agg #[.slice va vn vc, .slice va' vn' vc', .bool dn3, .bool ar3, .int .i64 st3, .int .u64 mk3], .int .i64 0]) (by simp [results, Try.results30, go_sem, r0, r1, r2, r3, r4, r5]) rfl ?_
      rw [HW.out]
      exact ⟨_, _, rfl, hri, From.trans (From.refl w _ _) HFR.out HZ2.out, hb5⟩

end Go.Proofs.Ytgcbfpimfmkbmaa.Dk
