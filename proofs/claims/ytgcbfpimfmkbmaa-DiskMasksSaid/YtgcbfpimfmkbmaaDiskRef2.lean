/- The walks of the reference: crashed, step, Write, Read, Flush, Arm, Crash, Recover. -/
import Derived.Test.YtgcbfpimfmkbmaaDiskRef1
import Derived.Deep.DeepCutAuto
namespace Go.Proofs.Ytgcbfpimfmkbmaa.Dk
set_option linter.unusedVariables false
set_option linter.unusedSimpArgs false
open Go.RowKit Go.ChangeMaps

theorem RIn.flag {w : World} {bv pv : Value} {s s' : DS} (h : RIn w bv pv s) (hb : s'.blocks = s.blocks) (hp : s'.pend = s.pend) (hf : Fine s') : RIn w bv pv s' :=
  ⟨by rw [hb]; exact h.blocks, by rw [hp]; exact h.pend, hf, by rw [hp]; exact h.few, h.lb, h.lp⟩
theorem RIn.keeps {S : Nat → Prop} {w w' : World} {bv pv : Value} {s : DS} (h : RIn w bv pv s) (hk : Kit.Keeps S w w') (h1 : ∀ k, bv.ownBlock = some k → ¬ S k) (h2 : ∀ k, pv.ownBlock = some k → ¬ S k) : RIn w' bv pv s :=
  ⟨h.blocks.keeps hk (fun k e _ => h1 k e), h.pend.keeps hk (fun k e _ => h2 k e), h.fine, h.few, fun k e => Nat.lt_of_lt_of_le (h.lb k e) hk.size, fun k e => Nat.lt_of_lt_of_le (h.lp k e) hk.size⟩
/-- the lists of a result are apart from the blocks that a call has made for itself -/
theorem From.apart {w W : World} {b p b' p' : Value} (h : From W b p b' p') (lb : ∀ k, b.ownBlock = some k → k < w.heap.size) (lp : ∀ k, p.ownBlock = some k → k < w.heap.size) : (∀ k, b'.ownBlock = some k → k < w.heap.size ∨ W.heap.size ≤ k) ∧ ∀ k, p'.ownBlock = some k → k < w.heap.size ∨ W.heap.size ≤ k := by
  refine ⟨fun k hk => ?_, fun k hk => ?_⟩
  · rcases h.1 k hk with e | e | e
    · exact Or.inl (lb k e)
    · exact Or.inl (lp k e)
    · exact Or.inr e
  · rcases h.2 k hk with e | e | e
    · exact Or.inl (lb k e)
    · exact Or.inl (lp k e)
    · exact Or.inr e
theorem put6_blk {w : World} {g : Nat} {x0 x1 x2 x3 x4 x5 : Value} {T : TypeId} (h : w.heap[g]? = some (.cells #[x0, x1, x2, x3, x4, x5] T (0, 0))) (a b c d e f : Value) : (put6 w g a b c d e f).heap[g]? = some (.cells #[a, b, c, d, e, f] T (0, 0)) :=
  blk_set (blk_set (blk_set (blk_set (blk_set (blk_set h 0 a) 1 b) 2 c) 3 d) 4 e) 5 f
/-- a list that came in has its blocks below, or is empty and then nil or whatever -/
theorem RIn.sh {w : World} {bv pv : Value} {s : DS} (h : RIn w bv pv s) : ∃ a n c a' n' c', bv = .slice a n c ∧ pv = .slice a' n' c' := by
  obtain ⟨b, o, c, h1, _⟩ := h.bform
  obtain ⟨a, c', h2⟩ := h.pform
  exact ⟨_, _, _, _, _, _, h1, h2⟩

set_option maxRecDepth 100000 in
set_option maxHeartbeats 4000000 in
theorem crashed_any (bv pv : Value) (s : DS) (m : Int) (hm : 0 ≤ m ∧ m < 18446744073709551616) (w : World) (h : RIn w bv pv s) :
    Calls Try.prog 40 #[.agg #[bv, pv, .bool s.down, .bool s.armed, .int .i64 s.steps, .int .u64 s.mask], .int .u64 m] w (RPost1 w bv pv (s.crash m)) := by
  obtain ⟨xa, xn, xc, xa', xn', xc', rfl, rfl⟩ := h.sh
  have HF := Lib.hid (h.fine.crash m)
  have HM := Lib.hid hm
  clear hm
  have hA := newB w (.cells #[.slice xa xn xc, .slice xa' xn' xc', .bool s.down, .bool s.armed, .int .i64 s.steps, .int .u64 s.mask] 30)
  have hA2 := newB (w.alloc (.cells #[.slice xa xn xc, .slice xa' xn' xc', .bool s.down, .bool s.armed, .int .i64 s.steps, .int .u64 s.mask] 30)) (.cells #[.slice none 0 0, .slice none 0 0, .bool false, .bool false, .int .i64 0, .int .u64 0] 30)
  have hb2 := chainB hA hA2
  have HX : Hid (((w.alloc (.cells #[.slice xa xn xc, .slice xa' xn' xc', .bool s.down, .bool s.armed, .int .i64 s.steps, .int .u64 s.mask] 30)).alloc (.cells #[.slice none 0 0, .slice none 0 0, .bool false, .bool false, .int .i64 0, .int .u64 0] 30)).heap[w.heap.size]? = some (.cells #[.slice xa xn xc, .slice xa' xn' xc', .bool s.down, .bool s.armed, .int .i64 s.steps, .int .u64 s.mask] 30 (0, 0))) := Lib.hid (by rw [hA2.block _ (by simp)]; exact blk_new _ _ _)
  have HR : Hid (((w.alloc (.cells #[.slice xa xn xc, .slice xa' xn' xc', .bool s.down, .bool s.armed, .int .i64 s.steps, .int .u64 s.mask] 30)).alloc (.cells #[.slice none 0 0, .slice none 0 0, .bool false, .bool false, .int .i64 0, .int .u64 0] 30)).heap[w.heap.size + 1]? = some (.cells #[.slice none 0 0, .slice none 0 0, .bool false, .bool false, .int .i64 0, .int .u64 0] 30 (0, 0))) := Lib.hid (by have := blk_new (w.alloc (.cells #[.slice xa xn xc, .slice xa' xn' xc', .bool s.down, .bool s.armed, .int .i64 s.steps, .int .u64 s.mask] 30)) #[.slice none 0 0, .slice none 0 0, .bool false, .bool false, .int .i64 0, .int .u64 0] 30; simpa using this)
  have H2 := Lib.hid (h.below hb2)
  have HB2 := Lib.hid hb2
  have HS2 : Hid (w.heap.size + 2 ≤ ((w.alloc (.cells #[.slice xa xn xc, .slice xa' xn' xc', .bool s.down, .bool s.armed, .int .i64 s.steps, .int .u64 s.mask] 30)).alloc (.cells #[.slice none 0 0, .slice none 0 0, .bool false, .bool false, .int .i64 0, .int .u64 0] 30)).heap.size) := Lib.hid (by simp)
  have H0 := Lib.hid h
  clear hA hA2 hb2
  clear h
  go_enter Try.func40, Try.ntmps40
  go_wp2_with fail
  refine (settled_any _ _ s m HM.out _ H2.out).mono ?_
  rintro e w2 ⟨bv', pv', rfl, hr2, hf2, hb2⟩
  generalize hs2 : s.settle (bitOf m) = s2 at *
  have HSS := Lib.hid hs2; clear hs2
  have HX2 := Lib.hid (show w2.heap[w.heap.size]? = _ from (hb2.block _ (by have := HS2.out; omega)).trans HX.out)
  have HR2 := Lib.hid (show w2.heap[w.heap.size + 1]? = _ from (hb2.block _ (by have := HS2.out; omega)).trans HR.out)
  have HBW := Lib.hid (chainB HB2.out hb2)
  have HI := Lib.hid hr2
  have HFR := Lib.hid hf2
  have HZ := Lib.hid HB2.out.size
  clear hr2 hf2 hb2
  obtain ⟨ya, yn, yc, ya', yn', yc', rfl, rfl⟩ := HI.out.sh
  have z0 := blkc HX2.out 0 _ rfl
  have z1 := blkc HX2.out 1 _ rfl
  have z2 := blkc HX2.out 2 _ rfl
  have z3 := blkc HX2.out 3 _ rfl
  have z4 := blkc HX2.out 4 _ rfl
  have z5 := blkc HX2.out 5 _ rfl
  have y0 := blkf HX2.out 0
  have y1 := blkf HX2.out 1
  have y2 := blkf HX2.out 2
  have y3 := blkf HX2.out 3
  have y4 := blkf HX2.out 4
  have y5 := blkf HX2.out 5
  go_upto_region 2 with fail
  clear z0 z1 z2 z3 z4 z5 y0 y1 y2 y3 y4 y5
  have HX3 := Lib.hid (put6_blk HX2.out (.slice ya yn yc) (.slice ya' yn' yc') (.bool s2.down) (.bool s2.armed) (.int .i64 s2.steps) (.int .u64 s2.mask))
  have HK3 := Lib.hid (put6_keeps w2 w.heap.size (.slice ya yn yc) (.slice ya' yn' yc') (.bool s2.down) (.bool s2.armed) (.int .i64 s2.steps) (.int .u64 s2.mask))
  have HB3 := Lib.hid (put6_below HBW.out (Nat.le_refl _) (.slice ya yn yc) (.slice ya' yn' yc') (.bool s2.down) (.bool s2.armed) (.int .i64 s2.steps) (.int .u64 s2.mask))
  have HR3 := Lib.hid (Kit.blk_keeps HR2.out HK3.out (by omega))
  change Code.wp _ _ _ _ (put6 w2 w.heap.size (.slice ya yn yc) (.slice ya' yn' yc') (.bool s2.down) (.bool s2.armed) (.int .i64 s2.steps) (.int .u64 s2.mask))
  generalize put6 w2 w.heap.size (.slice ya yn yc) (.slice ya' yn' yc') (.bool s2.down) (.bool s2.armed) (.int .i64 s2.steps) (.int .u64 s2.mask) = w3 at *
  have z2 := blkc HX3.out 2 _ rfl; have z3 := blkc HX3.out 3 _ rfl; have z4 := blkc HX3.out 4 _ rfl; have z5 := blkc HX3.out 5 _ rfl
  have y2 := blkf HX3.out 2; have y3 := blkf HX3.out 3; have y4 := blkf HX3.out 4; have y5 := blkf HX3.out 5
  go_upto_region 6 with fail
  clear z2 z3 z4 z5 y2 y3 y4 y5
  have HX4 : Hid (((((w3.setCell ⟨w.heap.size, 2, none⟩ (.bool true)).setCell ⟨w.heap.size, 3, none⟩ (.bool false)).setCell ⟨w.heap.size, 4, none⟩ (.int .i64 0)).setCell ⟨w.heap.size, 5, none⟩ (.int .u64 0)).heap[w.heap.size]? = some (.cells #[.slice ya yn yc, .slice ya' yn' yc', .bool true, .bool false, .int .i64 0, .int .u64 0] 30 (0, 0))) := Lib.hid (blk_set (blk_set (blk_set (blk_set HX3.out 2 _) 3 _) 4 _) 5 _)
  have HK4 : Hid (Kit.Keeps (fun j => j = w.heap.size) w3 ((((w3.setCell ⟨w.heap.size, 2, none⟩ (.bool true)).setCell ⟨w.heap.size, 3, none⟩ (.bool false)).setCell ⟨w.heap.size, 4, none⟩ (.int .i64 0)).setCell ⟨w.heap.size, 5, none⟩ (.int .u64 0))) := Lib.hid (((((Kit.Keeps.refl (fun j => j = w.heap.size) w3).setCell (p := ⟨w.heap.size, 2, none⟩) (Or.inl rfl) _).setCell (p := ⟨w.heap.size, 3, none⟩) (Or.inl rfl) _).setCell (p := ⟨w.heap.size, 4, none⟩) (Or.inl rfl) _).setCell (p := ⟨w.heap.size, 5, none⟩) (Or.inl rfl) _)
  have HB4 : Hid (Below w.heap.size w ((((w3.setCell ⟨w.heap.size, 2, none⟩ (.bool true)).setCell ⟨w.heap.size, 3, none⟩ (.bool false)).setCell ⟨w.heap.size, 4, none⟩ (.int .i64 0)).setCell ⟨w.heap.size, 5, none⟩ (.int .u64 0))) := Lib.hid ((((HB3.out.setCell (p := ⟨w.heap.size, 2, none⟩) (Nat.le_refl _) _).setCell (p := ⟨w.heap.size, 3, none⟩) (Nat.le_refl _) _).setCell (p := ⟨w.heap.size, 4, none⟩) (Nat.le_refl _) _).setCell (p := ⟨w.heap.size, 5, none⟩) (Nat.le_refl _) _)
  have HR4 := Lib.hid (Kit.blk_keeps HR3.out HK4.out (by omega))
  generalize (((w3.setCell ⟨w.heap.size, 2, none⟩ (.bool true)).setCell ⟨w.heap.size, 3, none⟩ (.bool false)).setCell ⟨w.heap.size, 4, none⟩ (.int .i64 0)).setCell ⟨w.heap.size, 5, none⟩ (.int .u64 0) = w4 at *
  have z0 := blkc HX4.out 0 _ rfl
  have z1 := blkc HX4.out 1 _ rfl
  have z2 := blkc HX4.out 2 _ rfl
  have z3 := blkc HX4.out 3 _ rfl
  have z4 := blkc HX4.out 4 _ rfl
  have z5 := blkc HX4.out 5 _ rfl
  have r0 := blkc HR4.out 0 _ rfl
  have r1 := blkc HR4.out 1 _ rfl
  have r2 := blkc HR4.out 2 _ rfl
  have r3 := blkc HR4.out 3 _ rfl
  have r4 := blkc HR4.out 4 _ rfl
  have r5 := blkc HR4.out 5 _ rfl
  have t0 := blkf HR4.out 0
  have t1 := blkf HR4.out 1
  have t2 := blkf HR4.out 2
  have t3 := blkf HR4.out 3
  have t4 := blkf HR4.out 4
  have t5 := blkf HR4.out 5
  go_wp2
  have hk5 := put6_keeps w4 (w.heap.size + 1) (.slice ya yn yc) (.slice ya' yn' yc') (.bool true) (.bool false) (.int .i64 0) (.int .u64 0)
  have hb5 := put6_below HB4.out (g := w.heap.size + 1) (by omega) (.slice ya yn yc) (.slice ya' yn' yc') (.bool true) (.bool false) (.int .i64 0) (.int .u64 0)
  have hsz := HS2.out
  obtain ⟨ap1, ap2⟩ := HFR.out.apart H0.out.lb H0.out.lp
  have hri := ((HI.out.keeps HK3.out (fun k hk e => by have := ap1 k hk; omega) (fun k hk e => by have := ap2 k hk; omega)).keeps HK4.out (fun k hk e => by have := ap1 k hk; omega) (fun k hk e => by have := ap2 k hk; omega)).keeps hk5 (fun k hk e => by have := ap1 k hk; omega) (fun k hk e => by have := ap2 k hk; omega)
  have hcr : s.crash m = { s2 with armed := false, steps := 0, mask := 0, down := true } := by rw [← HSS.out]; rfl
  rw [hcr] at HF
  refine bodyPost_ret (v := .agg #[.slice ya yn yc, .slice ya' yn' yc', .bool true, .bool false, .int .i64 0, .int .u64 0]) (by simp [results, Try.results40, go_sem, r0, r1, r2, r3, r4, r5]) rfl ?_
  rw [hcr]
  exact ⟨_, _, rfl, hri.flag rfl rfl HF.out, From.trans (From.refl w _ _) HFR.out HZ.out, hb5⟩
end Go.Proofs.Ytgcbfpimfmkbmaa.Dk
