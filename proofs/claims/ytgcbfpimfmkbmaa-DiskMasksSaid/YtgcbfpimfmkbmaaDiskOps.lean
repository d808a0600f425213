/- The laws' own functions: a list of calls, do, also, short, contents, same. -/
import Derived.Test.YtgcbfpimfmkbmaaDiskLaw2
import Derived.Test.YtgcbfpimfmkbmaaKitOpen
import Derived.BigQuiet
import Derived.Deep.QuietTactic
namespace Go.Proofs.Ytgcbfpimfmkbmaa.Dk
set_option linter.unusedVariables false
set_option linter.unusedSimpArgs false
open Go.RowKit Go.ChangeMaps

/-- A call: kind, number, text, mask. -/
abbrev OpD := Int × Int × ByteArray × Int
def opEnc (o : OpD) : List Value := [.int .i64 o.1, .int .i64 o.2.1, .string o.2.2.1, .int .u64 o.2.2.2]
def doOp (s : DS) (o : OpD) : DS × Int := if o.1 = 0 then s.write o.2.1 o.2.2.1 else if o.1 = 1 then s.flush else if o.1 = 2 then s.arm o.2.1 o.2.2.2 else if o.1 = 3 then s.hit o.2.2.2 else s.recover
def OkOp (o : OpD) : Prop := o.2.2.1.size ≤ maxLen ∧ 0 ≤ o.2.2.2 ∧ o.2.2.2 < 18446744073709551616
theorem spost_chain {B : Nat} {X : Nat → Prop} {w w1 : World} {d n : Nat} {s : DS} {r : Value} {e : Ending} {w' : World} (hb : Below w.heap.size w w1) (h : SPost B X w1 d n s r e w') : SPost B X w d n s r e w' :=
  ⟨h.1, h.2.1, (Kit.Keeps.of_below hb).trans' h.2.2⟩

set_option maxRecDepth 100000 in
set_option maxHeartbeats 4000000 in
theorem do_any {B : Nat} {X : Nat → Prop} {w : World} {d n : Nat} {s : DS} (h : Ses B X w d n s) (hn : n ≤ 1000000) (k i : Int) (t : ByteArray) (m : Int) (ho : OkOp (k, i, t, m)) :
    Calls Try.prog 18 #[.pointer (some ⟨d, 0, none⟩), .agg #[.int .i64 k, .int .i64 i, .string t, .int .u64 m]] w (SPost B X w d (n + 1) (doOp s (k, i, t, m)).1 (.int .i64 (doOp s (k, i, t, m)).2)) := by
  obtain ⟨ht, hm1, hm2⟩ := ho
  dsimp only at ht hm1 hm2
  have HT := Lib.hid ht
  have HM := Lib.hid (And.intro hm1 hm2)
  have H1 := Lib.hid (h.below (newB w (.cells #[.int .i64 k, .int .i64 i, .string t, .int .u64 m] 42)))
  clear h ht hm1 hm2
  by_cases h0 : k = 0
  · subst h0
    have hk : True := trivial
    have HD : Hid (doOp s (0, i, t, m) = s.write i t) := by unfold Hid doOp; dsimp only; rfl
    clear hk
    go_enter Try.func18, Try.ntmps18
    go_wp2_with fail
    refine (ses_write H1.out hn i t HT.out).mono ?_
    rintro e w1 hp
    have HP := Lib.hid hp
    obtain ⟨rfl, _, _⟩ := hp
    go_wp2
    go_ret
    rw [HD.out]
    exact spost_chain (newB _ _) HP.out
  have b0 : (k == 0) = false := by simpa using h0
  by_cases h1 : k = 1
  · subst h1
    have hk : True := trivial
    have HD : Hid (doOp s (1, i, t, m) = s.flush) := by unfold Hid doOp; dsimp only; rfl
    clear hk
    go_enter Try.func18, Try.ntmps18
    go_wp2_with fail
    refine (ses_flush H1.out hn).mono ?_
    rintro e w1 hp
    have HP := Lib.hid hp
    obtain ⟨rfl, _, _⟩ := hp
    go_wp2
    go_ret
    rw [HD.out]
    exact spost_chain (newB _ _) HP.out
  have b1 : (k == 1) = false := by simpa using h1
  by_cases h2 : k = 2
  · subst h2
    have hk : True := trivial
    have HD : Hid (doOp s (2, i, t, m) = s.arm i m) := by unfold Hid doOp; dsimp only; rfl
    clear hk
    go_enter Try.func18, Try.ntmps18
    go_wp2_with fail
    refine (ses_arm H1.out i m HM.out).mono ?_
    rintro e w1 hp
    have HP := Lib.hid hp
    obtain ⟨rfl, _, _⟩ := hp
    go_wp2
    go_ret
    rw [HD.out]
    exact spost_chain (newB _ _) HP.out
  have b2 : (k == 2) = false := by simpa using h2
  by_cases h3 : k = 3
  · subst h3
    have hk : True := trivial
    have HD : Hid (doOp s (3, i, t, m) = s.hit m) := by unfold Hid doOp; dsimp only; rfl
    clear hk
    go_enter Try.func18, Try.ntmps18
    go_wp2_with fail
    refine (ses_hit H1.out hn m HM.out).mono ?_
    rintro e w1 hp
    have HP := Lib.hid hp
    obtain ⟨rfl, _, _⟩ := hp
    go_wp2
    go_ret
    rw [HD.out]
    exact spost_chain (newB _ _) HP.out
  have b3 : (k == 3) = false := by simpa using h3
  have hk : True := trivial
  have HD : Hid (doOp s (k, i, t, m) = s.recover) := by unfold Hid doOp; dsimp only; rw [if_neg h0, if_neg h1, if_neg h2, if_neg h3]
  clear hk
  go_enter Try.func18, Try.ntmps18
  go_wp2_with fail
  refine (ses_recover H1.out).mono ?_
  rintro e w1 hp
  have HP := Lib.hid hp
  obtain ⟨rfl, _, _⟩ := hp
  go_wp2
  go_ret
  rw [HD.out]
  exact spost_chain (newB _ _) HP.out

set_option maxRecDepth 100000 in
set_option maxHeartbeats 4000000 in
theorem also_any (bv pv : Value) (s : DS) (k i : Int) (t : ByteArray) (m : Int) (ho : OkOp (k, i, t, m)) (w : World) (h : RIn w bv pv s) (hpn : s.pend.length < 1000000) :
    Calls Try.prog 17 #[.agg #[bv, pv, .bool s.down, .bool s.armed, .int .i64 s.steps, .int .u64 s.mask], .agg #[.int .i64 k, .int .i64 i, .string t, .int .u64 m]] w (RPost w bv pv (doOp s (k, i, t, m)).1 (.int .i64 (doOp s (k, i, t, m)).2)) := by
  obtain ⟨ht, hm1, hm2⟩ := ho
  dsimp only at ht hm1 hm2
  have HT := Lib.hid ht
  have HM := Lib.hid (And.intro hm1 hm2)
  obtain ⟨xa, xn, xc, xa', xn', xc', rfl, rfl⟩ := h.sh
  have H0 := Lib.hid h
  have hA := newB w (.cells #[.slice xa xn xc, .slice xa' xn' xc', .bool s.down, .bool s.armed, .int .i64 s.steps, .int .u64 s.mask] 30)
  have hA1 := newB (w.alloc (.cells #[.slice xa xn xc, .slice xa' xn' xc', .bool s.down, .bool s.armed, .int .i64 s.steps, .int .u64 s.mask] 30)) (.cells #[.int .i64 k, .int .i64 i, .string t, .int .u64 m] 42)
  have hA2 := newB ((w.alloc (.cells #[.slice xa xn xc, .slice xa' xn' xc', .bool s.down, .bool s.armed, .int .i64 s.steps, .int .u64 s.mask] 30)).alloc (.cells #[.int .i64 k, .int .i64 i, .string t, .int .u64 m] 42)) (.cells #[.slice none 0 0, .slice none 0 0, .bool false, .bool false, .int .i64 0, .int .u64 0] 30)
  have hb2 := chainB (chainB hA hA1) hA2
  have HR : Hid ((((w.alloc (.cells #[.slice xa xn xc, .slice xa' xn' xc', .bool s.down, .bool s.armed, .int .i64 s.steps, .int .u64 s.mask] 30)).alloc (.cells #[.int .i64 k, .int .i64 i, .string t, .int .u64 m] 42)).alloc (.cells #[.slice none 0 0, .slice none 0 0, .bool false, .bool false, .int .i64 0, .int .u64 0] 30)).heap[w.heap.size + 2]? = some (.cells #[.slice none 0 0, .slice none 0 0, .bool false, .bool false, .int .i64 0, .int .u64 0] 30 (0, 0))) := Lib.hid (by have := blk_new ((w.alloc (.cells #[.slice xa xn xc, .slice xa' xn' xc', .bool s.down, .bool s.armed, .int .i64 s.steps, .int .u64 s.mask] 30)).alloc (.cells #[.int .i64 k, .int .i64 i, .string t, .int .u64 m] 42)) #[.slice none 0 0, .slice none 0 0, .bool false, .bool false, .int .i64 0, .int .u64 0] 30; simpa using this)
  have H2 := Lib.hid (H0.out.below hb2)
  have HB2 := Lib.hid hb2
  have HZ2 := Lib.hid hb2.size
  have HS2 : Hid (w.heap.size + 3 ≤ (((w.alloc (.cells #[.slice xa xn xc, .slice xa' xn' xc', .bool s.down, .bool s.armed, .int .i64 s.steps, .int .u64 s.mask] 30)).alloc (.cells #[.int .i64 k, .int .i64 i, .string t, .int .u64 m] 42)).alloc (.cells #[.slice none 0 0, .slice none 0 0, .bool false, .bool false, .int .i64 0, .int .u64 0] 30)).heap.size) := Lib.hid (by simp)
  clear hA hA1 hA2 hb2
  clear h ht hm1 hm2
  by_cases h0 : k = 0
  · subst h0
    have HD : Hid (doOp s (0, i, t, m) = s.write i t) := by unfold Hid doOp; dsimp only; rfl
    go_enter Try.func17, Try.ntmps17
    go_wp2_with fail
    refine (rwrite_any _ _ s i t HT.out _ H2.out hpn).mono ?_
    rintro e w2 ⟨bv', pv', rfl, hr2, hf2, hb2⟩
    have HR2 := Lib.hid (show w2.heap[w.heap.size + 2]? = _ from (hb2.block _ (by have := HS2.out; omega)).trans HR.out)
    have HBW := Lib.hid (chainB HB2.out hb2)
    have HFR := Lib.hid hf2
    generalize hr2v : (s.write i t).2 = rr at *
    have HRV := Lib.hid hr2v; clear hr2v
    generalize hs2v : (s.write i t).1 = s2 at *
    have HSV := Lib.hid hs2v; clear hs2v
    have HI := Lib.hid hr2
    have HAP := Lib.hid (hf2.apart H0.out.lb H0.out.lp)
    have hgs := HS2.out
    have hgb := hb2.size
    clear hr2 hf2 hb2
    obtain ⟨ya, yn, yc, ya', yn', yc', rfl, rfl⟩ := HI.out.sh
    obtain ⟨bl2, pn2, dn2, ar2, st2, mk2⟩ := s2
    dsimp only at *
    have r0 := blkc HR2.out 0 _ rfl; have t0 := blkf HR2.out 0
    have r1 := blkc HR2.out 1 _ rfl; have t1 := blkf HR2.out 1
    have r2 := blkc HR2.out 2 _ rfl; have t2 := blkf HR2.out 2
    have r3 := blkc HR2.out 3 _ rfl; have t3 := blkf HR2.out 3
    have r4 := blkc HR2.out 4 _ rfl; have t4 := blkf HR2.out 4
    have r5 := blkc HR2.out 5 _ rfl; have t5 := blkf HR2.out 5
    go_wp2
    have hk5 := put6_keeps w2 (w.heap.size + 2) (.slice ya yn yc) (.slice ya' yn' yc') (.bool dn2) (.bool ar2) (.int .i64 st2) (.int .u64 mk2)
    have hb5 := put6_below HBW.out (g := w.heap.size + 2) (by omega) (.slice ya yn yc) (.slice ya' yn' yc') (.bool dn2) (.bool ar2) (.int .i64 st2) (.int .u64 mk2)
    have hri := HI.out.keeps hk5 (fun k hk e => by have := HAP.out.1 k hk; omega) (fun k hk e => by have := HAP.out.2 k hk; omega)
    refine bodyPost_ret (v := .tuple #[.agg #[.slice ya yn yc, .slice ya' yn' yc', .bool dn2, .bool ar2, .int .i64 st2, .int .u64 mk2], .int .i64 rr]) (by simp [results, Try.results17, go_sem, r0, r1, r2, r3, r4, r5]) rfl ?_
    rw [HD.out, HRV.out, HSV.out]
    exact ⟨_, _, rfl, hri, From.trans (From.refl w _ _) HFR.out HZ2.out, hb5⟩
  have b0 : (k == 0) = false := by simpa using h0
  by_cases h1 : k = 1
  · subst h1
    have HD : Hid (doOp s (1, i, t, m) = s.flush) := by unfold Hid doOp; dsimp only; rfl
    go_enter Try.func17, Try.ntmps17
    go_wp2_with fail
    refine (rflush_any _ _ s _ H2.out).mono ?_
    rintro e w2 ⟨bv', pv', rfl, hr2, hf2, hb2⟩
    have HR2 := Lib.hid (show w2.heap[w.heap.size + 2]? = _ from (hb2.block _ (by have := HS2.out; omega)).trans HR.out)
    have HBW := Lib.hid (chainB HB2.out hb2)
    have HFR := Lib.hid hf2
    generalize hr2v : (s.flush).2 = rr at *
    have HRV := Lib.hid hr2v; clear hr2v
    generalize hs2v : (s.flush).1 = s2 at *
    have HSV := Lib.hid hs2v; clear hs2v
    have HI := Lib.hid hr2
    have HAP := Lib.hid (hf2.apart H0.out.lb H0.out.lp)
    have hgs := HS2.out
    have hgb := hb2.size
    clear hr2 hf2 hb2
    obtain ⟨ya, yn, yc, ya', yn', yc', rfl, rfl⟩ := HI.out.sh
    obtain ⟨bl2, pn2, dn2, ar2, st2, mk2⟩ := s2
    dsimp only at *
    have r0 := blkc HR2.out 0 _ rfl; have t0 := blkf HR2.out 0
    have r1 := blkc HR2.out 1 _ rfl; have t1 := blkf HR2.out 1
    have r2 := blkc HR2.out 2 _ rfl; have t2 := blkf HR2.out 2
    have r3 := blkc HR2.out 3 _ rfl; have t3 := blkf HR2.out 3
    have r4 := blkc HR2.out 4 _ rfl; have t4 := blkf HR2.out 4
    have r5 := blkc HR2.out 5 _ rfl; have t5 := blkf HR2.out 5
    go_wp2
    have hk5 := put6_keeps w2 (w.heap.size + 2) (.slice ya yn yc) (.slice ya' yn' yc') (.bool dn2) (.bool ar2) (.int .i64 st2) (.int .u64 mk2)
    have hb5 := put6_below HBW.out (g := w.heap.size + 2) (by omega) (.slice ya yn yc) (.slice ya' yn' yc') (.bool dn2) (.bool ar2) (.int .i64 st2) (.int .u64 mk2)
    have hri := HI.out.keeps hk5 (fun k hk e => by have := HAP.out.1 k hk; omega) (fun k hk e => by have := HAP.out.2 k hk; omega)
    refine bodyPost_ret (v := .tuple #[.agg #[.slice ya yn yc, .slice ya' yn' yc', .bool dn2, .bool ar2, .int .i64 st2, .int .u64 mk2], .int .i64 rr]) (by simp [results, Try.results17, go_sem, r0, r1, r2, r3, r4, r5]) rfl ?_
    rw [HD.out, HRV.out, HSV.out]
    exact ⟨_, _, rfl, hri, From.trans (From.refl w _ _) HFR.out HZ2.out, hb5⟩
  have b1 : (k == 1) = false := by simpa using h1
  by_cases h2 : k = 2
  · subst h2
    have HD : Hid (doOp s (2, i, t, m) = s.arm i m) := by unfold Hid doOp; dsimp only; rfl
    go_enter Try.func17, Try.ntmps17
    go_wp2_with fail
    refine (rarm_any _ _ s i m HM.out _ H2.out).mono ?_
    rintro e w2 ⟨bv', pv', rfl, hr2, hf2, hb2⟩
    have HR2 := Lib.hid (show w2.heap[w.heap.size + 2]? = _ from (hb2.block _ (by have := HS2.out; omega)).trans HR.out)
    have HBW := Lib.hid (chainB HB2.out hb2)
    have HFR := Lib.hid hf2
    generalize hr2v : (s.arm i m).2 = rr at *
    have HRV := Lib.hid hr2v; clear hr2v
    generalize hs2v : (s.arm i m).1 = s2 at *
    have HSV := Lib.hid hs2v; clear hs2v
    have HI := Lib.hid hr2
    have HAP := Lib.hid (hf2.apart H0.out.lb H0.out.lp)
    have hgs := HS2.out
    have hgb := hb2.size
    clear hr2 hf2 hb2
    obtain ⟨ya, yn, yc, ya', yn', yc', rfl, rfl⟩ := HI.out.sh
    obtain ⟨bl2, pn2, dn2, ar2, st2, mk2⟩ := s2
    dsimp only at *
    have r0 := blkc HR2.out 0 _ rfl; have t0 := blkf HR2.out 0
    have r1 := blkc HR2.out 1 _ rfl; have t1 := blkf HR2.out 1
    have r2 := blkc HR2.out 2 _ rfl; have t2 := blkf HR2.out 2
    have r3 := blkc HR2.out 3 _ rfl; have t3 := blkf HR2.out 3
    have r4 := blkc HR2.out 4 _ rfl; have t4 := blkf HR2.out 4
    have r5 := blkc HR2.out 5 _ rfl; have t5 := blkf HR2.out 5
    go_wp2
    have hk5 := put6_keeps w2 (w.heap.size + 2) (.slice ya yn yc) (.slice ya' yn' yc') (.bool dn2) (.bool ar2) (.int .i64 st2) (.int .u64 mk2)
    have hb5 := put6_below HBW.out (g := w.heap.size + 2) (by omega) (.slice ya yn yc) (.slice ya' yn' yc') (.bool dn2) (.bool ar2) (.int .i64 st2) (.int .u64 mk2)
    have hri := HI.out.keeps hk5 (fun k hk e => by have := HAP.out.1 k hk; omega) (fun k hk e => by have := HAP.out.2 k hk; omega)
    refine bodyPost_ret (v := .tuple #[.agg #[.slice ya yn yc, .slice ya' yn' yc', .bool dn2, .bool ar2, .int .i64 st2, .int .u64 mk2], .int .i64 rr]) (by simp [results, Try.results17, go_sem, r0, r1, r2, r3, r4, r5]) rfl ?_
    rw [HD.out, HRV.out, HSV.out]
    exact ⟨_, _, rfl, hri, From.trans (From.refl w _ _) HFR.out HZ2.out, hb5⟩
  have b2 : (k == 2) = false := by simpa using h2
  by_cases h3 : k = 3
  · subst h3
    have HD : Hid (doOp s (3, i, t, m) = s.hit m) := by unfold Hid doOp; dsimp only; rfl
    go_enter Try.func17, Try.ntmps17
    go_wp2_with fail
    refine (rhit_any _ _ s m HM.out _ H2.out).mono ?_
    rintro e w2 ⟨bv', pv', rfl, hr2, hf2, hb2⟩
    have HR2 := Lib.hid (show w2.heap[w.heap.size + 2]? = _ from (hb2.block _ (by have := HS2.out; omega)).trans HR.out)
    have HBW := Lib.hid (chainB HB2.out hb2)
    have HFR := Lib.hid hf2
    generalize hr2v : (s.hit m).2 = rr at *
    have HRV := Lib.hid hr2v; clear hr2v
    generalize hs2v : (s.hit m).1 = s2 at *
    have HSV := Lib.hid hs2v; clear hs2v
    have HI := Lib.hid hr2
    have HAP := Lib.hid (hf2.apart H0.out.lb H0.out.lp)
    have hgs := HS2.out
    have hgb := hb2.size
    clear hr2 hf2 hb2
    obtain ⟨ya, yn, yc, ya', yn', yc', rfl, rfl⟩ := HI.out.sh
    obtain ⟨bl2, pn2, dn2, ar2, st2, mk2⟩ := s2
    dsimp only at *
    have r0 := blkc HR2.out 0 _ rfl; have t0 := blkf HR2.out 0
    have r1 := blkc HR2.out 1 _ rfl; have t1 := blkf HR2.out 1
    have r2 := blkc HR2.out 2 _ rfl; have t2 := blkf HR2.out 2
    have r3 := blkc HR2.out 3 _ rfl; have t3 := blkf HR2.out 3
    have r4 := blkc HR2.out 4 _ rfl; have t4 := blkf HR2.out 4
    have r5 := blkc HR2.out 5 _ rfl; have t5 := blkf HR2.out 5
    go_wp2
    have hk5 := put6_keeps w2 (w.heap.size + 2) (.slice ya yn yc) (.slice ya' yn' yc') (.bool dn2) (.bool ar2) (.int .i64 st2) (.int .u64 mk2)
    have hb5 := put6_below HBW.out (g := w.heap.size + 2) (by omega) (.slice ya yn yc) (.slice ya' yn' yc') (.bool dn2) (.bool ar2) (.int .i64 st2) (.int .u64 mk2)
    have hri := HI.out.keeps hk5 (fun k hk e => by have := HAP.out.1 k hk; omega) (fun k hk e => by have := HAP.out.2 k hk; omega)
    refine bodyPost_ret (v := .tuple #[.agg #[.slice ya yn yc, .slice ya' yn' yc', .bool dn2, .bool ar2, .int .i64 st2, .int .u64 mk2], .int .i64 rr]) (by simp [results, Try.results17, go_sem, r0, r1, r2, r3, r4, r5]) rfl ?_
    rw [HD.out, HRV.out, HSV.out]
    exact ⟨_, _, rfl, hri, From.trans (From.refl w _ _) HFR.out HZ2.out, hb5⟩
  have b3 : (k == 3) = false := by simpa using h3
  have HD : Hid (doOp s (k, i, t, m) = s.recover) := by unfold Hid doOp; dsimp only; rw [if_neg h0, if_neg h1, if_neg h2, if_neg h3]
  go_enter Try.func17, Try.ntmps17
  go_wp2_with fail
  refine (rrecover_any _ _ s _ H2.out).mono ?_
  rintro e w2 ⟨bv', pv', rfl, hr2, hf2, hb2⟩
  have HR2 := Lib.hid (show w2.heap[w.heap.size + 2]? = _ from (hb2.block _ (by have := HS2.out; omega)).trans HR.out)
  have HBW := Lib.hid (chainB HB2.out hb2)
  have HFR := Lib.hid hf2
  generalize hr2v : (s.recover).2 = rr at *
  have HRV := Lib.hid hr2v; clear hr2v
  generalize hs2v : (s.recover).1 = s2 at *
  have HSV := Lib.hid hs2v; clear hs2v
  have HI := Lib.hid hr2
  have HAP := Lib.hid (hf2.apart H0.out.lb H0.out.lp)
  have hgs := HS2.out
  have hgb := hb2.size
  clear hr2 hf2 hb2
  obtain ⟨ya, yn, yc, ya', yn', yc', rfl, rfl⟩ := HI.out.sh
  obtain ⟨bl2, pn2, dn2, ar2, st2, mk2⟩ := s2
  dsimp only at *
  have r0 := blkc HR2.out 0 _ rfl; have t0 := blkf HR2.out 0
  have r1 := blkc HR2.out 1 _ rfl; have t1 := blkf HR2.out 1
  have r2 := blkc HR2.out 2 _ rfl; have t2 := blkf HR2.out 2
  have r3 := blkc HR2.out 3 _ rfl; have t3 := blkf HR2.out 3
  have r4 := blkc HR2.out 4 _ rfl; have t4 := blkf HR2.out 4
  have r5 := blkc HR2.out 5 _ rfl; have t5 := blkf HR2.out 5
  go_wp2
  have hk5 := put6_keeps w2 (w.heap.size + 2) (.slice ya yn yc) (.slice ya' yn' yc') (.bool dn2) (.bool ar2) (.int .i64 st2) (.int .u64 mk2)
  have hb5 := put6_below HBW.out (g := w.heap.size + 2) (by omega) (.slice ya yn yc) (.slice ya' yn' yc') (.bool dn2) (.bool ar2) (.int .i64 st2) (.int .u64 mk2)
  have hri := HI.out.keeps hk5 (fun k hk e => by have := HAP.out.1 k hk; omega) (fun k hk e => by have := HAP.out.2 k hk; omega)
  refine bodyPost_ret (v := .tuple #[.agg #[.slice ya yn yc, .slice ya' yn' yc', .bool dn2, .bool ar2, .int .i64 st2, .int .u64 mk2], .int .i64 rr]) (by simp [results, Try.results17, go_sem, r0, r1, r2, r3, r4, r5]) rfl ?_
  rw [HD.out, HRV.out, HSV.out]
  exact ⟨_, _, rfl, hri, From.trans (From.refl w _ _) HFR.out HZ2.out, hb5⟩

end Go.Proofs.Ytgcbfpimfmkbmaa.Dk
