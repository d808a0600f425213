/- The law TruckSums. -/
import Derived.Test.YtcipnajdbafahaaTruckAwake
import Derived.Test.YtcipnajdbafahaaTruckRSum
import Derived.Test.YtcipnajdbafahaaKitOpen
import Derived.Deep.RegionHeld3
namespace Go.Proofs.Ytcipnajdbafahaa.Tk
set_option linter.unusedVariables false
set_option linter.unusedSimpArgs false
open Go.RowKit

theorem chainB {W0 W w' : World} (h1 : Below W0.heap.size W0 W) (h2 : Below W.heap.size W w') : Below W0.heap.size W0 w' := h1.trans (h2.mono h1.size)


section
variable {H : Type} {de : TypeId × Value → H} {w : World}
theorem el_int (n : Nat) (cs : List Value) (z : DataW H × List MemPlace) (h : DataW.trod de Try.prog w 0 (fun _ => true) true n 3 cs = some z) : ∃ x : Int, cs = intEnc x ∧ (Lit.int .i64 x).wf = true := by
  obtain ⟨m, e, _, hw⟩ := DataW.trod_int Try.underlying3 h
  exact ⟨m, e, hw⟩
theorem el_par (n : Nat) (cs : List Value) (z : DataW H × List MemPlace) (h : DataW.trod de Try.prog w 0 (fun _ => true) true n 28 cs = some z) : ∃ x : Par, cs = parEnc x ∧ True := by
  obtain ⟨hl, m, hf⟩ := Kit.open_fields Try.underlying28 (by kernel_rfl) (fun i f hi => by
    match i, hi with
    | 0, hi => simp at hi; subst hi; exact ⟨rfl, by kernel_rfl⟩
    | 1, hi => simp at hi; subst hi; exact ⟨rfl, by kernel_rfl⟩
    | 2, hi => simp at hi; subst hi; exact ⟨rfl, by kernel_rfl⟩
    | n + 3, hi => simp at hi) h
  match cs, hl with
  | [a, b, c], _ =>
    obtain ⟨z0, h0⟩ := hf 0 _ a rfl rfl
    obtain ⟨z1, h1⟩ := hf 1 _ b rfl rfl
    obtain ⟨z2, h2⟩ := hf 2 _ c rfl rfl
    obtain ⟨x, ex, _⟩ := el_int _ _ _ h0
    obtain ⟨y, ey, _⟩ := el_int _ _ _ h1
    obtain ⟨u, eu, _⟩ := el_int _ _ _ h2
    simp [intEnc] at ex ey eu
    exact ⟨(x, y, u), by rw [ex, ey, eu]; rfl, trivial⟩

theorem open_ints {base : Nat} {v : Value} {d : DataW H} {ps : List MemPlace} (ok : Value.okWide Try.prog w .any base 25 v) (h : DataW.Trod de Try.prog w 0 (fun _ => true) true 25 v d ps) : ∃ l : List Int, Kit.Sl 1 intEnc w w.heap.size v l ∧ l.length ≤ maxLen := by
  obtain ⟨a, n, c, rfl⟩ := WideShapes.okWide_slice Try.underlying25 ok
  obtain ⟨fuel, hf⟩ := h
  obtain ⟨l, h1, _, h2⟩ := Kit.open_sl (size := 1) (enc := intEnc) Try.underlying25 (by kernel_rfl) (by decide) _ (el_int (w := w)) hf
  exact ⟨l, h1, h2⟩

theorem open_truck {base : Nat} {v : Value} {d : DataW H} {ps : List MemPlace} (ok : Value.okWide Try.prog w .any base 24 v) (h : DataW.Trod de Try.prog w 0 (fun _ => true) true 24 v d ps) :
    ∃ (pv : Value) (W V : Int) (l : List Par), v = .agg #[pv, .int .i64 W, .int .i64 V] ∧ Kit.Sl 3 parEnc w w.heap.size pv l ∧ l.length ≤ maxLen ∧ (Lit.int .i64 W).wf = true ∧ (Lit.int .i64 V).wf = true := by
  obtain ⟨cs, rfl, hsz⟩ := WideShapes.okWide_struct Try.underlying24 ok
  obtain ⟨fuel, hf⟩ := h
  obtain ⟨hl, m, hf⟩ := Kit.open_fields Try.underlying24 (by kernel_rfl) (fun i f hi => by
    match i, hi with
    | 0, hi => simp at hi; subst hi; exact ⟨rfl, by kernel_rfl⟩
    | 1, hi => simp at hi; subst hi; exact ⟨rfl, by kernel_rfl⟩
    | 2, hi => simp at hi; subst hi; exact ⟨rfl, by kernel_rfl⟩
    | n + 3, hi => simp at hi) hf
  obtain ⟨c0, c1, c2, rfl⟩ := Joins.array3 (hsz.trans (show Try.prog.cellsOf 24 = 3 from by kernel_rfl))
  obtain ⟨z0, h0⟩ := hf 0 _ c0 rfl rfl
  obtain ⟨z1, h1⟩ := hf 1 _ c1 rfl rfl
  obtain ⟨z2, h2⟩ := hf 2 _ c2 rfl rfl
  obtain ⟨y, ey, wy⟩ := el_int _ _ _ h1
  obtain ⟨u, eu, wu⟩ := el_int _ _ _ h2
  simp [intEnc] at ey eu
  subst ey eu
  obtain ⟨l, g1, _, g2⟩ := Kit.open_sl (size := 3) (enc := parEnc) Try.underlying22 (by kernel_rfl) (by decide) _ (el_par (w := w)) h0
  exact ⟨c0, y, u, l, rfl, g1, g2, wy, wu⟩
end

-- LAWS
theorem rcheck_any' (v : Value) (l : List Par) (W V : Int) (w : World) (hl : Kit.Sl 3 parEnc w w.heap.size v l) (hn : l.length ≤ 1000000) :
    Calls Try.prog 13 #[v, .int .i64 W, .int .i64 V] w fun e w' => e = .returned (.int .i64 (checkOf l W V)) ∧ Below w.heap.size w w' :=
  (rcheck_any v l W V w hl hn).mono fun _ _ ⟨he, hw⟩ => ⟨he, by rw [← hw]; exact Below.refl _ _⟩
set_option maxRecDepth 100000 in
set_option maxHeartbeats 4000000 in
theorem truckSums_walk {H : Type} {de : TypeId × Value → H} {base : Nat} (w : World) (v : Value) (d : DataW H) (ps : List MemPlace) (ok : Value.okWide Try.prog w .any base 24 v) (h : DataW.Trod de Try.prog w 0 (fun _ => true) true 24 v d ps)
    (u : Value) (d2 : DataW H) (ps2 : List MemPlace) (ok2 : Value.okWide Try.prog w .any base 25 u) (h2 : DataW.Trod de Try.prog w 0 (fun _ => true) true 25 u d2 ps2) :
    Calls Try.prog 3 #[v, u] w fun e w' => e = .returned (.bool true) ∧ Below w.heap.size w w' := by
  obtain ⟨pv, W, V, l, rfl, hl, hlm, hW, hV⟩ := open_truck ok h
  obtain ⟨q, hq, hqm⟩ := open_ints ok2 h2
  clear ok h ok2 h2
  unfold maxLen at hlm hqm
  have HPL := Lib.hid hl; have HQL := Lib.hid hq
  obtain ⟨ad, cap, rfl, hcap, _⟩ := hl
  obtain ⟨ad2, cap2, rfl, hcap2, _⟩ := hq
  by_cases h40 : 40 < l.length
  · go_enter Try.func3, Try.ntmps3
    go_wp2_with fail
    refine (awake_any _).mono ?_
    rintro e w1 ⟨rfl, hb1⟩
    go_wp2
    go_ret
    exact ⟨rfl, chainB (newB _ _) hb1⟩
  by_cases hq40 : 40 < q.length
  · go_enter Try.func3, Try.ntmps3
    go_wp2_with fail
    refine (awake_any _).mono ?_
    rintro e w1 ⟨rfl, hb1⟩
    go_wp2
    go_ret
    exact ⟨rfl, chainB (newB _ _) hb1⟩
  · have b1 : decide (40 < l.length) = false := by simp; omega
    have b2 : decide (40 < q.length) = false := by simp; omega
    go_enter Try.func3, Try.ntmps3
    have hA := newB w (.cells #[.slice ad l.length cap, .int .i64 W, .int .i64 V] 24)
    have HP := Lib.hid (slKeep hA HPL.out)
    have HQ := Lib.hid (slKeep hA HQL.out)
    have HX := Lib.hid (blk_new w #[.slice ad l.length cap, .int .i64 W, .int .i64 V] 24)
    obtain ⟨hxc0, hxc1, hxc2, hxf⟩ := blk3 HX.out
    clear hxf
    go_wp2_with fail
    clear hxc0 hxc1 hxc2
    refine (sum_any _ _ l q _ HP.out (by omega) HQ.out (by omega)).mono ?_
    rintro e w1 ⟨rfl, hb1⟩
    replace HP := Lib.hid (slKeep hb1 HP.out)
    replace HQ := Lib.hid (slKeep hb1 HQ.out)
    replace HX := Lib.hid (keepBlk hb1 HX.out)
    generalize hsm : sumOf l q = sm at *
    obtain ⟨⟨s0, s1, s2⟩, sc⟩ := sm
    have HSUM := Lib.hid hsm; clear hsm
    have hB := newB w1 (.cells #[.int .i64 s0, .int .i64 s1, .int .i64 s2] 28)
    have hbw1 := chainB (chainB hA hb1) hB
    clear hA hb1
    replace HP := Lib.hid (slKeep hB HP.out)
    replace HQ := Lib.hid (slKeep hB HQ.out)
    replace HX := Lib.hid (keepBlk hB HX.out)
    have HS := Lib.hid (blk_new w1 #[.int .i64 s0, .int .i64 s1, .int .i64 s2] 28)
    clear hB
    obtain ⟨hxc0, hxc1, hxc2, hxf⟩ := blk3 HX.out
    clear hxf
    obtain ⟨hsc0, hsc1, hsc2, hsf⟩ := blk3 HS.out
    clear hsf
    go_wp2_with fail
    clear hxc0 hxc1 hxc2 hsc0 hsc1 hsc2
    refine (rsum_any _ _ l q _ HP.out (by omega) HQ.out (by omega)).mono ?_
    rintro e w2 ⟨rfl, hb2⟩
    replace HP := Lib.hid (slKeep hb2 HP.out)
    replace HQ := Lib.hid (slKeep hb2 HQ.out)
    replace HX := Lib.hid (keepBlk hb2 HX.out)
    replace HS := Lib.hid (keepBlk hb2 HS.out)
    rw [HSUM.out]
    have hB := newB w2 (.cells #[.int .i64 s0, .int .i64 s1, .int .i64 s2] 28)
    have hbw2 := chainB (chainB hbw1 hb2) hB
    clear hbw1 hb2
    replace HP := Lib.hid (slKeep hB HP.out)
    replace HQ := Lib.hid (slKeep hB HQ.out)
    replace HX := Lib.hid (keepBlk hB HX.out)
    replace HS := Lib.hid (keepBlk hB HS.out)
    have HR := Lib.hid (blk_new w2 #[.int .i64 s0, .int .i64 s1, .int .i64 s2] 28)
    clear hB
    obtain ⟨hxc0, hxc1, hxc2, hxf⟩ := blk3 HX.out
    clear hxf
    obtain ⟨hsc0, hsc1, hsc2, hsf⟩ := blk3 HS.out
    clear hsf
    obtain ⟨hrc0, hrc1, hrc2, hrf⟩ := blk3 HR.out
    clear hrf
    go_wp2
    generalize w2.alloc (.cells #[.int .i64 s0, .int .i64 s1, .int .i64 s2] 28) = W0 at *
    have HMK : Hid (∀ w', Below W0.heap.size W0 w' → w'.cell? ⟨w.heap.size, 0, none⟩ = some (.slice ad l.length cap) ∧ w'.cell? ⟨w.heap.size, 1, none⟩ = some (.int .i64 W) ∧ w'.cell? ⟨w.heap.size, 2, none⟩ = some (.int .i64 V) ∧ w'.cell? ⟨w1.heap.size, 0, none⟩ = some (.int .i64 s0) ∧ w'.cell? ⟨w1.heap.size, 1, none⟩ = some (.int .i64 s1) ∧ w'.cell? ⟨w1.heap.size, 2, none⟩ = some (.int .i64 s2) ∧ w'.cell? ⟨w2.heap.size, 0, none⟩ = some (.int .i64 s0) ∧ w'.cell? ⟨w2.heap.size, 1, none⟩ = some (.int .i64 s1) ∧ w'.cell? ⟨w2.heap.size, 2, none⟩ = some (.int .i64 s2) ∧ Below W0.heap.size W0 w') := by
      intro w' hb
      have l1 := (Array.getElem?_eq_some_iff.1 HX.out).1; have l2 := (Array.getElem?_eq_some_iff.1 HS.out).1; have l3 := (Array.getElem?_eq_some_iff.1 HR.out).1
      exact ⟨(hb.cell (p := ⟨w.heap.size, 0, none⟩) l1).trans hxc0, (hb.cell (p := ⟨w.heap.size, 1, none⟩) l1).trans hxc1, (hb.cell (p := ⟨w.heap.size, 2, none⟩) l1).trans hxc2, (hb.cell (p := ⟨w1.heap.size, 0, none⟩) l2).trans hsc0, (hb.cell (p := ⟨w1.heap.size, 1, none⟩) l2).trans hsc1, (hb.cell (p := ⟨w1.heap.size, 2, none⟩) l2).trans hsc2, (hb.cell (p := ⟨w2.heap.size, 0, none⟩) l3).trans hrc0, (hb.cell (p := ⟨w2.heap.size, 1, none⟩) l3).trans hrc1, (hb.cell (p := ⟨w2.heap.size, 2, none⟩) l3).trans hrc2, hb⟩
    clear hxc0 hxc1 hxc2 hsc0 hsc1 hsc2 hrc0 hrc1 hrc2
    go_region_held3 (fun w' => w'.cell? ⟨w.heap.size, 0, none⟩ = some (.slice ad l.length cap) ∧ w'.cell? ⟨w.heap.size, 1, none⟩ = some (.int .i64 W) ∧ w'.cell? ⟨w.heap.size, 2, none⟩ = some (.int .i64 V) ∧ w'.cell? ⟨w1.heap.size, 0, none⟩ = some (.int .i64 s0) ∧ w'.cell? ⟨w1.heap.size, 1, none⟩ = some (.int .i64 s1) ∧ w'.cell? ⟨w1.heap.size, 2, none⟩ = some (.int .i64 s2) ∧ w'.cell? ⟨w2.heap.size, 0, none⟩ = some (.int .i64 s0) ∧ w'.cell? ⟨w2.heap.size, 1, none⟩ = some (.int .i64 s1) ∧ w'.cell? ⟨w2.heap.size, 2, none⟩ = some (.int .i64 s2) ∧ Below W0.heap.size W0 w') (first | exact HMK.out _ ((Below.refl _ _).drew) | (go_split_ands; exact HMK.out _ (chainB (by assumption) hbk))) (first | (go_at_call 12; go_split_ands; refine (check_any _ l W V _ (slKeep (by assumption) HP.out) (by omega)).mono ?_; rintro e wk ⟨rfl, hbk⟩) | (go_at_call 13; go_split_ands; refine (rcheck_any' _ l W V _ (slKeep (by assumption) HP.out) (by omega)).mono ?_; rintro e wk ⟨rfl, hbk⟩) | (go_at_call 9; refine (awake_any _).mono ?_; rintro e wk ⟨rfl, hbk⟩))
    go_split_ands
    go_wp2
    go_ret
    exact ⟨rfl, chainB hbw2 (by assumption)⟩
end Go.Proofs.Ytcipnajdbafahaa.Tk
