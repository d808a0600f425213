/- The laws TruckOptimal and TruckGreater. -/
import Derived.Test.YtcipnajdbafahaaTruckLaw1
import Derived.Test.YtcipnajdbafahaaTruckBefore
namespace Go.Proofs.Ytcipnajdbafahaa.Tk
set_option linter.unusedVariables false
set_option linter.unusedSimpArgs false
open Go.RowKit

theorem before_is (v u : Value) (a b : List Int) (r : Bool) (h : before a b = r) (w : World) (hi : Nat) (ha : Kit.Sl 1 intEnc w hi v a) (hb : Kit.Sl 1 intEnc w hi u b) (hna : a.length ≤ 1000000) (hnb : b.length ≤ 1000000) :
    Calls Try.prog 20 #[v, u] w fun e w' => e = .returned (.bool r) ∧ Below w.heap.size w w' := by
  rw [← h]; exact before_any v u a b w hi ha hb hna hnb
theorem bestRes_ok {l : List Par} {W V : Int} (hc : checkOf l W V = 0) : bestRes l W V = (bestOf l W V, 0) := by unfold bestRes; rw [if_pos hc]
theorem bestRes_no {l : List Par} {W V : Int} (hc : checkOf l W V ≠ 0) : bestRes l W V = ([], checkOf l W V) := by unfold bestRes; rw [if_neg hc]
theorem check00 {l : List Par} {W V : Int} (hc : checkOf l W V = 0) : checkOf l 0 0 = 0 := by
  obtain ⟨h1, _, _, h4⟩ := check_zero hc
  exact check_ok l 0 0 (by omega) rfl rfl h4

set_option maxRecDepth 100000 in
set_option maxHeartbeats 4000000 in
theorem truckOptimal_walk {H : Type} {de : TypeId × Value → H} {base : Nat} (w : World) (v : Value) (d : DataW H) (ps : List MemPlace) (ok : Value.okWide Try.prog w .any base 24 v) (h : DataW.Trod de Try.prog w 0 (fun _ => true) true 24 v d ps)
    (u : Value) (d2 : DataW H) (ps2 : List MemPlace) (ok2 : Value.okWide Try.prog w .any base 25 u) (h2 : DataW.Trod de Try.prog w 0 (fun _ => true) true 25 u d2 ps2) :
    Calls Try.prog 6 #[v, u] w fun e w' => e = .returned (.bool true) ∧ Below w.heap.size w w' := by
  obtain ⟨pv, W, V, l, rfl, hl, hlm, hW, hV⟩ := open_truck ok h
  obtain ⟨q, hq, hqm⟩ := open_ints ok2 h2
  clear ok h ok2 h2 hW hV
  unfold maxLen at hlm hqm
  have HPL := Lib.hid hl; have HQL := Lib.hid hq
  obtain ⟨ad, cap, rfl, hcap, _⟩ := hl
  obtain ⟨ad2, cap2, rfl, hcap2, _⟩ := hq
  by_cases h16 : 16 < l.length
  · go_enter Try.func6, Try.ntmps6
    go_wp2_with fail
    refine (awake_any _).mono ?_
    rintro e w1 ⟨rfl, hb1⟩
    go_wp2
    go_ret
    exact ⟨rfl, chainB (newB _ _) hb1⟩
  by_cases hq40 : 40 < q.length
  · go_enter Try.func6, Try.ntmps6
    go_wp2_with fail
    refine (awake_any _).mono ?_
    rintro e w1 ⟨rfl, hb1⟩
    go_wp2
    go_ret
    exact ⟨rfl, chainB (newB _ _) hb1⟩
  have b1 : decide (16 < l.length) = false := by simp; omega
  have b2 : decide (40 < q.length) = false := by simp; omega
  by_cases hck : checkOf l W V = 0
  · have HCK := Lib.hid hck
    have HBR := Lib.hid (bestRes_ok hck)
    obtain ⟨z1, z2, z3, z4⟩ := check_zero hck
    have hW := (inR_true z2).1; have hV := (inR_true z3).1
    have hbest := bestOf_isBest (good_of_all z4) hW hV
    have HC0 := Lib.hid (check00 hck)
    have HSA := Lib.hid (sumOf_asc HC0.out hbest.1)
    have HIB := Lib.hid hbest
    have HAL := Lib.hid (hbest.1.len (Nat.zero_le _))
    clear hbest z1 z2 z3 z4 hck hW hV
    go_enter Try.func6, Try.ntmps6
    have hA := newB w (.cells #[.slice ad l.length cap, .int .i64 W, .int .i64 V] 24)
    have HP := Lib.hid (slKeep hA HPL.out)
    have HQ := Lib.hid (slKeep hA HQL.out)
    have HX := Lib.hid (blk_new w #[.slice ad l.length cap, .int .i64 W, .int .i64 V] 24)
    obtain ⟨hxc0, hxc1, hxc2, hxf⟩ := blk3 HX.out
    clear hxf
    go_wp2_with fail
    clear hxc0 hxc1 hxc2
    refine (best_any _ l W V _ HP.out (by omega)).mono ?_
    rintro e w1 ⟨v1, rfl, h1, hb1⟩
    replace HP := Lib.hid (slKeep hb1 HP.out)
    replace HQ := Lib.hid (slKeep hb1 HQ.out)
    replace HX := Lib.hid (keepBlk hb1 HX.out)
    rw [HBR.out] at h1
    rw [HBR.out]
    have hbw1 := chainB hA hb1
    clear hA hb1
    generalize bestOf l W V = a at *
    have hal := HAL.out
    have H1 := Lib.hid (h1)
    obtain ⟨a1, c1, rfl, _⟩ := h1
    obtain ⟨hxc0, hxc1, hxc2, hxf⟩ := blk3 HX.out
    clear hxf
    go_wp2_with fail
    clear hxc0 hxc1 hxc2
    refine (sum_any _ _ l a _ HP.out (by omega) H1.out (by omega)).mono ?_
    rintro e w2 ⟨rfl, hb2⟩
    replace HP := Lib.hid (slKeep hb2 HP.out)
    replace HQ := Lib.hid (slKeep hb2 HQ.out)
    replace HX := Lib.hid (keepBlk hb2 HX.out)
    replace H1 := Lib.hid (slKeep hb2 H1.out)
    rw [HSA.out]
    have hf1 := HIB.out.2.1.1; have hf2 := HIB.out.2.1.2
    have HOPT := Lib.hid HIB.out.2.2
    generalize hta : tot l a = ta at *
    have HTA := Lib.hid hta; clear hta
    have hB := newB w2 (.cells #[.int .i64 ta.1, .int .i64 ta.2.1, .int .i64 ta.2.2] 28)
    have hbw2 := chainB (chainB hbw1 hb2) hB
    clear hbw1 hb2
    replace HP := Lib.hid (slKeep hB HP.out)
    replace HQ := Lib.hid (slKeep hB HQ.out)
    replace HX := Lib.hid (keepBlk hB HX.out)
    replace H1 := Lib.hid (slKeep hB H1.out)
    have HS := Lib.hid (blk_new w2 #[.int .i64 ta.1, .int .i64 ta.2.1, .int .i64 ta.2.2] 28)
    clear hB
    obtain ⟨hxc0, hxc1, hxc2, hxf⟩ := blk3 HX.out
    clear hxf
    obtain ⟨hsc0, hsc1, hsc2, hsf⟩ := blk3 HS.out
    clear hsf
    go_wp2_with fail
    clear hxc0 hxc1 hxc2 hsc0 hsc1 hsc2
    refine (sum_any _ _ l q _ HP.out (by omega) HQ.out (by omega)).mono ?_
    rintro e w3 ⟨rfl, hb3⟩
    replace HP := Lib.hid (slKeep hb3 HP.out)
    replace HQ := Lib.hid (slKeep hb3 HQ.out)
    replace HX := Lib.hid (keepBlk hb3 HX.out)
    replace H1 := Lib.hid (slKeep hb3 H1.out)
    replace HS := Lib.hid (keepBlk hb3 HS.out)
    generalize hsm : sumOf l q = sm at *
    obtain ⟨tq, sc⟩ := sm
    have HSUM := Lib.hid hsm; clear hsm
    have hB := newB w3 (.cells #[.int .i64 tq.1, .int .i64 tq.2.1, .int .i64 tq.2.2] 28)
    have hbw3 := chainB (chainB hbw2 hb3) hB
    clear hbw2 hb3
    replace HP := Lib.hid (slKeep hB HP.out)
    replace HQ := Lib.hid (slKeep hB HQ.out)
    replace HX := Lib.hid (keepBlk hB HX.out)
    replace H1 := Lib.hid (slKeep hB H1.out)
    replace HS := Lib.hid (keepBlk hB HS.out)
    have HT := Lib.hid (blk_new w3 #[.int .i64 tq.1, .int .i64 tq.2.1, .int .i64 tq.2.2] 28)
    clear hB
    by_cases hsc : sc = 0
    · subst hsc
      obtain ⟨hasc, htq⟩ := sumOf_inv HSUM.out
      have HO2 : Hid (tq.1 ≤ W → tq.2.1 ≤ V → tq.2.2 ≤ ta.2.2 ∧ (tq.2.2 = ta.2.2 → before q a = false)) := by
        intro g1 g2
        rw [htq] at g1 g2 ⊢
        exact HOPT.out q hasc ⟨g1, g2⟩
      clear hasc htq
      by_cases g1 : W < tq.1
      · skip
        obtain ⟨hxc0, hxc1, hxc2, hxf⟩ := blk3 HX.out
        clear hxf
        obtain ⟨hsc0, hsc1, hsc2, hsf⟩ := blk3 HS.out
        clear hsf
        obtain ⟨htc0, htc1, htc2, htf⟩ := blk3 HT.out
        clear htf
        go_wp2_with fail
        clear hxc0 hxc1 hxc2 hsc0 hsc1 hsc2 htc0 htc1 htc2
        refine (awake_any _).mono ?_
        rintro e w9 ⟨rfl, hb9⟩
        go_wp2
        go_ret
        exact ⟨rfl, chainB hbw3 hb9⟩
      by_cases g2 : V < tq.2.1
      · have g1d : decide (W < tq.1) = false := by simp; omega
        obtain ⟨hxc0, hxc1, hxc2, hxf⟩ := blk3 HX.out
        clear hxf
        obtain ⟨hsc0, hsc1, hsc2, hsf⟩ := blk3 HS.out
        clear hsf
        obtain ⟨htc0, htc1, htc2, htf⟩ := blk3 HT.out
        clear htf
        go_wp2_with fail
        clear hxc0 hxc1 hxc2 hsc0 hsc1 hsc2 htc0 htc1 htc2
        refine (awake_any _).mono ?_
        rintro e w9 ⟨rfl, hb9⟩
        go_wp2
        go_ret
        exact ⟨rfl, chainB hbw3 hb9⟩
      obtain ⟨o1, o2⟩ := HO2.out (by omega) (by omega)
      have O2 := Lib.hid o2; clear o2
      have g1d : decide (W < tq.1) = false := by simp; omega
      have g2d : decide (V < tq.2.1) = false := by simp; omega
      by_cases ge : tq.2.2 = ta.2.2
      · have hbf := O2.out ge
        have HBF := Lib.hid hbf; clear hbf
        have gen : (tq.2.2 != ta.2.2) = false := by simp [ge]
        have GE := Lib.hid ge; clear ge
        obtain ⟨hxc0, hxc1, hxc2, hxf⟩ := blk3 HX.out
        clear hxf
        obtain ⟨hsc0, hsc1, hsc2, hsf⟩ := blk3 HS.out
        clear hsf
        obtain ⟨htc0, htc1, htc2, htf⟩ := blk3 HT.out
        clear htf
        go_wp2_with fail
        clear hxc0 hxc1 hxc2 hsc0 hsc1 hsc2 htc0 htc1 htc2
        refine (before_is _ _ q a false HBF.out _ _ HQ.out H1.out (by omega) (by omega)).mono ?_
        rintro e w4 ⟨rfl, hb4⟩
        replace HP := Lib.hid (slKeep hb4 HP.out)
        replace HQ := Lib.hid (slKeep hb4 HQ.out)
        replace HX := Lib.hid (keepBlk hb4 HX.out)
        replace H1 := Lib.hid (slKeep hb4 H1.out)
        replace HS := Lib.hid (keepBlk hb4 HS.out)
        replace HT := Lib.hid (keepBlk hb4 HT.out)
        have hbw4 := chainB hbw3 hb4
        clear hbw3 hb4
        obtain ⟨hxc0, hxc1, hxc2, hxf⟩ := blk3 HX.out
        clear hxf
        obtain ⟨hsc0, hsc1, hsc2, hsf⟩ := blk3 HS.out
        clear hsf
        obtain ⟨htc0, htc1, htc2, htf⟩ := blk3 HT.out
        clear htf
        go_wp2_with fail
        clear hxc0 hxc1 hxc2 hsc0 hsc1 hsc2 htc0 htc1 htc2
        refine (awake_any _).mono ?_
        rintro e w9 ⟨rfl, hb9⟩
        go_wp2
        go_ret
        exact ⟨rfl, chainB hbw4 hb9⟩
      · have gen : (tq.2.2 != ta.2.2) = true := by simp [ge]
        clear ge
        obtain ⟨hxc0, hxc1, hxc2, hxf⟩ := blk3 HX.out
        clear hxf
        obtain ⟨hsc0, hsc1, hsc2, hsf⟩ := blk3 HS.out
        clear hsf
        obtain ⟨htc0, htc1, htc2, htf⟩ := blk3 HT.out
        clear htf
        go_wp2_with fail
        clear hxc0 hxc1 hxc2 hsc0 hsc1 hsc2 htc0 htc1 htc2
        refine (awake_any _).mono ?_
        rintro e w9 ⟨rfl, hb9⟩
        go_wp2
        go_ret
        exact ⟨rfl, chainB hbw3 hb9⟩
    · have hsc1 : (sc != 0) = true := by simp [hsc]
      clear hsc
      obtain ⟨hxc0, hxc1, hxc2, hxf⟩ := blk3 HX.out
      clear hxf
      obtain ⟨hsc0, hsc1, hsc2, hsf⟩ := blk3 HS.out
      clear hsf
      obtain ⟨htc0, htc1, htc2, htf⟩ := blk3 HT.out
      clear htf
      go_wp2_with fail
      clear hxc0 hxc1 hxc2 hsc0 hsc1 hsc2 htc0 htc1 htc2
      refine (awake_any _).mono ?_
      rintro e w9 ⟨rfl, hb9⟩
      go_wp2
      go_ret
      exact ⟨rfl, chainB hbw3 hb9⟩
  · have HBR := Lib.hid (bestRes_no hck)
    have hne : (checkOf l W V != 0) = true := by simp [hck]
    clear hck
    generalize hcc : checkOf l W V = c at *
    have HCC := Lib.hid hcc; clear hcc
    go_enter Try.func6, Try.ntmps6
    have hA := newB w (.cells #[.slice ad l.length cap, .int .i64 W, .int .i64 V] 24)
    have HP := Lib.hid (slKeep hA HPL.out)
    have HQ := Lib.hid (slKeep hA HQL.out)
    have HX := Lib.hid (blk_new w #[.slice ad l.length cap, .int .i64 W, .int .i64 V] 24)
    obtain ⟨hxc0, hxc1, hxc2, hxf⟩ := blk3 HX.out
    clear hxf
    go_wp2_with fail
    clear hxc0 hxc1 hxc2
    refine (best_any _ l W V _ HP.out (by omega)).mono ?_
    rintro e w1 ⟨v1, rfl, h1, hb1⟩
    replace HP := Lib.hid (slKeep hb1 HP.out)
    replace HQ := Lib.hid (slKeep hb1 HQ.out)
    replace HX := Lib.hid (keepBlk hb1 HX.out)
    rw [HBR.out] at h1
    rw [HBR.out]
    have hbw1 := chainB hA hb1
    clear hA hb1
    obtain ⟨a1, c1, rfl, _⟩ := h1
    obtain ⟨hxc0, hxc1, hxc2, hxf⟩ := blk3 HX.out
    clear hxf
    go_wp2_with fail
    clear hxc0 hxc1 hxc2
    refine (check_any _ l W V _ HP.out (by omega)).mono ?_
    rintro e w2 ⟨rfl, hb2⟩
    replace HP := Lib.hid (slKeep hb2 HP.out)
    replace HQ := Lib.hid (slKeep hb2 HQ.out)
    replace HX := Lib.hid (keepBlk hb2 HX.out)
    rw [HCC.out]
    have hbw2 := chainB hbw1 hb2
    obtain ⟨hxc0, hxc1, hxc2, hxf⟩ := blk3 HX.out
    clear hxf
    go_wp2_with fail
    clear hxc0 hxc1 hxc2
    refine (awake_any _).mono ?_
    rintro e w9 ⟨rfl, hb9⟩
    go_wp2
    go_ret
    exact ⟨rfl, chainB hbw2 hb9⟩

section
variable {H : Type} {de : TypeId × Value → H} {w : World}
theorem open_arr2 {base : Nat} {v : Value} {d : DataW H} {ps : List MemPlace} (ok : Value.okWide Try.prog w .any base 41 v) (h : DataW.Trod de Try.prog w 0 (fun _ => true) true 41 v d ps) :
    ∃ m0 m1 : Int, v = .agg #[.int .i64 m0, .int .i64 m1] ∧ (Lit.int .i64 m0).wf = true ∧ (Lit.int .i64 m1).wf = true := by
  simp only [Value.okWide, Try.underlying41] at ok
  obtain ⟨cs, rfl, hsz, _⟩ := ok
  obtain ⟨c0, c1, rfl⟩ := Joins.array2 (hsz.trans (show Try.prog.cellsOf 41 = 2 from by kernel_rfl))
  obtain ⟨fuel, hf⟩ := h
  obtain ⟨xs, m, _, _, _, hl, he⟩ := DataW.trod_array Try.underlying41 hf
  have hc : Try.prog.cellsOf 3 = 1 := by kernel_rfl
  have one : ∀ (i : Nat) (c : Value), i < 2 → (([c0, c1].drop (i * 1)).take 1) = [c] → ∃ x : Int, c = .int .i64 x ∧ (Lit.int .i64 x).wf = true := by
    intro i c hi hcs
    have h := he i hi
    rw [hc] at h
    have hcs' : ((Value.agg #[c0, c1]).cells.toList.drop (i * 1)).take 1 = [c] := hcs
    rw [hcs', List.getElem?_eq_getElem (by omega)] at h
    obtain ⟨n, e1, _, hn⟩ := DataW.trod_int Try.underlying3 h
    exact ⟨n, by simpa using e1, hn⟩
  obtain ⟨x0, rfl, w0⟩ := one 0 c0 (by omega) rfl
  obtain ⟨x1, rfl, w1⟩ := one 1 c1 (by omega) rfl
  exact ⟨x0, x1, rfl, w0, w1⟩
end
theorem blk2 {w : World} {g : Nat} {a b : Value} {T : TypeId} (h : w.heap[g]? = some (.cells #[a, b] T (0, 0))) :
    w.cell? ⟨g, 0, none⟩ = some a ∧ w.cell? ⟨g, 1, none⟩ = some b ∧ ∀ j, w.frozen? ⟨g, j, none⟩ = false := by
  refine ⟨?_, ?_, ?_⟩
  · simp [World.cell?, h]
  · simp [World.cell?, h]
  · intro j; simp [World.frozen?, h]
theorem best_mono {l : List Par} {W V W' V' : Int} {a b : List Int} (ha : IsBest l W V a) (hb : IsBest l W' V' b) (hW : W ≤ W') (hV : V ≤ V') : (tot l a).2.2 ≤ (tot l b).2.2 :=
  (hb.2.2 a ha.1 ⟨by have := ha.2.1.1; omega, by have := ha.2.1.2; omega⟩).1

set_option maxRecDepth 100000 in
set_option maxHeartbeats 4000000 in
theorem truckGreater_walk {H : Type} {de : TypeId × Value → H} {base : Nat} (w : World) (v : Value) (d : DataW H) (ps : List MemPlace) (ok : Value.okWide Try.prog w .any base 24 v) (h : DataW.Trod de Try.prog w 0 (fun _ => true) true 24 v d ps)
    (u : Value) (d2 : DataW H) (ps2 : List MemPlace) (ok2 : Value.okWide Try.prog w .any base 41 u) (h2 : DataW.Trod de Try.prog w 0 (fun _ => true) true 41 u d2 ps2) :
    Calls Try.prog 7 #[v, u] w fun e w' => e = .returned (.bool true) ∧ Below w.heap.size w w' := by
  obtain ⟨pv, W, V, l, rfl, hl, hlm, hW, hV⟩ := open_truck ok h
  obtain ⟨m0, m1, rfl, hm0, hm1⟩ := open_arr2 ok2 h2
  clear ok h ok2 h2 hW hV hm0 hm1
  unfold maxLen at hlm
  have HPL := Lib.hid hl
  obtain ⟨ad, cap, rfl, hcap, _⟩ := hl
  by_cases q0 : 16 < l.length
  · go_enter Try.func7, Try.ntmps7
    go_wp2_with fail
    refine (awake_any _).mono ?_
    rintro e w1 ⟨rfl, hb1⟩
    go_wp2
    go_ret
    exact ⟨rfl, chainB (chainB (newB _ _) (newB _ _)) hb1⟩
  have q0 : l.length ≤ 16 := by omega
  have r0 : decide (16 < l.length) = false := by simp; omega
  by_cases q1 : m0 < 0
  · go_enter Try.func7, Try.ntmps7
    go_wp2_with fail
    refine (awake_any _).mono ?_
    rintro e w1 ⟨rfl, hb1⟩
    go_wp2
    go_ret
    exact ⟨rfl, chainB (chainB (newB _ _) (newB _ _)) hb1⟩
  have q1 : 0 ≤ m0 := by omega
  have r1 : decide (m0 < 0) = false := by simp; omega
  by_cases q2 : m1 < 0
  · go_enter Try.func7, Try.ntmps7
    go_wp2_with fail
    refine (awake_any _).mono ?_
    rintro e w1 ⟨rfl, hb1⟩
    go_wp2
    go_ret
    exact ⟨rfl, chainB (chainB (newB _ _) (newB _ _)) hb1⟩
  have q2 : 0 ≤ m1 := by omega
  have r2 : decide (m1 < 0) = false := by simp; omega
  by_cases q3 : 1000000000000 < m0
  · go_enter Try.func7, Try.ntmps7
    go_wp2_with fail
    refine (awake_any _).mono ?_
    rintro e w1 ⟨rfl, hb1⟩
    go_wp2
    go_ret
    exact ⟨rfl, chainB (chainB (newB _ _) (newB _ _)) hb1⟩
  have q3 : m0 ≤ 1000000000000 := by omega
  have r3 : decide (1000000000000 < m0) = false := by simp; omega
  by_cases q4 : 1000000000000 < m1
  · go_enter Try.func7, Try.ntmps7
    go_wp2_with fail
    refine (awake_any _).mono ?_
    rintro e w1 ⟨rfl, hb1⟩
    go_wp2
    go_ret
    exact ⟨rfl, chainB (chainB (newB _ _) (newB _ _)) hb1⟩
  have q4 : m1 ≤ 1000000000000 := by omega
  have r4 : decide (1000000000000 < m1) = false := by simp; omega
  by_cases hck : checkOf l W V = 0
  · obtain ⟨z1, z2, z3, z4⟩ := check_zero hck
    have HCK := Lib.hid hck
    have HBR := Lib.hid (bestRes_ok hck)
    obtain ⟨x1, x2⟩ := inR_true z2; obtain ⟨y1, y2⟩ := inR_true z3
    have hbest := bestOf_isBest (good_of_all z4) x1 y1
    have HC0 := Lib.hid (check00 hck)
    have HSA := Lib.hid (sumOf_asc HC0.out hbest.1)
    have HIB := Lib.hid hbest
    have hal := hbest.1.len (Nat.zero_le _)
    have Z4 := Lib.hid z4
    clear hbest z1 z2 z3 z4 hck
    go_enter Try.func7, Try.ntmps7
    have hA := chainB (newB w (.cells #[.slice ad l.length cap, .int .i64 W, .int .i64 V] 24)) (newB _ (.cells #[.int .i64 m0, .int .i64 m1] 41))
    have HP := Lib.hid (slKeep hA HPL.out)
    have HX := Lib.hid (keepBlk (newB _ (.cells #[.int .i64 m0, .int .i64 m1] 41)) (blk_new w #[.slice ad l.length cap, .int .i64 W, .int .i64 V] 24))
    have HY0 := blk_new (w.alloc (.cells #[.slice ad l.length cap, .int .i64 W, .int .i64 V] 24)) #[.int .i64 m0, .int .i64 m1] 41
    rw [show (w.alloc (.cells #[.slice ad l.length cap, .int .i64 W, .int .i64 V] 24)).heap.size = w.heap.size + 1 from by simp] at HY0
    have HY := Lib.hid (HY0)
    clear HY0
    obtain ⟨hxc0, hxc1, hxc2, hxf⟩ := blk3 HX.out
    clear hxf
    obtain ⟨hyc0, hyc1, hyf⟩ := blk2 HY.out
    clear hyf
    go_wp2_with fail
    clear hxc0 hxc1 hxc2 hyc0 hyc1
    refine (check_any _ l W V _ HP.out (by omega)).mono ?_
    rintro e w0 ⟨rfl, hb0⟩
    replace HP := Lib.hid (slKeep hb0 HP.out)
    replace HX := Lib.hid (keepBlk hb0 HX.out)
    replace HY := Lib.hid (keepBlk hb0 HY.out)
    rw [HCK.out]
    have hbw0 := chainB hA hb0
    clear hA hb0
    obtain ⟨hxc0, hxc1, hxc2, hxf⟩ := blk3 HX.out
    clear hxf
    obtain ⟨hyc0, hyc1, hyf⟩ := blk2 HY.out
    clear hyf
    go_wp2_with fail
    clear hxc0 hxc1 hxc2 hyc0 hyc1
    refine (best_any _ l W V _ HP.out (by omega)).mono ?_
    rintro e w1 ⟨v1, rfl, h1, hb1⟩
    replace HP := Lib.hid (slKeep hb1 HP.out)
    replace HX := Lib.hid (keepBlk hb1 HX.out)
    replace HY := Lib.hid (keepBlk hb1 HY.out)
    rw [HBR.out] at h1
    rw [HBR.out]
    have hbw1 := chainB hbw0 hb1
    clear hbw0 hb1
    generalize bestOf l W V = a at *
    have H1 := Lib.hid (h1)
    obtain ⟨a1, c1, rfl, _⟩ := h1
    have HTM : Hid (∀ W2 V2 : Int, W ≤ W2 → W2 ≤ 1000000000000 → V ≤ V2 → V2 ≤ 1000000000000 → checkOf l W2 V2 = 0 ∧ IsBest l W2 V2 (bestOf l W2 V2)) := by
      intro W2 V2 g1 g2 g3 g4
      have e1 : inR W2 = true := by unfold inR; simp; omega
      have e2 : inR V2 = true := by unfold inR; simp; omega
      exact ⟨check_ok l W2 V2 (by omega) e1 e2 Z4.out, bestOf_isBest (good_of_all Z4.out) (by omega) (by omega)⟩
    by_cases hw : W + m0 ≤ 1000000000000
    · by_cases hv : V + m1 ≤ 1000000000000
      · obtain ⟨k1, k2⟩ := HTM.out (W + m0) (V + m1) (by omega) (by omega) (by omega) (by omega)
        have K3 := Lib.hid (best_mono HIB.out k2 (by omega) (by omega))
        have K1 := Lib.hid (bestRes_ok k1); have K4 := Lib.hid (sumOf_asc HC0.out k2.1)
        have hbl := k2.1.len (Nat.zero_le _)
        clear k1 k2
        obtain ⟨hxc0, hxc1, hxc2, hxf⟩ := blk3 HX.out
        clear hxf
        obtain ⟨hyc0, hyc1, hyf⟩ := blk2 HY.out
        clear hyf
        go_wp2_with fail
        clear hxc0 hxc1 hxc2 hyc0 hyc1
        refine (best_any _ l (W + m0) (V + m1) _ HP.out (by omega)).mono ?_
        rintro e w2 ⟨v2, rfl, h2, hb2⟩
        replace HP := Lib.hid (slKeep hb2 HP.out)
        replace HX := Lib.hid (keepBlk hb2 HX.out)
        replace HY := Lib.hid (keepBlk hb2 HY.out)
        replace H1 := Lib.hid (slKeep hb2 H1.out)
        rw [K1.out] at h2
        rw [K1.out]
        have hbw2 := chainB hbw1 hb2
        clear hbw1 hb2
        generalize bestOf l (W + m0) (V + m1) = b at *
        have H2 := Lib.hid (h2)
        obtain ⟨a2, c2, rfl, _⟩ := h2
        obtain ⟨hxc0, hxc1, hxc2, hxf⟩ := blk3 HX.out
        clear hxf
        obtain ⟨hyc0, hyc1, hyf⟩ := blk2 HY.out
        clear hyf
        go_wp2_with fail
        clear hxc0 hxc1 hxc2 hyc0 hyc1
        refine (sum_any _ _ l a _ HP.out (by omega) H1.out (by omega)).mono ?_
        rintro e w3 ⟨rfl, hb3⟩
        replace HP := Lib.hid (slKeep hb3 HP.out)
        replace HX := Lib.hid (keepBlk hb3 HX.out)
        replace HY := Lib.hid (keepBlk hb3 HY.out)
        replace H1 := Lib.hid (slKeep hb3 H1.out)
        replace H2 := Lib.hid (slKeep hb3 H2.out)
        rw [HSA.out]
        have hB := newB w3 (.cells #[.int .i64 (tot l a).1, .int .i64 (tot l a).2.1, .int .i64 (tot l a).2.2] 28)
        have hbw3 := chainB (chainB hbw2 hb3) hB
        clear hbw2 hb3
        replace HP := Lib.hid (slKeep hB HP.out)
        replace HX := Lib.hid (keepBlk hB HX.out)
        replace HY := Lib.hid (keepBlk hB HY.out)
        replace H1 := Lib.hid (slKeep hB H1.out)
        replace H2 := Lib.hid (slKeep hB H2.out)
        have HS := Lib.hid (blk_new w3 #[.int .i64 (tot l a).1, .int .i64 (tot l a).2.1, .int .i64 (tot l a).2.2] 28)
        clear hB
        obtain ⟨hxc0, hxc1, hxc2, hxf⟩ := blk3 HX.out
        clear hxf
        obtain ⟨hyc0, hyc1, hyf⟩ := blk2 HY.out
        clear hyf
        obtain ⟨hsc0, hsc1, hsc2, hsf⟩ := blk3 HS.out
        clear hsf
        go_wp2_with fail
        clear hxc0 hxc1 hxc2 hyc0 hyc1 hsc0 hsc1 hsc2
        refine (sum_any _ _ l b _ HP.out (by omega) H2.out (by omega)).mono ?_
        rintro e w4 ⟨rfl, hb4⟩
        replace HP := Lib.hid (slKeep hb4 HP.out)
        replace HX := Lib.hid (keepBlk hb4 HX.out)
        replace HY := Lib.hid (keepBlk hb4 HY.out)
        replace H1 := Lib.hid (slKeep hb4 H1.out)
        replace H2 := Lib.hid (slKeep hb4 H2.out)
        replace HS := Lib.hid (keepBlk hb4 HS.out)
        rw [K4.out]
        have hB := newB w4 (.cells #[.int .i64 (tot l b).1, .int .i64 (tot l b).2.1, .int .i64 (tot l b).2.2] 28)
        have hbw4 := chainB (chainB hbw3 hb4) hB
        clear hbw3 hb4
        replace HP := Lib.hid (slKeep hB HP.out)
        replace HX := Lib.hid (keepBlk hB HX.out)
        replace HY := Lib.hid (keepBlk hB HY.out)
        replace H1 := Lib.hid (slKeep hB H1.out)
        replace H2 := Lib.hid (slKeep hB H2.out)
        replace HS := Lib.hid (keepBlk hB HS.out)
        have HT := Lib.hid (blk_new w4 #[.int .i64 (tot l b).1, .int .i64 (tot l b).2.1, .int .i64 (tot l b).2.2] 28)
        clear hB
        have k3 := K3.out
        obtain ⟨hxc0, hxc1, hxc2, hxf⟩ := blk3 HX.out
        clear hxf
        obtain ⟨hyc0, hyc1, hyf⟩ := blk2 HY.out
        clear hyf
        obtain ⟨hsc0, hsc1, hsc2, hsf⟩ := blk3 HS.out
        clear hsf
        obtain ⟨htc0, htc1, htc2, htf⟩ := blk3 HT.out
        clear htf
        go_wp2_with fail
        clear hxc0 hxc1 hxc2 hyc0 hyc1 hsc0 hsc1 hsc2 htc0 htc1 htc2
        refine (awake_any _).mono ?_
        rintro e w9 ⟨rfl, hb9⟩
        go_wp2
        go_ret
        exact ⟨rfl, chainB hbw4 hb9⟩
      · have hv : 1000000000000 < V + m1 := by omega
        obtain ⟨k1, k2⟩ := HTM.out (W + m0) (1000000000000) (by omega) (by omega) (by omega) (by omega)
        have K3 := Lib.hid (best_mono HIB.out k2 (by omega) (by omega))
        have K1 := Lib.hid (bestRes_ok k1); have K4 := Lib.hid (sumOf_asc HC0.out k2.1)
        have hbl := k2.1.len (Nat.zero_le _)
        clear k1 k2
        obtain ⟨hxc0, hxc1, hxc2, hxf⟩ := blk3 HX.out
        clear hxf
        obtain ⟨hyc0, hyc1, hyf⟩ := blk2 HY.out
        clear hyf
        go_wp2_with fail
        clear hxc0 hxc1 hxc2 hyc0 hyc1
        refine (best_any _ l (W + m0) (1000000000000) _ HP.out (by omega)).mono ?_
        rintro e w2 ⟨v2, rfl, h2, hb2⟩
        replace HP := Lib.hid (slKeep hb2 HP.out)
        replace HX := Lib.hid (keepBlk hb2 HX.out)
        replace HY := Lib.hid (keepBlk hb2 HY.out)
        replace H1 := Lib.hid (slKeep hb2 H1.out)
        rw [K1.out] at h2
        rw [K1.out]
        have hbw2 := chainB hbw1 hb2
        clear hbw1 hb2
        generalize bestOf l (W + m0) (1000000000000) = b at *
        have H2 := Lib.hid (h2)
        obtain ⟨a2, c2, rfl, _⟩ := h2
        obtain ⟨hxc0, hxc1, hxc2, hxf⟩ := blk3 HX.out
        clear hxf
        obtain ⟨hyc0, hyc1, hyf⟩ := blk2 HY.out
        clear hyf
        go_wp2_with fail
        clear hxc0 hxc1 hxc2 hyc0 hyc1
        refine (sum_any _ _ l a _ HP.out (by omega) H1.out (by omega)).mono ?_
        rintro e w3 ⟨rfl, hb3⟩
        replace HP := Lib.hid (slKeep hb3 HP.out)
        replace HX := Lib.hid (keepBlk hb3 HX.out)
        replace HY := Lib.hid (keepBlk hb3 HY.out)
        replace H1 := Lib.hid (slKeep hb3 H1.out)
        replace H2 := Lib.hid (slKeep hb3 H2.out)
        rw [HSA.out]
        have hB := newB w3 (.cells #[.int .i64 (tot l a).1, .int .i64 (tot l a).2.1, .int .i64 (tot l a).2.2] 28)
        have hbw3 := chainB (chainB hbw2 hb3) hB
        clear hbw2 hb3
        replace HP := Lib.hid (slKeep hB HP.out)
        replace HX := Lib.hid (keepBlk hB HX.out)
        replace HY := Lib.hid (keepBlk hB HY.out)
        replace H1 := Lib.hid (slKeep hB H1.out)
        replace H2 := Lib.hid (slKeep hB H2.out)
        have HS := Lib.hid (blk_new w3 #[.int .i64 (tot l a).1, .int .i64 (tot l a).2.1, .int .i64 (tot l a).2.2] 28)
        clear hB
        obtain ⟨hxc0, hxc1, hxc2, hxf⟩ := blk3 HX.out
        clear hxf
        obtain ⟨hyc0, hyc1, hyf⟩ := blk2 HY.out
        clear hyf
        obtain ⟨hsc0, hsc1, hsc2, hsf⟩ := blk3 HS.out
        clear hsf
        go_wp2_with fail
        clear hxc0 hxc1 hxc2 hyc0 hyc1 hsc0 hsc1 hsc2
        refine (sum_any _ _ l b _ HP.out (by omega) H2.out (by omega)).mono ?_
        rintro e w4 ⟨rfl, hb4⟩
        replace HP := Lib.hid (slKeep hb4 HP.out)
        replace HX := Lib.hid (keepBlk hb4 HX.out)
        replace HY := Lib.hid (keepBlk hb4 HY.out)
        replace H1 := Lib.hid (slKeep hb4 H1.out)
        replace H2 := Lib.hid (slKeep hb4 H2.out)
        replace HS := Lib.hid (keepBlk hb4 HS.out)
        rw [K4.out]
        have hB := newB w4 (.cells #[.int .i64 (tot l b).1, .int .i64 (tot l b).2.1, .int .i64 (tot l b).2.2] 28)
        have hbw4 := chainB (chainB hbw3 hb4) hB
        clear hbw3 hb4
        replace HP := Lib.hid (slKeep hB HP.out)
        replace HX := Lib.hid (keepBlk hB HX.out)
        replace HY := Lib.hid (keepBlk hB HY.out)
        replace H1 := Lib.hid (slKeep hB H1.out)
        replace H2 := Lib.hid (slKeep hB H2.out)
        replace HS := Lib.hid (keepBlk hB HS.out)
        have HT := Lib.hid (blk_new w4 #[.int .i64 (tot l b).1, .int .i64 (tot l b).2.1, .int .i64 (tot l b).2.2] 28)
        clear hB
        have k3 := K3.out
        obtain ⟨hxc0, hxc1, hxc2, hxf⟩ := blk3 HX.out
        clear hxf
        obtain ⟨hyc0, hyc1, hyf⟩ := blk2 HY.out
        clear hyf
        obtain ⟨hsc0, hsc1, hsc2, hsf⟩ := blk3 HS.out
        clear hsf
        obtain ⟨htc0, htc1, htc2, htf⟩ := blk3 HT.out
        clear htf
        go_wp2_with fail
        clear hxc0 hxc1 hxc2 hyc0 hyc1 hsc0 hsc1 hsc2 htc0 htc1 htc2
        refine (awake_any _).mono ?_
        rintro e w9 ⟨rfl, hb9⟩
        go_wp2
        go_ret
        exact ⟨rfl, chainB hbw4 hb9⟩
    · have hw : 1000000000000 < W + m0 := by omega
      by_cases hv : V + m1 ≤ 1000000000000
      · obtain ⟨k1, k2⟩ := HTM.out (1000000000000) (V + m1) (by omega) (by omega) (by omega) (by omega)
        have K3 := Lib.hid (best_mono HIB.out k2 (by omega) (by omega))
        have K1 := Lib.hid (bestRes_ok k1); have K4 := Lib.hid (sumOf_asc HC0.out k2.1)
        have hbl := k2.1.len (Nat.zero_le _)
        clear k1 k2
        obtain ⟨hxc0, hxc1, hxc2, hxf⟩ := blk3 HX.out
        clear hxf
        obtain ⟨hyc0, hyc1, hyf⟩ := blk2 HY.out
        clear hyf
        go_wp2_with fail
        clear hxc0 hxc1 hxc2 hyc0 hyc1
        refine (best_any _ l (1000000000000) (V + m1) _ HP.out (by omega)).mono ?_
        rintro e w2 ⟨v2, rfl, h2, hb2⟩
        replace HP := Lib.hid (slKeep hb2 HP.out)
        replace HX := Lib.hid (keepBlk hb2 HX.out)
        replace HY := Lib.hid (keepBlk hb2 HY.out)
        replace H1 := Lib.hid (slKeep hb2 H1.out)
        rw [K1.out] at h2
        rw [K1.out]
        have hbw2 := chainB hbw1 hb2
        clear hbw1 hb2
        generalize bestOf l (1000000000000) (V + m1) = b at *
        have H2 := Lib.hid (h2)
        obtain ⟨a2, c2, rfl, _⟩ := h2
        obtain ⟨hxc0, hxc1, hxc2, hxf⟩ := blk3 HX.out
        clear hxf
        obtain ⟨hyc0, hyc1, hyf⟩ := blk2 HY.out
        clear hyf
        go_wp2_with fail
        clear hxc0 hxc1 hxc2 hyc0 hyc1
        refine (sum_any _ _ l a _ HP.out (by omega) H1.out (by omega)).mono ?_
        rintro e w3 ⟨rfl, hb3⟩
        replace HP := Lib.hid (slKeep hb3 HP.out)
        replace HX := Lib.hid (keepBlk hb3 HX.out)
        replace HY := Lib.hid (keepBlk hb3 HY.out)
        replace H1 := Lib.hid (slKeep hb3 H1.out)
        replace H2 := Lib.hid (slKeep hb3 H2.out)
        rw [HSA.out]
        have hB := newB w3 (.cells #[.int .i64 (tot l a).1, .int .i64 (tot l a).2.1, .int .i64 (tot l a).2.2] 28)
        have hbw3 := chainB (chainB hbw2 hb3) hB
        clear hbw2 hb3
        replace HP := Lib.hid (slKeep hB HP.out)
        replace HX := Lib.hid (keepBlk hB HX.out)
        replace HY := Lib.hid (keepBlk hB HY.out)
        replace H1 := Lib.hid (slKeep hB H1.out)
        replace H2 := Lib.hid (slKeep hB H2.out)
        have HS := Lib.hid (blk_new w3 #[.int .i64 (tot l a).1, .int .i64 (tot l a).2.1, .int .i64 (tot l a).2.2] 28)
        clear hB
        obtain ⟨hxc0, hxc1, hxc2, hxf⟩ := blk3 HX.out
        clear hxf
        obtain ⟨hyc0, hyc1, hyf⟩ := blk2 HY.out
        clear hyf
        obtain ⟨hsc0, hsc1, hsc2, hsf⟩ := blk3 HS.out
        clear hsf
        go_wp2_with fail
        clear hxc0 hxc1 hxc2 hyc0 hyc1 hsc0 hsc1 hsc2
        refine (sum_any _ _ l b _ HP.out (by omega) H2.out (by omega)).mono ?_
        rintro e w4 ⟨rfl, hb4⟩
        replace HP := Lib.hid (slKeep hb4 HP.out)
        replace HX := Lib.hid (keepBlk hb4 HX.out)
        replace HY := Lib.hid (keepBlk hb4 HY.out)
        replace H1 := Lib.hid (slKeep hb4 H1.out)
        replace H2 := Lib.hid (slKeep hb4 H2.out)
        replace HS := Lib.hid (keepBlk hb4 HS.out)
        rw [K4.out]
        have hB := newB w4 (.cells #[.int .i64 (tot l b).1, .int .i64 (tot l b).2.1, .int .i64 (tot l b).2.2] 28)
        have hbw4 := chainB (chainB hbw3 hb4) hB
        clear hbw3 hb4
        replace HP := Lib.hid (slKeep hB HP.out)
        replace HX := Lib.hid (keepBlk hB HX.out)
        replace HY := Lib.hid (keepBlk hB HY.out)
        replace H1 := Lib.hid (slKeep hB H1.out)
        replace H2 := Lib.hid (slKeep hB H2.out)
        replace HS := Lib.hid (keepBlk hB HS.out)
        have HT := Lib.hid (blk_new w4 #[.int .i64 (tot l b).1, .int .i64 (tot l b).2.1, .int .i64 (tot l b).2.2] 28)
        clear hB
        have k3 := K3.out
        obtain ⟨hxc0, hxc1, hxc2, hxf⟩ := blk3 HX.out
        clear hxf
        obtain ⟨hyc0, hyc1, hyf⟩ := blk2 HY.out
        clear hyf
        obtain ⟨hsc0, hsc1, hsc2, hsf⟩ := blk3 HS.out
        clear hsf
        obtain ⟨htc0, htc1, htc2, htf⟩ := blk3 HT.out
        clear htf
        go_wp2_with fail
        clear hxc0 hxc1 hxc2 hyc0 hyc1 hsc0 hsc1 hsc2 htc0 htc1 htc2
        refine (awake_any _).mono ?_
        rintro e w9 ⟨rfl, hb9⟩
        go_wp2
        go_ret
        exact ⟨rfl, chainB hbw4 hb9⟩
      · have hv : 1000000000000 < V + m1 := by omega
        obtain ⟨k1, k2⟩ := HTM.out (1000000000000) (1000000000000) (by omega) (by omega) (by omega) (by omega)
        have K3 := Lib.hid (best_mono HIB.out k2 (by omega) (by omega))
        have K1 := Lib.hid (bestRes_ok k1); have K4 := Lib.hid (sumOf_asc HC0.out k2.1)
        have hbl := k2.1.len (Nat.zero_le _)
        clear k1 k2
        obtain ⟨hxc0, hxc1, hxc2, hxf⟩ := blk3 HX.out
        clear hxf
        obtain ⟨hyc0, hyc1, hyf⟩ := blk2 HY.out
        clear hyf
        go_wp2_with fail
        clear hxc0 hxc1 hxc2 hyc0 hyc1
        refine (best_any _ l (1000000000000) (1000000000000) _ HP.out (by omega)).mono ?_
        rintro e w2 ⟨v2, rfl, h2, hb2⟩
        replace HP := Lib.hid (slKeep hb2 HP.out)
        replace HX := Lib.hid (keepBlk hb2 HX.out)
        replace HY := Lib.hid (keepBlk hb2 HY.out)
        replace H1 := Lib.hid (slKeep hb2 H1.out)
        rw [K1.out] at h2
        rw [K1.out]
        have hbw2 := chainB hbw1 hb2
        clear hbw1 hb2
        generalize bestOf l (1000000000000) (1000000000000) = b at *
        have H2 := Lib.hid (h2)
        obtain ⟨a2, c2, rfl, _⟩ := h2
        obtain ⟨hxc0, hxc1, hxc2, hxf⟩ := blk3 HX.out
        clear hxf
        obtain ⟨hyc0, hyc1, hyf⟩ := blk2 HY.out
        clear hyf
        go_wp2_with fail
        clear hxc0 hxc1 hxc2 hyc0 hyc1
        refine (sum_any _ _ l a _ HP.out (by omega) H1.out (by omega)).mono ?_
        rintro e w3 ⟨rfl, hb3⟩
        replace HP := Lib.hid (slKeep hb3 HP.out)
        replace HX := Lib.hid (keepBlk hb3 HX.out)
        replace HY := Lib.hid (keepBlk hb3 HY.out)
        replace H1 := Lib.hid (slKeep hb3 H1.out)
        replace H2 := Lib.hid (slKeep hb3 H2.out)
        rw [HSA.out]
        have hB := newB w3 (.cells #[.int .i64 (tot l a).1, .int .i64 (tot l a).2.1, .int .i64 (tot l a).2.2] 28)
        have hbw3 := chainB (chainB hbw2 hb3) hB
        clear hbw2 hb3
        replace HP := Lib.hid (slKeep hB HP.out)
        replace HX := Lib.hid (keepBlk hB HX.out)
        replace HY := Lib.hid (keepBlk hB HY.out)
        replace H1 := Lib.hid (slKeep hB H1.out)
        replace H2 := Lib.hid (slKeep hB H2.out)
        have HS := Lib.hid (blk_new w3 #[.int .i64 (tot l a).1, .int .i64 (tot l a).2.1, .int .i64 (tot l a).2.2] 28)
        clear hB
        obtain ⟨hxc0, hxc1, hxc2, hxf⟩ := blk3 HX.out
        clear hxf
        obtain ⟨hyc0, hyc1, hyf⟩ := blk2 HY.out
        clear hyf
        obtain ⟨hsc0, hsc1, hsc2, hsf⟩ := blk3 HS.out
        clear hsf
        go_wp2_with fail
        clear hxc0 hxc1 hxc2 hyc0 hyc1 hsc0 hsc1 hsc2
        refine (sum_any _ _ l b _ HP.out (by omega) H2.out (by omega)).mono ?_
        rintro e w4 ⟨rfl, hb4⟩
        replace HP := Lib.hid (slKeep hb4 HP.out)
        replace HX := Lib.hid (keepBlk hb4 HX.out)
        replace HY := Lib.hid (keepBlk hb4 HY.out)
        replace H1 := Lib.hid (slKeep hb4 H1.out)
        replace H2 := Lib.hid (slKeep hb4 H2.out)
        replace HS := Lib.hid (keepBlk hb4 HS.out)
        rw [K4.out]
        have hB := newB w4 (.cells #[.int .i64 (tot l b).1, .int .i64 (tot l b).2.1, .int .i64 (tot l b).2.2] 28)
        have hbw4 := chainB (chainB hbw3 hb4) hB
        clear hbw3 hb4
        replace HP := Lib.hid (slKeep hB HP.out)
        replace HX := Lib.hid (keepBlk hB HX.out)
        replace HY := Lib.hid (keepBlk hB HY.out)
        replace H1 := Lib.hid (slKeep hB H1.out)
        replace H2 := Lib.hid (slKeep hB H2.out)
        replace HS := Lib.hid (keepBlk hB HS.out)
        have HT := Lib.hid (blk_new w4 #[.int .i64 (tot l b).1, .int .i64 (tot l b).2.1, .int .i64 (tot l b).2.2] 28)
        clear hB
        have k3 := K3.out
        obtain ⟨hxc0, hxc1, hxc2, hxf⟩ := blk3 HX.out
        clear hxf
        obtain ⟨hyc0, hyc1, hyf⟩ := blk2 HY.out
        clear hyf
        obtain ⟨hsc0, hsc1, hsc2, hsf⟩ := blk3 HS.out
        clear hsf
        obtain ⟨htc0, htc1, htc2, htf⟩ := blk3 HT.out
        clear htf
        go_wp2_with fail
        clear hxc0 hxc1 hxc2 hyc0 hyc1 hsc0 hsc1 hsc2 htc0 htc1 htc2
        refine (awake_any _).mono ?_
        rintro e w9 ⟨rfl, hb9⟩
        go_wp2
        go_ret
        exact ⟨rfl, chainB hbw4 hb9⟩
  · have hne : (checkOf l W V != 0) = true := by simp [hck]
    clear hck
    generalize hcc : checkOf l W V = c at *
    have HCC := Lib.hid hcc; clear hcc
    go_enter Try.func7, Try.ntmps7
    have hA := chainB (newB w (.cells #[.slice ad l.length cap, .int .i64 W, .int .i64 V] 24)) (newB _ (.cells #[.int .i64 m0, .int .i64 m1] 41))
    have HP := Lib.hid (slKeep hA HPL.out)
    have HX := Lib.hid (keepBlk (newB _ (.cells #[.int .i64 m0, .int .i64 m1] 41)) (blk_new w #[.slice ad l.length cap, .int .i64 W, .int .i64 V] 24))
    have HY0 := blk_new (w.alloc (.cells #[.slice ad l.length cap, .int .i64 W, .int .i64 V] 24)) #[.int .i64 m0, .int .i64 m1] 41
    rw [show (w.alloc (.cells #[.slice ad l.length cap, .int .i64 W, .int .i64 V] 24)).heap.size = w.heap.size + 1 from by simp] at HY0
    have HY := Lib.hid (HY0)
    clear HY0
    obtain ⟨hxc0, hxc1, hxc2, hxf⟩ := blk3 HX.out
    clear hxf
    obtain ⟨hyc0, hyc1, hyf⟩ := blk2 HY.out
    clear hyf
    go_wp2_with fail
    clear hxc0 hxc1 hxc2 hyc0 hyc1
    refine (check_any _ l W V _ HP.out (by omega)).mono ?_
    rintro e w1 ⟨rfl, hb1⟩
    replace HP := Lib.hid (slKeep hb1 HP.out)
    replace HX := Lib.hid (keepBlk hb1 HX.out)
    replace HY := Lib.hid (keepBlk hb1 HY.out)
    rw [HCC.out]
    have hbw1 := chainB hA hb1
    obtain ⟨hxc0, hxc1, hxc2, hxf⟩ := blk3 HX.out
    clear hxf
    obtain ⟨hyc0, hyc1, hyf⟩ := blk2 HY.out
    clear hyf
    go_wp2_with fail
    clear hxc0 hxc1 hxc2 hyc0 hyc1
    refine (awake_any _).mono ?_
    rintro e w9 ⟨rfl, hb9⟩
    go_wp2
    go_ret
    exact ⟨rfl, chainB hbw1 hb9⟩
end Go.Proofs.Ytcipnajdbafahaa.Tk
