/- The walk of Best, and of Same. -/
import Derived.Test.YtcipnajdbafahaaTruckVisit
import Derived.Deep.QuietTactic
import Derived.BigQuiet
namespace Go.Proofs.Ytcipnajdbafahaa.Tk
set_option linter.unusedVariables false
set_option linter.unusedSimpArgs false
open Go.RowKit

def bestRes (l : List Par) (W V : Int) : List Int × Int := if checkOf l W V = 0 then (bestOf l W V, 0) else ([], checkOf l W V)

set_option maxRecDepth 100000 in
set_option maxHeartbeats 1000000 in
theorem best_any (v : Value) (l : List Par) (W V : Int) (w : World) (hl : Kit.Sl 3 parEnc w w.heap.size v l) (hn : l.length ≤ 1000000) :
    Calls Try.prog 15 #[v, .int .i64 W, .int .i64 V] w fun e w' => ∃ v', e = .returned (.tuple #[v', .int .i64 (bestRes l W V).2]) ∧ Kit.Sl 1 intEnc w' w'.heap.size v' (bestRes l W V).1 ∧ Below w.heap.size w w' := by
  have HL := Lib.hid hl
  obtain ⟨ad, cap, rfl, hcap, _⟩ := hl
  by_cases hc : checkOf l W V = 0
  · have hr : bestRes l W V = (bestOf l W V, 0) := by unfold bestRes; rw [if_pos hc]
    rw [hr]
    obtain ⟨z1, z2, z3, z4⟩ := check_zero hc
    have HC := Lib.hid hc
    clear hc hr
    go_enter Try.func15, Try.ntmps15
    go_wp2_with fail
    refine (check_any _ l W V _ HL.out hn).mono ?_
    rintro e w1 ⟨rfl, hb1⟩
    rw [HC.out]
    have hsz := hb1.size
    go_wp2_with fail
    have HS : Hid (SrcAt (w1.alloc (.cells #[.slice ad l.length cap, .slice none 0 0, .slice none 0 0, .int .i64 0] 50)) w.heap.size w1.heap.size (.slice ad l.length cap) l [] ([], 0)) := by
      refine Lib.hid ⟨hsz, ⟨_, _, blk_new _ _ _, Kit.Own.nil _ _, ⟨none, 0, rfl, Nat.le_refl _, Or.inl rfl⟩, fun k hk => by simp [Value.ownBlock] at hk⟩, ?_⟩
      exact (HL.out.below hb1 (Nat.le_refl _)).below ((Below.refl _ _).alloc (Nat.le_refl _) _) hsz
    have hW := inR_true z2; have hV := inR_true z3
    refine (visit_any _ l z4 z1 w.heap.size w1.heap.size l.length 0 [] W V 0 ([], 0) _ (by omega) (by omega) (by simp) hW.1 hW.2 hV.1 hV.2 (by omega) (by simp) HS.out).mono ?_
    rintro e w2 ⟨rfl, hs2, hb2⟩
    obtain ⟨_, ⟨lv2, bv2, hB2, hown2, hbest2, _⟩, _⟩ := hs2
    obtain ⟨r0, r1, r2, r3, rf⟩ := blk4 hB2
    have HBE := Lib.hid hbest2
    have HBB : Hid (Below w.heap.size w w2) := Lib.hid ((hb1.alloc hsz _).trans (hb2.mono hsz))
    clear hB2 hown2 hbest2 hb2 rf
    obtain ⟨adb, capb, hvb⟩ : ∃ ad cap, bv2 = .slice ad (visit l 0 [] W V 0 ([], 0)).1.length cap := by
      obtain ⟨ad, cap, h, _⟩ := HBE.out
      exact ⟨ad, cap, h⟩
    subst hvb
    go_wp2
    go_ret2
    exact ⟨_, rfl, HBE.out, HBB.out⟩
  · have hr : bestRes l W V = ([], checkOf l W V) := by unfold bestRes; rw [if_neg hc]
    rw [hr]
    have hc1 : (checkOf l W V != 0) = true := by simp [hc]
    clear hc hr
    generalize hcc : checkOf l W V = c at *
    have HCC := Lib.hid hcc; clear hcc
    go_enter Try.func15, Try.ntmps15
    go_wp2_with fail
    refine (check_any _ l W V _ HL.out hn).mono ?_
    rintro e w1 ⟨rfl, hb1⟩
    rw [HCC.out]
    go_wp2
    go_ret2
    exact ⟨_, rfl, ⟨none, 0, rfl, Nat.le_refl _, Or.inl rfl⟩, hb1⟩

def sameOf (a b : List Int) : Bool := a == b
theorem same_no_len {a b : List Int} (h : a.length ≠ b.length) : sameOf a b = false := by
  unfold sameOf; simp; intro e; exact h (by rw [e])
theorem same_no_at {a b : List Int} (k : Nat) (hk : k < a.length) (hk2 : k < b.length) (h : a[k] ≠ b[k]) : sameOf a b = false := by
  unfold sameOf; simp; intro e; subst e; exact h rfl
theorem same_yes {a b : List Int} (hl : a.length = b.length) (h : ∀ j, (h1 : j < a.length) → (h2 : j < b.length) → a[j] = b[j]) : sameOf a b = true := by
  unfold sameOf; simp; exact List.ext_getElem hl h

set_option maxRecDepth 100000 in
set_option maxHeartbeats 1000000 in
theorem same_any (v u : Value) (a b : List Int) (w : World) (hi : Nat) (ha : Kit.Sl 1 intEnc w hi v a) (hb : Kit.Sl 1 intEnc w hi u b) (hna : a.length ≤ 1000000) (hnb : b.length ≤ 1000000) :
    Calls Try.prog 17 #[v, u] w fun e w' => e = .returned (.bool (sameOf a b)) ∧ Below w.heap.size w w' := by
  have HA := Lib.hid ha; have HB := Lib.hid hb
  obtain ⟨ad, cap, rfl, hcap, _⟩ := ha
  obtain ⟨ad2, cap2, rfl, hcap2, _⟩ := hb
  by_cases hl : a.length = b.length
  · have hl1 : ((a.length : Int) != (b.length : Int)) = false := by simp; omega
    have HLE := Lib.hid hl; clear hl
    go_enter Try.func17, Try.ntmps17
    go_wp2
    clear hl1
    go_loopw [5] (fun i wr => ∃ k : Nat, k ≤ a.length ∧ i = .int .i64 k ∧ (∀ j, j < k → (h1 : j < a.length) → (h2 : j < b.length) → a[j] = b[j]) ∧ ∃ n, wr = w.drewN n) (fun i _ => a.length - (intOf i).toNat)
    case atStart => exact ⟨0, by omega, rfl, fun j hj => absurd hj (by omega), 0, rfl⟩
    case round =>
      obtain ⟨k, hk, rfl, heq, n, rfl⟩ := hrel
      have HEQ := Lib.hid heq; clear heq
      by_cases hlt : k < a.length
      · have hlt2 : k < b.length := by have := HLE.out; omega
        obtain ⟨b1, off1, ⟨cap1', hv1⟩, _, c1⟩ := sl1 HA.out k hlt
        obtain ⟨b2, off2, ⟨cap2', hv2⟩, _, c2⟩ := sl1 HB.out k hlt2
        have hv1' : ad = some ⟨b1, off1, none⟩ := by simpa using congrArg (fun v => match v with | Value.slice a _ _ => a | _ => none) hv1
        have hv2' : ad2 = some ⟨b2, off2, none⟩ := by simpa using congrArg (fun v => match v with | Value.slice a _ _ => a | _ => none) hv2
        subst hv1' hv2'
        clear hv1 hv2
        have HNO := Lib.hid (same_no_at k hlt hlt2)
        have HK : Hid (a[k] = b[k] → ∀ j, j < k + 1 → (h1 : j < a.length) → (h2 : j < b.length) → a[j] = b[j]) := by
          intro e j hj h1 h2
          by_cases hjk : j = k
          · subst hjk; exact e
          · exact HEQ.out j (by omega) h1 h2
        generalize a[k] = x at *
        generalize b[k] = y at *
        have i0 : (0 : Int) ≤ (k : Int) := by omega
        have i1 : (k : Int) < (a.length : Int) := by omega
        have i2 : (k : Int) < (b.length : Int) := by omega
        by_cases hxy : x = y
        · have hxy1 : (x != y) = false := by simp [hxy]
          have HXY := Lib.hid hxy; clear hxy
          go_wp2
          go_region
          go_wp2
          go_roundw
          case rel => exact ⟨k + 1, by omega, by go_num, HK.out HXY.out, n + 1, rfl⟩
          case measure => simp [intOf]; omega
        · have hxy1 : (x != y) = true := by simp [hxy]
          have HXY := Lib.hid hxy; clear hxy
          go_wp2
          go_region
          go_wp2
          go_ret
          exact ⟨by rw [HNO.out HXY.out]; rfl, (below_drewN (Below.refl _ _) n).drew⟩
      · obtain rfl : k = a.length := by omega
        go_wp2
        go_ret
        exact ⟨by rw [same_yes HLE.out (fun j h1 h2 => HEQ.out j h1 h1 h2)]; rfl, below_drewN (Below.refl _ _) n⟩
  · have hl1 : ((a.length : Int) != (b.length : Int)) = true := by simp; omega
    have HLE := Lib.hid hl; clear hl
    go_enter Try.func17, Try.ntmps17
    go_wp2
    go_ret
    exact ⟨by rw [same_no_len HLE.out]; rfl, Below.refl _ _⟩
end Go.Proofs.Ytcipnajdbafahaa.Tk
