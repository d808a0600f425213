/- The walks of the two functions before; sums of ascending loads. -/
import Derived.Test.YtcipnajdbafahaaTruckBest
import Derived.Test.YtcipnajdbafahaaTruckOpt
namespace Go.Proofs.Ytcipnajdbafahaa.Tk
set_option linter.unusedVariables false
set_option linter.unusedSimpArgs false
open Go.RowKit

theorem before_step (a b : List Int) (k : Nat) (ha : k < a.length) (hb : k < b.length) : before (a.drop k) (b.drop k) = (decide (a[k] < b[k]) || (decide (a[k] = b[k]) && before (a.drop (k + 1)) (b.drop (k + 1)))) := by
  rw [List.drop_eq_getElem_cons ha, List.drop_eq_getElem_cons hb]; rfl
theorem before_end (a b : List Int) (k : Nat) (h : a.length ≤ k ∨ b.length ≤ k) (ha : k ≤ a.length) (hb : k ≤ b.length) : before (a.drop k) (b.drop k) = decide (a.length < b.length) := by
  by_cases h1 : a.length ≤ k
  · rw [List.drop_eq_nil_of_le h1]
    by_cases h2 : b.length ≤ k
    · rw [List.drop_eq_nil_of_le h2]
      have : ¬ a.length < b.length := by omega
      simp [before, this]
    · rw [List.drop_eq_getElem_cons (by omega : k < b.length)]
      have : a.length < b.length := by omega
      simp [before, this]
  · have h2 : b.length ≤ k := by omega
    rw [List.drop_eq_nil_of_le h2, List.drop_eq_getElem_cons (by omega : k < a.length)]
    have : ¬ a.length < b.length := by omega
    simp [before, this]

set_option maxRecDepth 100000 in
set_option maxHeartbeats 2000000 in
theorem before_any (v u : Value) (a b : List Int) (w : World) (hi : Nat) (ha : Kit.Sl 1 intEnc w hi v a) (hb : Kit.Sl 1 intEnc w hi u b) (hna : a.length ≤ 1000000) (hnb : b.length ≤ 1000000) :
    Calls Try.prog 20 #[v, u] w fun e w' => e = .returned (.bool (before a b)) ∧ Below w.heap.size w w' := by
  have HA := Lib.hid ha; have HB := Lib.hid hb
  obtain ⟨ad, cap, rfl, hcap, _⟩ := ha
  obtain ⟨ad2, cap2, rfl, hcap2, _⟩ := hb
  go_enter Try.func20, Try.ntmps20
  go_wp2
  go_loopw [5] (fun i wr => ∃ k : Nat, k ≤ a.length ∧ k ≤ b.length ∧ i = .int .i64 k ∧ before a b = before (a.drop k) (b.drop k) ∧ ∃ n, wr = w.drewN n) (fun i _ => a.length - (intOf i).toNat)
  case atStart => exact ⟨0, by omega, by omega, rfl, rfl, 0, rfl⟩
  case round =>
    obtain ⟨k, hka, hkb, rfl, heq, n, rfl⟩ := hrel
    have HEQ := Lib.hid heq; clear heq
    by_cases hlt : k < a.length ∧ k < b.length
    · obtain ⟨hlt1, hlt2⟩ := hlt
      obtain ⟨b1, off1, ⟨cap1', hv1⟩, _, c1⟩ := sl1 HA.out k hlt1
      obtain ⟨b2, off2, ⟨cap2', hv2⟩, _, c2⟩ := sl1 HB.out k hlt2
      have hv1' : ad = some ⟨b1, off1, none⟩ := (Value.slice.inj hv1).1
      have hv2' : ad2 = some ⟨b2, off2, none⟩ := (Value.slice.inj hv2).1
      subst hv1' hv2'
      clear hv1 hv2
      have HST := Lib.hid (before_step a b k hlt1 hlt2)
      generalize a[k] = x at *
      generalize b[k] = y at *
      have i0 : (0 : Int) ≤ (k : Int) := by omega
      have i1 : (k : Int) < (a.length : Int) := by omega
      have i2 : (k : Int) < (b.length : Int) := by omega
      by_cases hxy : x = y
      · have hxy1 : (x != y) = false := by simp [hxy]
        have HNX : Hid (before a b = before (a.drop (k + 1)) (b.drop (k + 1))) := by unfold Hid; rw [HEQ.out, HST.out, hxy]; simp
        clear hxy
        go_wp2
        go_region
        go_wp2
        go_roundw
        case rel => exact ⟨k + 1, by omega, by omega, by go_num, HNX.out, n + 1, rfl⟩
        case measure => simp [intOf]; omega
      · have hxy1 : (x != y) = true := by simp [hxy]
        have HNX : Hid (before a b = decide (x < y)) := by unfold Hid; rw [HEQ.out, HST.out, decide_eq_false hxy]; simp
        clear hxy
        go_wp2
        go_region
        go_wp2
        go_region
        go_wp2
        go_ret
        exact ⟨by rw [HNX.out]; rfl, ((below_drewN (Below.refl _ _) n).drew).drew⟩
    · have HFI : Hid (before a b = decide (a.length < b.length)) := by unfold Hid; rw [HEQ.out, before_end a b k (by omega) hka hkb]
      have hcase : a.length ≤ k ∨ (k < a.length ∧ b.length ≤ k) := by omega
      clear hlt
      rcases hcase with h | ⟨h, h'⟩
      · go_wp2
        go_ret
        exact ⟨by rw [HFI.out]; rfl, below_drewN (Below.refl _ _) n⟩
      · go_wp2
        go_ret
        exact ⟨by rw [HFI.out]; rfl, below_drewN (Below.refl _ _) n⟩

set_option maxRecDepth 100000 in
set_option maxHeartbeats 2000000 in
theorem rbefore_any (v u : Value) (a b : List Int) (w : World) (hi : Nat) (ha : Kit.Sl 1 intEnc w hi v a) (hb : Kit.Sl 1 intEnc w hi u b) (hna : a.length ≤ 1000000) (hnb : b.length ≤ 1000000) :
    Calls Try.prog 32 #[v, u] w fun e w' => e = .returned (.bool (before a b)) ∧ Below w.heap.size w w' := by
  have HA := Lib.hid ha; have HB := Lib.hid hb
  obtain ⟨ad, cap, rfl, hcap, _⟩ := ha
  obtain ⟨ad2, cap2, rfl, hcap2, _⟩ := hb
  go_enter Try.func32, Try.ntmps32
  go_wp2
  go_loopw [5] (fun i wr => ∃ k : Nat, k ≤ a.length ∧ k ≤ b.length ∧ i = .int .i64 k ∧ before a b = before (a.drop k) (b.drop k) ∧ ∃ n, wr = w.drewN n) (fun i _ => a.length - (intOf i).toNat)
  case atStart => exact ⟨0, by omega, by omega, rfl, rfl, 0, rfl⟩
  case round =>
    obtain ⟨k, hka, hkb, rfl, heq, n, rfl⟩ := hrel
    have HEQ := Lib.hid heq; clear heq
    by_cases hlt : k < a.length ∧ k < b.length
    · obtain ⟨hlt1, hlt2⟩ := hlt
      obtain ⟨b1, off1, ⟨cap1', hv1⟩, _, c1⟩ := sl1 HA.out k hlt1
      obtain ⟨b2, off2, ⟨cap2', hv2⟩, _, c2⟩ := sl1 HB.out k hlt2
      have hv1' : ad = some ⟨b1, off1, none⟩ := (Value.slice.inj hv1).1
      have hv2' : ad2 = some ⟨b2, off2, none⟩ := (Value.slice.inj hv2).1
      subst hv1' hv2'
      clear hv1 hv2
      have HST := Lib.hid (before_step a b k hlt1 hlt2)
      generalize a[k] = x at *
      generalize b[k] = y at *
      have i0 : (0 : Int) ≤ (k : Int) := by omega
      have i1 : (k : Int) < (a.length : Int) := by omega
      have i2 : (k : Int) < (b.length : Int) := by omega
      by_cases hxy : x = y
      · have hxy1 : (x != y) = false := by simp [hxy]
        have HNX : Hid (before a b = before (a.drop (k + 1)) (b.drop (k + 1))) := by unfold Hid; rw [HEQ.out, HST.out, hxy]; simp
        clear hxy
        go_wp2
        go_region
        go_wp2
        go_roundw
        case rel => exact ⟨k + 1, by omega, by omega, by go_num, HNX.out, n + 1, rfl⟩
        case measure => simp [intOf]; omega
      · have hxy1 : (x != y) = true := by simp [hxy]
        have HNX : Hid (before a b = decide (x < y)) := by unfold Hid; rw [HEQ.out, HST.out, decide_eq_false hxy]; simp
        clear hxy
        go_wp2
        go_region
        go_wp2
        go_region
        go_wp2
        go_ret
        exact ⟨by rw [HNX.out]; rfl, ((below_drewN (Below.refl _ _) n).drew).drew⟩
    · have HFI : Hid (before a b = decide (a.length < b.length)) := by unfold Hid; rw [HEQ.out, before_end a b k (by omega) hka hkb]
      have hcase : a.length ≤ k ∨ (k < a.length ∧ b.length ≤ k) := by omega
      clear hlt
      rcases hcase with h | ⟨h, h'⟩
      · go_wp2
        go_ret
        exact ⟨by rw [HFI.out]; rfl, below_drewN (Below.refl _ _) n⟩
      · go_wp2
        go_ret
        exact ⟨by rw [HFI.out]; rfl, below_drewN (Below.refl _ _) n⟩

theorem addP_assoc (a b c : Par) : addP (addP a b) c = addP a (addP b c) := by
  simp only [addP]; refine Prod.ext ?_ (Prod.ext ?_ ?_) <;> simp <;> omega
theorem addP_zero (a : Par) : addP a (0, 0, 0) = a := by simp [addP]
theorem zero_addP (a : Par) : addP (0, 0, 0) a = a := by simp [addP]
theorem sumGo_asc (l : List Par) : ∀ (a : List Int) (k : Nat) (s : Par), Asc l.length k a → sumGo l a ((k : Int) - 1) s = (addP s (tot l a), 0)
  | [], _, s, _ => by simp [sumGo, tot, addP_zero]
  | x :: r, k, s, ⟨m, e, h1, h2, h3⟩ => by
    subst e
    rw [sumGo_go l m r _ s h2 (by omega)]
    have ih := sumGo_asc l r (m + 1) (addP s l[m]) h3
    rw [show (((m + 1 : Nat) : Int) - 1) = (m : Int) from by omega] at ih
    rw [ih]
    have e : l.getD (Int.toNat (m : Int)) (0, 0, 0) = l[m] := by simp [h2]
    simp only [tot]
    rw [e, addP_assoc]
theorem asc_sumGo (l : List Par) : ∀ (a : List Int) (k : Nat) (s t : Par), sumGo l a ((k : Int) - 1) s = (t, 0) → Asc l.length k a
  | [], _, _, _, _ => trivial
  | x :: r, k, s, t, h => by
    by_cases h1 : x < 0 ∨ (l.length : Int) ≤ x
    · rw [sumGo_low l x r _ s h1] at h; simp at h
    · by_cases h2 : x ≤ (k : Int) - 1
      · rw [sumGo_ord l x r _ s h1 h2] at h; simp at h
      · obtain ⟨m, rfl⟩ := Int.eq_ofNat_of_zero_le (by omega : 0 ≤ x)
        have hm : m < l.length := by omega
        rw [sumGo_go l m r _ s hm (by omega)] at h
        refine ⟨m, rfl, by omega, by omega, ?_⟩
        refine asc_sumGo l r (m + 1) (addP s l[m]) t ?_
        rw [show (((m + 1 : Nat) : Int) - 1) = (m : Int) from by omega]
        exact h
theorem sumOf_asc {l : List Par} (hc : checkOf l 0 0 = 0) {a : List Int} (ha : Asc l.length 0 a) : sumOf l a = (tot l a, 0) := by
  unfold sumOf
  rw [if_pos hc]
  have := sumGo_asc l a 0 (0, 0, 0) ha
  rw [zero_addP] at this
  exact this
theorem sumOf_inv {l : List Par} {a : List Int} {t : Par} (h : sumOf l a = (t, 0)) : Asc l.length 0 a ∧ t = tot l a := by
  unfold sumOf at h
  by_cases hc : checkOf l 0 0 = 0
  · rw [if_pos hc] at h
    have ha := asc_sumGo l a 0 (0, 0, 0) t h
    have := sumGo_asc l a 0 (0, 0, 0) ha
    rw [zero_addP] at this
    rw [show sumGo l a (((0 : Nat) : Int) - 1) (0, 0, 0) = sumGo l a (-1) (0, 0, 0) from rfl, h] at this
    simp at this
    exact ⟨ha, this⟩
  · rw [if_neg hc] at h
    simp at h
    exact absurd h.2 hc
end Go.Proofs.Ytcipnajdbafahaa.Tk
