/- The walks of Index, Contains, Trips. -/
import Derived.Test.YtcipnajdbafahaaTruckBest
import Derived.Test.YtcipnajdbafahaaTruckTripsP
namespace Go.Proofs.Ytcipnajdbafahaa.Tk
set_option linter.unusedVariables false
set_option linter.unusedSimpArgs false
open Go.RowKit

theorem info_par : (Try.prog.info? 28).map (fun i => (i.zero, i.size, i.bytes)) = some (some (.agg #[.int .i64 0, .int .i64 0, .int .i64 0]), 3, 24) := by kernel_rfl
theorem T_par : Kit.SlTy Try.prog 22 28 3 24 parEnc where
  und := Try.underlying22
  info := by obtain ⟨i, h1, h2, h3, h4⟩ := info_parts info_par; exact ⟨i, _, h1, h2, h3, h4, rfl⟩
  pos := by decide
  len := fun _ => rfl
  one := fun x u h => by simp [parEnc] at h; rcases h with rfl | rfl | rfl <;> rfl
abbrev SV := Option Addr × Nat × Nat
def slEnc (v : SV) : List Value := [.slice v.1 v.2.1 v.2.2]
theorem info_sl : (Try.prog.info? 25).map (fun i => (i.zero, i.size, i.bytes)) = some (some (.slice none 0 0), 1, 24) := by kernel_rfl
theorem T_sl : Kit.SlTy Try.prog 38 25 1 24 slEnc where
  und := Try.underlying38
  info := by obtain ⟨i, h1, h2, h3, h4⟩ := info_parts info_sl; exact ⟨i, _, h1, h2, h3, h4, rfl⟩
  pos := by decide
  len := fun _ => rfl
  one := fun x u h => by simp [slEnc] at h; subst h; rfl

def IdxPost (l : List Int) (x : Int) (w : World) (e : Ending) (w' : World) : Prop := ∃ r : Int, e = .returned (.int .i64 r) ∧ decide (0 ≤ r) = l.contains x ∧ w = w'

set_option maxRecDepth 100000 in
set_option maxHeartbeats 1000000 in
theorem index_any (v : Value) (l : List Int) (x : Int) (w : World) (hi : Nat) (hl : Kit.Sl 1 intEnc w hi v l) (hn : l.length ≤ 1000000) :
    Calls Try.prog 33 #[v, .int .i64 x] w (IdxPost l x w) := by
  have HA := Lib.hid hl
  obtain ⟨ad, cap, rfl, hcap, _⟩ := hl
  go_enter Try.func33, Try.ntmps33
  go_wp2
  go_loop [8] (fun i => ∃ k : Nat, k ≤ l.length ∧ i = .int .i64 k ∧ (l.take k).contains x = false) (fun i => l.length - (intOf i).toNat)
  case atStart => exact ⟨0, by omega, rfl, rfl⟩
  case round =>
    obtain ⟨k, hk, rfl, heq⟩ := hrel
    have HEQ := Lib.hid heq; clear heq
    by_cases hlt : k < l.length
    · obtain ⟨b1, off1, ⟨cap1', hv1⟩, _, c1⟩ := sl1 HA.out k hlt
      have hv1' : ad = some ⟨b1, off1, none⟩ := by simpa using congrArg (fun v => match v with | Value.slice a _ _ => a | _ => none) hv1
      subst hv1'
      clear hv1
      have HK : Hid (x ≠ l[k] → (l.take (k + 1)).contains x = false) := by
        intro hne
        rw [take_snoc' l k hlt]
        have := HEQ.out
        simp only [List.contains_eq_mem, decide_eq_false_iff_not, List.mem_append, List.mem_singleton] at this ⊢
        intro h
        rcases h with h | h
        · exact this h
        · exact hne h
      have HY : Hid (x = l[k] → l.contains x = true) := by
        intro e; subst e; simp
      generalize l[k] = y at *
      by_cases hxy : x = y
      · have hxy1 : (x == y) = true := by simp [hxy]
        have HXY := Lib.hid hxy; clear hxy
        go_wp2
        go_ret
        show IdxPost _ _ _ _ _
        unfold IdxPost
        exact ⟨(k : Int), rfl, by rw [HY.out HXY.out]; simp, rfl⟩
      · have hxy1 : (x == y) = false := by simp [hxy]
        have HXY := Lib.hid hxy; clear hxy
        go_wp2
        go_round
        case rel => exact ⟨k + 1, by omega, by go_num, HK.out HXY.out⟩
        case measure => simp [intOf]; omega
    · obtain rfl : k = l.length := by omega
      go_wp2
      go_ret
      have := HEQ.out
      rw [List.take_length] at this
      show IdxPost _ _ _ _ _
      unfold IdxPost
      exact ⟨-1, rfl, by rw [this]; rfl, rfl⟩

set_option maxRecDepth 100000 in
theorem contains_any (v : Value) (l : List Int) (x : Int) (w : World) (hi : Nat) (hl : Kit.Sl 1 intEnc w hi v l) (hn : l.length ≤ 1000000) :
    Calls Try.prog 29 #[v, .int .i64 x] w fun e w' => e = .returned (.bool (l.contains x)) ∧ w = w' := by
  go_enter Try.func29, Try.ntmps29
  go_wp2_with fail
  refine (index_any v l x _ hi hl hn).mono ?_
  rintro e w1 ⟨r, rfl, hr, rfl⟩
  have HR := Lib.hid hr; clear hr
  go_wp2
  go_ret
  exact ⟨by rw [← HR.out]; rfl, rfl⟩
theorem contains_is (v : Value) (l : List Int) (x : Int) (b : Bool) (h : l.contains x = b) (w : World) (hi : Nat) (hl : Kit.Sl 1 intEnc w hi v l) (hn : l.length ≤ 1000000) :
    Calls Try.prog 29 #[v, .int .i64 x] w fun e w' => e = .returned (.bool b) ∧ w = w' := by
  rw [← h]; exact contains_any v l x w hi hl hn

/-- a slice of slices, its own row apart from theirs -/
def TripsAt (w : World) (B : Nat) (tv : Value) (ls : List (List Int)) : Prop :=
  ∃ vs : List SV, Kit.Own 25 1 slEnc w B tv vs ∧ vs.length = ls.length ∧ ∀ i (h1 : i < vs.length) (h2 : i < ls.length), Kit.Sl 1 intEnc w w.heap.size (.slice vs[i].1 vs[i].2.1 vs[i].2.2) ls[i] ∧ ∀ k, (Value.slice vs[i].1 vs[i].2.1 vs[i].2.2).ownBlock = some k → ls[i] ≠ [] → tv.ownBlock ≠ some k

theorem TripsAt.nil (w : World) (B : Nat) : TripsAt w B (.slice none 0 0) [] := ⟨[], Kit.Own.nil _ _, rfl, fun i h => absurd h (by simp)⟩
theorem TripsAt.below {w w' : World} {B : Nat} {tv : Value} {ls : List (List Int)} (h : TripsAt w B tv ls) (hb : Below w.heap.size w w') : TripsAt w' B tv ls := by
  obtain ⟨vs, h1, h2, h3⟩ := h
  exact ⟨vs, h1.below' hb, h2, fun i a b => ⟨((h3 i a b).1.below hb (Nat.le_refl _)).mono hb.size, (h3 i a b).2⟩⟩
theorem TripsAt.len {w : World} {B : Nat} {tv : Value} {ls : List (List Int)} (h : TripsAt w B tv ls) : ∃ vs : List SV, vs.length = ls.length ∧ Kit.Own 25 1 slEnc w B tv vs := by
  obtain ⟨vs, h1, h2, _⟩ := h
  exact ⟨vs, h2, h1⟩
theorem TripsAt.push {w wq w' : World} {B : Nat} {tv : Value} {ls : List (List Int)} {vs : List SV} (h0 : Kit.Own 25 1 slEnc w B tv vs) (h1 : vs.length = ls.length)
    (h2 : ∀ i (h1 : i < vs.length) (h2 : i < ls.length), Kit.Sl 1 intEnc w w.heap.size (.slice vs[i].1 vs[i].2.1 vs[i].2.2) ls[i] ∧ ∀ k, (Value.slice vs[i].1 vs[i].2.1 vs[i].2.2).ownBlock = some k → ls[i] ≠ [] → tv.ownBlock ≠ some k)
    (hq : Below w.heap.size w wq) {a : Option Addr} {n c : Nat} {load : List Int} (hload : Kit.Sl 1 intEnc wq wq.heap.size (.slice a n c) load) (hnew : ∀ k, (Value.slice a n c).ownBlock = some k → load ≠ [] → w.heap.size ≤ k)
    {g cap : Nat} (ho : Kit.Own 25 1 slEnc w' B (.slice (some ⟨g, 0, none⟩) (vs.length + 1) cap) (vs ++ [(a, n, c)])) (hgr : wq.grownBy w' tv.ownBlock) (hv : tv.ownBlock = some g ∨ g = wq.heap.size + 1) :
    TripsAt w' B (.slice (some ⟨g, 0, none⟩) (vs.length + 1) cap) (ls ++ [load]) := by
  have hqs := hq.size
  have hlt : ∀ k, tv.ownBlock = some k → k < w.heap.size := fun k hk => (World.ownsRow.lt h0 k hk).2
  refine ⟨_, ho, by simp [h1], ?_⟩
  intro i a1 a2
  by_cases hi : i < vs.length
  · have hi2 : i < ls.length := by omega
    rw [List.getElem_append_left hi, List.getElem_append_left hi2]
    obtain ⟨b1, b2⟩ := h2 i hi hi2
    refine ⟨?_, ?_⟩
    · refine (b1.other (fun k hk hne hlt => ?_)).mono (Nat.le_trans hqs hgr.size)
      rw [hgr.block k (by omega) (Ne.symm (b2 k hk hne)), hq.block k hlt]
    · intro k hk hne e
      simp [Value.ownBlock] at e
      subst e
      rcases hv with hv | hv
      · exact b2 g hk hne hv
      · obtain ⟨ad, cp, he, _, h⟩ := b1
        rcases h with h | ⟨b, off, he2, hb, _⟩
        · exact hne h
        · rw [he, he2] at hk
          simp [Value.ownBlock] at hk; omega
  · have e1 : i = vs.length := by simp at a1; omega
    subst e1
    have e2 : (vs ++ [(a, n, c)])[vs.length] = (a, n, c) := by simp
    have e3 : (ls ++ [load])[vs.length] = load := by simp [h1]
    rw [e2, e3]
    refine ⟨?_, ?_⟩
    · refine (hload.other (fun k hk hne hlt' => ?_)).mono hgr.size
      refine hgr.block k hlt' (fun e => ?_)
      have := hnew k hk hne
      have := hlt k e.symm
      omega
    · intro k hk hne e
      simp [Value.ownBlock] at e
      subst e
      have := hnew g hk hne
      rcases hv with hv | hv
      · have := hlt g hv; omega
      · obtain ⟨ad, cp, he, _, h⟩ := hload
        rcases h with h | ⟨b, off, he2, hb, _⟩
        · exact hne h
        · rw [he, he2] at hk
          simp [Value.ownBlock] at hk; omega
end Go.Proofs.Ytcipnajdbafahaa.Tk
