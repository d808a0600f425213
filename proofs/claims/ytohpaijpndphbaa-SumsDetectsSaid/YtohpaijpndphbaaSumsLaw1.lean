/- The walks of the laws SumsCrcs, SumsHashes, SumsDigits, SumsSeals: program and reference agree. -/
import Derived.Test.YtohpaijpndphbaaSumsAwake
import Derived.OpenShut
namespace Go.Proofs.Ytohpaijpndphbaa.Sm
open Go.RowKit

theorem short_any (s : ByteArray) (w : World) (_hs : s.size ≤ maxLen) :
    Calls Try.prog 11 #[.string s] w fun e w' => e = .returned (.bool (decide ((s.size : Int) ≤ 1000))) ∧ w = w' := by
  unfold maxLen at _hs
  go_enter Try.func11, Try.ntmps11
  go_wp2
  go_ret
  exact ⟨rfl, rfl⟩
theorem short_yes (s : ByteArray) (w : World) (hs : s.size ≤ 1000) :
    Calls Try.prog 11 #[.string s] w fun e w' => e = .returned (.bool true) ∧ w = w' := by
  have h := short_any s w (by unfold maxLen; omega)
  rw [decide_eq_true (by omega)] at h
  exact h
theorem short_no (s : ByteArray) (w : World) (hm : s.size ≤ maxLen) (hs : ¬ s.size ≤ 1000) :
    Calls Try.prog 11 #[.string s] w fun e w' => e = .returned (.bool false) ∧ w = w' := by
  have h := short_any s w hm
  rw [decide_eq_false (by omega)] at h
  exact h
theorem u64_of (a : Int) (h : (Lit.int .u64 a).wf = true) : ∃ n : BitVec 64, a = (n.toNat : Int) := by
  have hb := bounds_u64 h
  exact ⟨BitVec.ofNat 64 a.toNat, by rw [BitVec.toNat_ofNat, Nat.mod_eq_of_lt (by omega)]; omega⟩

set_option maxRecDepth 100000 in
set_option maxHeartbeats 400000 in
theorem sumsCrcs_walk (s : ByteArray) (hm : s.size ≤ maxLen) (w : World) :
    Calls Try.prog 3 #[.string s] w fun e w' => e = .returned (.bool true) ∧ Below w.heap.size w w' := by
  by_cases hs : s.size ≤ 1000
  · go_enter Try.func3, Try.ntmps3
    go_wp2_with fail
    refine (short_yes s _ hs).mono ?_
    rintro e w0 ⟨rfl, rfl⟩
    go_wp2_with fail
    refine (crc_any s _ (by omega)).mono ?_
    rintro e w1 ⟨rfl, hb1⟩
    go_wp2_with fail
    refine (rcrc_any s _ (by omega)).mono ?_
    rintro e w2 ⟨rfl, rfl⟩
    go_wp2_with fail
    refine (awake_any _).mono ?_
    rintro e w3 ⟨rfl, hb3⟩
    go_wp2
    go_ret
    have q1 := hb1.size; have q3 := hb3.size
    exact ⟨rfl, (hb1).trans (hb3.mono (by omega))⟩
  · go_enter Try.func3, Try.ntmps3
    go_wp2_with fail
    refine (short_no s _ hm hs).mono ?_
    rintro e w0 ⟨rfl, rfl⟩
    go_wp2_with fail
    refine (awake_any _).mono ?_
    rintro e w1 ⟨rfl, hb1⟩
    go_wp2
    go_ret
    exact ⟨rfl, hb1⟩

set_option maxRecDepth 100000 in
set_option maxHeartbeats 400000 in
theorem sumsHashes_walk (a : Int) (ha : (Lit.int .u64 a).wf = true) (s : ByteArray) (hm : s.size ≤ maxLen) (w : World) :
    Calls Try.prog 9 #[.int .u64 a, .string s] w fun e w' => e = .returned (.bool true) ∧ Below w.heap.size w w' := by
  obtain ⟨n, rfl⟩ := u64_of a ha
  by_cases hs : s.size ≤ 1000
  · go_enter Try.func9, Try.ntmps9
    go_wp2_with fail
    refine (short_yes s _ hs).mono ?_
    rintro e w0 ⟨rfl, rfl⟩
    go_wp2_with fail
    refine (hash_any s _ (by omega)).mono ?_
    rintro e w1 ⟨rfl, hb1⟩
    go_wp2_with fail
    refine (rhash_any s _ (by omega)).mono ?_
    rintro e w2 ⟨rfl, rfl⟩
    go_wp2_with fail
    refine (chain_any n s _ (by omega)).mono ?_
    rintro e w3 ⟨rfl, hb3⟩
    go_wp2_with fail
    refine (rchain_any n s _ (by omega)).mono ?_
    rintro e w4 ⟨rfl, hb4⟩
    go_wp2_with fail
    refine (awake_any _).mono ?_
    rintro e w5 ⟨rfl, hb5⟩
    go_wp2
    go_ret
    have q1 := hb1.size; have q3 := hb3.size; have q4 := hb4.size; have q5 := hb5.size
    exact ⟨rfl, (((hb1).trans (hb3.mono (by omega))).trans (hb4.mono (by omega))).trans (hb5.mono (by omega))⟩
  · go_enter Try.func9, Try.ntmps9
    go_wp2_with fail
    refine (short_no s _ hm hs).mono ?_
    rintro e w0 ⟨rfl, rfl⟩
    go_wp2_with fail
    refine (awake_any _).mono ?_
    rintro e w1 ⟨rfl, hb1⟩
    go_wp2
    go_ret
    exact ⟨rfl, hb1⟩

set_option maxRecDepth 100000 in
set_option maxHeartbeats 400000 in
theorem sumsDigits_walk (a : Int) (ha : (Lit.int .u64 a).wf = true) (s : ByteArray) (hm : s.size ≤ maxLen) (w : World) :
    Calls Try.prog 4 #[.int .u64 a, .string s] w fun e w' => e = .returned (.bool true) ∧ Below w.heap.size w w' := by
  obtain ⟨n, rfl⟩ := u64_of a ha
  by_cases hs : s.size ≤ 1000
  · go_enter Try.func4, Try.ntmps4
    go_wp2_with fail
    refine (short_yes s _ hs).mono ?_
    rintro e w0 ⟨rfl, rfl⟩
    go_wp2_with fail
    refine (number_any s _ (by omega)).mono ?_
    rintro e w1 ⟨rfl, hb1⟩
    go_wp2_with fail
    refine (rnumber_any s _ (by omega)).mono ?_
    rintro e w2 ⟨rfl, rfl⟩
    go_wp2_with fail
    refine (hex_any n _).mono ?_
    rintro e w3 ⟨rfl, hb3⟩
    go_wp2_with fail
    refine (rhex_any n _).mono ?_
    rintro e w4 ⟨rfl, hb4⟩
    go_wp2_with fail
    refine (awake_any _).mono ?_
    rintro e w5 ⟨rfl, hb5⟩
    go_wp2
    go_ret
    have q1 := hb1.size; have q3 := hb3.size; have q4 := hb4.size; have q5 := hb5.size
    exact ⟨rfl, (((hb1).trans (hb3.mono (by omega))).trans (hb4.mono (by omega))).trans (hb5.mono (by omega))⟩
  · go_enter Try.func4, Try.ntmps4
    go_wp2_with fail
    refine (short_no s _ hm hs).mono ?_
    rintro e w0 ⟨rfl, rfl⟩
    go_wp2_with fail
    refine (awake_any _).mono ?_
    rintro e w1 ⟨rfl, hb1⟩
    go_wp2
    go_ret
    exact ⟨rfl, hb1⟩

set_option maxRecDepth 100000 in
set_option maxHeartbeats 400000 in
theorem sumsSeals_walk (s : ByteArray) (hm : s.size ≤ maxLen) (w : World) :
    Calls Try.prog 5 #[.string s] w fun e w' => e = .returned (.bool true) ∧ Below w.heap.size w w' := by
  by_cases hs : s.size ≤ 1000
  · go_enter Try.func5, Try.ntmps5
    go_wp2_with fail
    refine (short_yes s _ hs).mono ?_
    rintro e w0 ⟨rfl, rfl⟩
    go_wp2_with fail
    refine (open_any s _ (by omega)).mono ?_
    rintro e w1 ⟨rfl, hb1⟩
    go_wp2_with fail
    refine (ropen_any s _ (by omega)).mono ?_
    rintro e w2 ⟨rfl, hb2⟩
    go_wp2_with fail
    refine (seal_any s _ (by omega)).mono ?_
    rintro e w3 ⟨rfl, hb3⟩
    go_wp2_with fail
    refine (rseal_any s _ (by omega)).mono ?_
    rintro e w4 ⟨rfl, hb4⟩
    go_wp2_with fail
    refine (awake_any _).mono ?_
    rintro e w5 ⟨rfl, hb5⟩
    go_wp2
    go_ret
    have q1 := hb1.size; have q2 := hb2.size; have q3 := hb3.size; have q4 := hb4.size; have q5 := hb5.size
    exact ⟨rfl, ((((hb1).trans (hb2.mono (by omega))).trans (hb3.mono (by omega))).trans (hb4.mono (by omega))).trans (hb5.mono (by omega))⟩
  · go_enter Try.func5, Try.ntmps5
    go_wp2_with fail
    refine (short_no s _ hm hs).mono ?_
    rintro e w0 ⟨rfl, rfl⟩
    go_wp2_with fail
    refine (awake_any _).mono ?_
    rintro e w1 ⟨rfl, hb1⟩
    go_wp2
    go_ret
    exact ⟨rfl, hb1⟩
end Go.Proofs.Ytohpaijpndphbaa.Sm
