/- The law DiskNew. -/
import Derived.Test.YtgcbfpimfmkbmaaDiskRef5
namespace Go.Proofs.Ytgcbfpimfmkbmaa.Dk
set_option linter.unusedVariables false
set_option linter.unusedSimpArgs false
open Go.RowKit Go.ChangeMaps

theorem new_read (m : Nat) (n : Int) : (DS.new m).read n = (ByteArray.empty, if inB (DS.new m) n then 0 else 9) := by
  unfold DS.read
  rw [show (DS.new m).down = false from rfl, if_neg (by simp)]
  split
  · rename_i h
    obtain ⟨k, rfl, hk⟩ := (inB_iff _ _).1 h
    have hk' : k < m := by simpa [DS.new] using hk
    simp [DS.new, newest, hk']
  · rfl
set_option maxRecDepth 100000 in
set_option maxHeartbeats 4000000 in
theorem diskNew_walk (b : Int) (hb : (Lit.int .i64 b).wf = true) (n : Int) (hn : (Lit.int .i64 n).wf = true) (w : World) :
    Calls Try.prog 3 #[.int .i64 b, .int .i64 n] w fun e w' => e = .returned (.bool true) ∧ Below w.heap.size w w' := by
  clear hb hn
  by_cases hr : b < 1 ∨ 4096 < b
  · have HR := Lib.hid hr
    clear hr
    go_enter Try.func3, Try.ntmps3
    go_wp2_with fail
    refine (new_no b HR.out _).mono ?_
    rintro e w1 ⟨rfl, rfl⟩
    go_wp2_with fail
    refine (rnew_any b _).mono ?_
    rintro e w2 (⟨m, bv, e1, h1, h2, _⟩ | ⟨_, rfl, hb2⟩)
    · exact absurd HR.out (by omega)
    go_wp2_with fail
    refine (awake_any _).mono ?_
    rintro e w3 ⟨rfl, hb3⟩
    go_wp2
    go_ret
    exact ⟨rfl, chainB (chainB hb2 (newB _ _)) hb3⟩
  · obtain ⟨m, rfl⟩ : ∃ m : Nat, b = (m : Int) := ⟨b.toNat, by omega⟩
    have hm1 : 1 ≤ m := by omega
    have hm2 : m ≤ 4096 := by omega
    clear hr
    go_enter Try.func3, Try.ntmps3
    go_wp2_with fail
    refine (ses_new m hm1 hm2 _).mono ?_
    rintro e w1 ⟨d, rfl, hs, hb1⟩
    have HS := Lib.hid hs; have HB1 := Lib.hid hb1
    clear hs hb1
    go_wp2_with fail
    refine (rnew_any m _).mono ?_
    rintro e w2 (⟨m', bv, e1, h1, h2, rfl, hri, _, hb2⟩ | ⟨h, _⟩)
    rotate_left
    · exact absurd h (by omega)
    obtain rfl : m' = m := by omega
    clear e1 h1 h2
    obtain ⟨xb, xo, xc, rfl, _⟩ := hri.bform
    generalize (DS.new m').blocks.length = L at *
    have HS2 := Lib.hid ((HS.out.below hb2).below (newB w2 (.cells #[.slice (some ⟨xb, xo, none⟩) L xc, .slice none 0 0, .bool false, .bool false, .int .i64 0, .int .u64 0] 30)))
    have HB2 := Lib.hid (chainB (chainB HB1.out hb2) (newB w2 (.cells #[.slice (some ⟨xb, xo, none⟩) L xc, .slice none 0 0, .bool false, .bool false, .int .i64 0, .int .u64 0] 30)))
    clear hri hb2
    have HLN : Hid ((DS.new m').blocks.length = m') := Lib.hid (by simp [DS.new])
    have HRD := Lib.hid (new_read m' n)
    have HIB : Hid (inB (DS.new m') n = (decide (0 ≤ n) && decide (n < (m' : Int)))) := by unfold Hid inB; rw [HLN.out]
    go_wp2_with fail
    refine (ses_read HS2.out n).mono ?_
    rintro e w3 ⟨rfl, rfl⟩
    rw [HRD.out, HIB.out]
    dsimp only
    by_cases q1 : 0 ≤ n
    · have b1 : decide (0 ≤ n) = true := by simpa using q1
      by_cases q2 : n < (m' : Int)
      · have b2 : decide (n < (m' : Int)) = true := by simpa using q2
        rw [b1, b2]
        go_wp2_with fail
        refine (ses_blocks HS2.out).mono ?_
        rintro e w3 ⟨rfl, rfl⟩
        rw [HLN.out]
        go_wp2_with fail
        refine (ses_pending HS2.out).mono ?_
        rintro e w3 ⟨rfl, rfl⟩
        go_wp2_with fail
        refine (ses_down HS2.out).mono ?_
        rintro e w3 ⟨rfl, rfl⟩
        rw [show (DS.new m').down = false from rfl]
        go_wp2_with fail
        refine (awake_any _).mono ?_
        rintro e w4 ⟨rfl, hb4⟩
        go_wp2
        go_ret
        exact ⟨rfl, chainB HB2.out hb4⟩
      · have b2 : decide (n < (m' : Int)) = false := by simpa using q2
        rw [b1, b2]
        go_wp2_with fail
        refine (ses_blocks HS2.out).mono ?_
        rintro e w3 ⟨rfl, rfl⟩
        rw [HLN.out]
        go_wp2_with fail
        refine (ses_pending HS2.out).mono ?_
        rintro e w3 ⟨rfl, rfl⟩
        go_wp2_with fail
        refine (ses_down HS2.out).mono ?_
        rintro e w3 ⟨rfl, rfl⟩
        rw [show (DS.new m').down = false from rfl]
        go_wp2_with fail
        refine (awake_any _).mono ?_
        rintro e w4 ⟨rfl, hb4⟩
        go_wp2
        go_ret
        exact ⟨rfl, chainB HB2.out hb4⟩
    · have b1 : decide (0 ≤ n) = false := by simpa using q1
      rw [b1]
      go_wp2_with fail
      refine (ses_blocks HS2.out).mono ?_
      rintro e w3 ⟨rfl, rfl⟩
      rw [HLN.out]
      go_wp2_with fail
      refine (ses_pending HS2.out).mono ?_
      rintro e w3 ⟨rfl, rfl⟩
      go_wp2_with fail
      refine (ses_down HS2.out).mono ?_
      rintro e w3 ⟨rfl, rfl⟩
      rw [show (DS.new m').down = false from rfl]
      go_wp2_with fail
      refine (awake_any _).mono ?_
      rintro e w4 ⟨rfl, hb4⟩
      go_wp2
      go_ret
      exact ⟨rfl, chainB HB2.out hb4⟩
end Go.Proofs.Ytgcbfpimfmkbmaa.Dk
