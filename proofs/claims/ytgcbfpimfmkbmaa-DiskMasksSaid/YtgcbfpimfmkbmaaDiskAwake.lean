/- awake: the examples of the chapter. -/
import Derived.Test.YtgcbfpimfmkbmaaDiskSes
namespace Go.Proofs.Ytgcbfpimfmkbmaa.Dk
set_option linter.unusedVariables false
set_option linter.unusedSimpArgs false
open Go.RowKit Go.ChangeMaps

def aw0 : DS := DS.new 4
def aw1 : DS := (aw0.write 1 ⟨#[97]⟩).1
theorem aw1_r : (aw0.write 1 ⟨#[97]⟩).2 = 0 := by rfl
def aw2 : DS := (aw1.flush).1
theorem aw2_r : (aw1.flush).2 = 0 := by rfl
def aw3 : DS := (aw2.write 1 ⟨#[98]⟩).1
theorem aw3_r : (aw2.write 1 ⟨#[98]⟩).2 = 0 := by rfl
def aw4 : DS := (aw3.write 2 ⟨#[99]⟩).1
theorem aw4_r : (aw3.write 2 ⟨#[99]⟩).2 = 0 := by rfl
theorem aw4_pending : aw4.pend.length = 2 := by rfl
theorem aw4_read1 : aw4.read 1 = (⟨#[98]⟩, 0) := by rfl
def aw5 : DS := (aw4.hit 2).1
theorem aw5_r : (aw4.hit 2).2 = 0 := by rfl
theorem aw5_down : aw5.down = true := by rfl
def aw6 : DS := (aw5.recover).1
theorem aw6_r : (aw5.recover).2 = 0 := by rfl
theorem aw6_read1 : aw6.read 1 = (⟨#[97]⟩, 0) := by rfl
theorem aw6_read2 : aw6.read 2 = (⟨#[99]⟩, 0) := by rfl
def aw7 : DS := (aw6.arm 1 0).1
theorem aw7_r : (aw6.arm 1 0).2 = 0 := by rfl
def aw8 : DS := (aw7.write 0 ⟨#[120]⟩).1
theorem aw8_r : (aw7.write 0 ⟨#[120]⟩).2 = 0 := by rfl
def aw9 : DS := (aw8.flush).1
theorem aw9_r : (aw8.flush).2 = 17 := by rfl
theorem aw9_blocks : aw9.blocks.length = 4 := by rfl
def aw10 : DS := (aw9.write 4 ⟨#[120]⟩).1
theorem aw10_r : (aw9.write 4 ⟨#[120]⟩).2 = 17 := by rfl
set_option maxRecDepth 100000 in
set_option maxHeartbeats 4000000 in
theorem awake_any (w : World) : Calls Try.prog 11 #[] w fun e w' => e = .returned (.bool true) ∧ Below w.heap.size w w' := by
  go_enter Try.func11, Try.ntmps11
  go_wp2_with fail
  refine (ses_new 4 (by omega) (by omega) _).mono ?_
  rintro e w0 ⟨d, rfl, hs, hb⟩
  have HS : Hid (Ses w.heap.size (fun _ => False) w0 d 0 aw0) := Lib.hid hs
  have HB := Lib.hid hb
  have hz := hb.size
  clear hs hb
  go_wp2_with fail
  refine (ses_write HS.out (by omega) 1 ⟨#[97]⟩ (by decide)).mono ?_
  rintro e w1 ⟨rfl, hs, hk⟩
  rw [aw1_r]
  have hbk := (fr_below hk hz).trans (Below.refl _ _)
  replace HS : Hid (Ses w.heap.size (fun _ => False) w1 d 1 aw1) := Lib.hid hs
  replace HB := Lib.hid (HB.out.trans hbk)
  replace hz := Nat.le_trans hz hbk.size
  clear hs hk hbk
  go_wp2_with fail
  refine (ses_flush HS.out (by omega)).mono ?_
  rintro e w2 ⟨rfl, hs, hk⟩
  rw [aw2_r]
  have hbk := (fr_below hk hz).trans (Below.refl _ _)
  replace HS : Hid (Ses w.heap.size (fun _ => False) w2 d 2 aw2) := Lib.hid hs
  replace HB := Lib.hid (HB.out.trans hbk)
  replace hz := Nat.le_trans hz hbk.size
  clear hs hk hbk
  go_wp2_with fail
  refine (ses_write HS.out (by omega) 1 ⟨#[98]⟩ (by decide)).mono ?_
  rintro e w3 ⟨rfl, hs, hk⟩
  rw [aw3_r]
  have hbk := (fr_below hk hz).trans (Below.refl _ _)
  replace HS : Hid (Ses w.heap.size (fun _ => False) w3 d 3 aw3) := Lib.hid hs
  replace HB := Lib.hid (HB.out.trans hbk)
  replace hz := Nat.le_trans hz hbk.size
  clear hs hk hbk
  go_wp2_with fail
  refine (ses_write HS.out (by omega) 2 ⟨#[99]⟩ (by decide)).mono ?_
  rintro e w4 ⟨rfl, hs, hk⟩
  rw [aw4_r]
  have hbk := (fr_below hk hz).trans (Below.refl _ _)
  replace HS : Hid (Ses w.heap.size (fun _ => False) w4 d 4 aw4) := Lib.hid hs
  replace HB := Lib.hid (HB.out.trans hbk)
  replace hz := Nat.le_trans hz hbk.size
  clear hs hk hbk
  go_wp2_with fail
  refine (ses_pending HS.out).mono ?_
  rintro e w5 ⟨rfl, rfl⟩
  rw [aw4_pending]
  go_wp2_with fail
  refine (ses_read HS.out 1).mono ?_
  rintro e w6 ⟨rfl, rfl⟩
  rw [aw4_read1]
  go_wp2_with fail
  refine (ses_hit HS.out (by omega) 2 (by omega)).mono ?_
  rintro e w7 ⟨rfl, hs, hk⟩
  rw [aw5_r]
  have hbk := (fr_below hk hz).trans (Below.refl _ _)
  replace HS : Hid (Ses w.heap.size (fun _ => False) w7 d 5 aw5) := Lib.hid hs
  replace HB := Lib.hid (HB.out.trans hbk)
  replace hz := Nat.le_trans hz hbk.size
  clear hs hk hbk
  go_wp2_with fail
  refine (ses_down HS.out).mono ?_
  rintro e w8 ⟨rfl, rfl⟩
  rw [aw5_down]
  go_wp2_with fail
  refine (ses_recover HS.out).mono ?_
  rintro e w9 ⟨rfl, hs, hk⟩
  rw [aw6_r]
  have hbk := (fr_below hk hz).trans (Below.refl _ _)
  replace HS : Hid (Ses w.heap.size (fun _ => False) w9 d 6 aw6) := Lib.hid hs
  replace HB := Lib.hid (HB.out.trans hbk)
  replace hz := Nat.le_trans hz hbk.size
  clear hs hk hbk
  go_wp2_with fail
  refine (ses_read HS.out 1).mono ?_
  rintro e w10 ⟨rfl, rfl⟩
  rw [aw6_read1]
  go_wp2_with fail
  refine (ses_read HS.out 2).mono ?_
  rintro e w11 ⟨rfl, rfl⟩
  rw [aw6_read2]
  go_wp2_with fail
  refine (ses_arm HS.out 1 0 (by omega)).mono ?_
  rintro e w12 ⟨rfl, hs, hk⟩
  rw [aw7_r]
  have hbk := (fr_below hk hz).trans (Below.refl _ _)
  replace HS : Hid (Ses w.heap.size (fun _ => False) w12 d 7 aw7) := Lib.hid hs
  replace HB := Lib.hid (HB.out.trans hbk)
  replace hz := Nat.le_trans hz hbk.size
  clear hs hk hbk
  go_wp2_with fail
  refine (ses_write HS.out (by omega) 0 ⟨#[120]⟩ (by decide)).mono ?_
  rintro e w13 ⟨rfl, hs, hk⟩
  rw [aw8_r]
  have hbk := (fr_below hk hz).trans (Below.refl _ _)
  replace HS : Hid (Ses w.heap.size (fun _ => False) w13 d 8 aw8) := Lib.hid hs
  replace HB := Lib.hid (HB.out.trans hbk)
  replace hz := Nat.le_trans hz hbk.size
  clear hs hk hbk
  go_wp2_with fail
  refine (ses_flush HS.out (by omega)).mono ?_
  rintro e w14 ⟨rfl, hs, hk⟩
  rw [aw9_r]
  have hbk := (fr_below hk hz).trans (Below.refl _ _)
  replace HS : Hid (Ses w.heap.size (fun _ => False) w14 d 9 aw9) := Lib.hid hs
  replace HB := Lib.hid (HB.out.trans hbk)
  replace hz := Nat.le_trans hz hbk.size
  clear hs hk hbk
  go_wp2_with fail
  refine (ses_blocks HS.out).mono ?_
  rintro e w15 ⟨rfl, rfl⟩
  rw [aw9_blocks]
  go_wp2_with fail
  refine (ses_write HS.out (by omega) 4 ⟨#[120]⟩ (by decide)).mono ?_
  rintro e w16 ⟨rfl, hs, hk⟩
  rw [aw10_r]
  have hbk := (fr_below hk hz).trans (Below.refl _ _)
  replace HS : Hid (Ses w.heap.size (fun _ => False) w16 d 10 aw10) := Lib.hid hs
  replace HB := Lib.hid (HB.out.trans hbk)
  replace hz := Nat.le_trans hz hbk.size
  clear hs hk hbk
  go_wp2
  go_ret
  exact ⟨rfl, HB.out⟩
end Go.Proofs.Ytgcbfpimfmkbmaa.Dk
