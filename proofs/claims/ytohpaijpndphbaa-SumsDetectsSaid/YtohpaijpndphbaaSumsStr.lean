/- The walks of Chain, check, Seal, Open, digit, Number and of the reference's. -/
import Derived.Test.YtohpaijpndphbaaSumsDig
import Derived.Deep.RegionHeld3
import Derived.Deep.RegionWith
import Derived.Lib.OthersKept
namespace Go.Proofs.Ytohpaijpndphbaa.Sm
open Go.RowKit


theorem below_drew_left {B : Nat} {a w : World} (h : Below B a.drew w) : Below B a w := ⟨h.os, h.tape, h.output, h.size, h.block⟩
theorem ret2 {a b a' b' : Value} (h : a = a') (k : b = b') : Ending.returned (.tuple #[a, b]) = .returned (.tuple #[a', b']) := by rw [h, k]
theorem ret_str {a b : ByteArray} (h : a.data.toList = b.data.toList) : Ending.returned (.string a) = .returned (.string b) := by rw [ba_eq h]

set_option maxRecDepth 100000 in
set_option maxHeartbeats 400000 in
theorem check_any (s : ByteArray) (w : World) (hs : s.size ≤ 2000) :
    Calls Try.prog 30 #[.string s] w fun e w' => e = .returned (.string ⟨(checkOf s.data.toList).toArray⟩) ∧ Below w.heap.size w w' := by
  have hlen : (digits (crc s.data.toList).toNat 16).length ≤ 16 := by rw [digits_len]; omega
  have hlen' : 16 ≤ (digits (crc s.data.toList).toNat 16).length := by rw [digits_len]; omega
  go_enter Try.func30, Try.ntmps30
  go_wp2_with fail
  refine (crc_any s w hs).mono ?_
  rintro e w1 ⟨rfl, hb1⟩
  go_wp2_with fail
  have hz : ((crc s.data.toList).toNat : Int) = ((BitVec.setWidth 64 (crc s.data.toList)).toNat : Int) := by
    rw [BitVec.toNat_setWidth, Nat.mod_eq_of_lt (Nat.lt_trans (crc s.data.toList).isLt (by decide))]
  rw [hz]
  refine (hex_any _ w1).mono ?_
  rintro e w2 ⟨rfl, hb2⟩
  have hz' : (BitVec.setWidth 64 (crc s.data.toList)).toNat = (crc s.data.toList).toNat := by omega
  rw [hz']
  clear hz hz'
  go_wp2
  go_ret
  refine ⟨ret_str ?_, hb1.trans (hb2.mono hb1.size)⟩
  have h := ext_drop ⟨(digits (crc s.data.toList).toNat 16).toArray⟩ 8
  rw [hex_tail] at h
  exact h

set_option maxRecDepth 100000 in
set_option maxHeartbeats 400000 in
theorem seal_any (s : ByteArray) (w : World) (hs : s.size ≤ 2000) :
    Calls Try.prog 21 #[.string s] w fun e w' => e = .returned (.string ⟨(sealOf s.data.toList).toArray⟩) ∧ Below w.heap.size w w' := by
  have hlen : s.size + (checkOf s.data.toList).length ≤ 2008 := by unfold checkOf; rw [digits_len]; omega
  go_enter Try.func21, Try.ntmps21
  go_wp2_with fail
  refine (check_any s w hs).mono ?_
  rintro e w1 ⟨rfl, hb1⟩
  go_wp2
  go_ret
  exact ⟨ret_str (by rw [app_data]; rfl), hb1⟩

set_option maxRecDepth 100000 in
set_option maxHeartbeats 400000 in
theorem rseal_any (s : ByteArray) (w : World) (hs : s.size ≤ 2000) :
    Calls Try.prog 22 #[.string s] w fun e w' => e = .returned (.string ⟨(sealOf s.data.toList).toArray⟩) ∧ Below w.heap.size w w' := by
  have hlen : s.size + (digits (crc s.data.toList).toNat 8).length ≤ 2008 := by rw [digits_len]; omega
  go_enter Try.func22, Try.ntmps22
  go_wp2_with fail
  refine (rcrc_any s w hs).mono ?_
  rintro e w1 ⟨rfl, rfl⟩
  go_wp2_with fail
  have hz : ((crc s.data.toList).toNat : Int) = ((BitVec.setWidth 64 (crc s.data.toList)).toNat : Int) := by
    rw [BitVec.toNat_setWidth, Nat.mod_eq_of_lt (Nat.lt_trans (crc s.data.toList).isLt (by decide))]
  rw [hz]
  refine (digits_any _ 8 (by omega) w).mono ?_
  rintro e w2 ⟨rfl, hb2⟩
  have hz' : (BitVec.setWidth 64 (crc s.data.toList)).toNat = (crc s.data.toList).toNat := by omega
  rw [hz']
  clear hz hz'
  go_wp2
  go_ret
  exact ⟨ret_str (by rw [app_data]; rfl), hb2⟩

set_option maxRecDepth 100000 in
set_option maxHeartbeats 400000 in
theorem rhex_any (n : BitVec 64) (w : World) :
    Calls Try.prog 18 #[.int .u64 n.toNat] w fun e w' => e = .returned (.string ⟨(digits n.toNat 16).toArray⟩) ∧ Below w.heap.size w w' := by
  go_enter Try.func18, Try.ntmps18
  go_wp2_with fail
  refine (digits_any n 16 (by omega) w).mono ?_
  rintro e w1 ⟨rfl, hb1⟩
  go_wp2
  go_ret
  exact ⟨rfl, hb1⟩

set_option maxRecDepth 100000 in
set_option maxHeartbeats 400000 in
theorem rchain_any (p : BitVec 64) (s : ByteArray) (w : World) (hs : s.size ≤ 1990) :
    Calls Try.prog 26 #[.int .u64 p.toNat, .string s] w fun e w' => e = .returned (.int .u64 (hash (bytes8 p.toNat ++ s.data.toList)).toNat) ∧ Below w.heap.size w w' := by
  have hlen : (bytes8 p.toNat).length + s.size ≤ 2000 := by rw [bytes8_len]; omega
  go_enter Try.func26, Try.ntmps26
  go_wp2_with fail
  refine (bytes_any p w).mono ?_
  rintro e w1 ⟨rfl, hb1⟩
  go_wp2_with fail
  refine (rhash_any _ w1 (by rw [app_size]; omega)).mono ?_
  rintro e w2 ⟨rfl, rfl⟩
  go_wp2
  go_ret
  exact ⟨rfl, hb1⟩

set_option maxRecDepth 100000 in
set_option maxHeartbeats 400000 in
theorem chain_any (n : BitVec 64) (s : ByteArray) (w : World) (hs : s.size ≤ 1990) :
    Calls Try.prog 25 #[.int .u64 n.toNat, .string s] w fun e w' => e = .returned (.int .u64 (hash (bytes8 n.toNat ++ s.data.toList)).toNat) ∧ Below w.heap.size w w' := by
  have hlen : (bytes8 n.toNat).length + s.size ≤ 2000 := by rw [bytes8_len]; omega
  go_enter Try.func25, Try.ntmps25
  go_wp2
  go_loopw [7] (fun i wr => ∃ k : Nat, k ≤ 8 ∧ i = .int .i64 k ∧ Below w.heap.size w wr ∧ Row wr w.heap.size (part (bytes8 n.toNat) k)) (fun i _ => 8 - (intOf i).toNat)
  case atStart => exact ⟨0, by omega, rfl, (Below.refl _ _).alloc (Nat.le_refl _) _, row_alloc _ _ _ _ (by rw [part_zero, bytes8_len]; rfl)⟩
  case round =>
    obtain ⟨k, hk, rfl, hb, hr⟩ := hrel
    have HR := Lib.hid hr; clear hr
    by_cases hlt : k < 8
    · have hl : k < (part (bytes8 n.toNat) k).length := by rw [part_len, bytes8_len]; exact hlt
      have hc := HR.out.1 k hl
      have hf := HR.out.2 k hl
      have hset := part_set (bytes8 n.toNat) k (by rw [bytes8_len]; exact hlt)
      rw [bytes8_get _ _ hlt] at hset
      have hbt := byte_at n.toNat k hlt
      generalize UInt8.ofNat (n.toNat / 256 ^ (7 - k)) = c at hset hbt
      generalize (part (bytes8 n.toNat) k)[k] = c0 at *
      have HS := Lib.hid hset; clear hset hl
      have HB := Lib.hid hbt; clear hbt
      go_wp2
      go_roundw
      case rel =>
        rw [HB.out]
        exact ⟨k + 1, by omega, by go_num, hb.setCell (Nat.le_refl _) _, by rw [← HS.out]; exact HR.out.put k _⟩
      case measure => simp [intOf]; omega
    · obtain rfl : k = 8 := by omega
      have hr := HR.out
      rw [show part (bytes8 n.toNat) 8 = part (bytes8 n.toNat) (bytes8 n.toNat).length from by rw [bytes8_len], part_all] at hr
      have hconv := hr.back 8
      rw [bytes8_len] at hconv
      go_wp2_with fail
      refine (hash_any _ _ (by rw [app_size]; omega)).mono ?_
      rintro e w2 ⟨rfl, hb2⟩
      go_wp2
      go_ret
      exact ⟨rfl, hb.trans (hb2.mono hb.size)⟩

set_option maxRecDepth 100000 in
set_option maxHeartbeats 400000 in
theorem open_short (s : ByteArray) (w : World) (hs : s.size < 8) :
    Calls Try.prog 19 #[.string s] w fun e w' => e = .returned (.tuple #[.string ⟨(openOf s.data.toList).1.toArray⟩, .int .i64 (openOf s.data.toList).2]) ∧ Below w.heap.size w w' := by
  have h : openOf s.data.toList = ([], 3) := by unfold openOf; rw [if_pos (by rw [← size_list]; exact hs)]
  rw [h]
  go_enter Try.func19, Try.ntmps19
  go_wp2
  go_ret2
  exact ⟨rfl, Below.refl _ _⟩

set_option maxRecDepth 100000 in
set_option maxHeartbeats 400000 in
theorem open_long (s : ByteArray) (w : World) (h8 : 8 ≤ s.size) (hs : s.size ≤ 2000) :
    Calls Try.prog 19 #[.string s] w fun e w' => e = .returned (.tuple #[.string ⟨(openOf s.data.toList).1.toArray⟩, .int .i64 (openOf s.data.toList).2]) ∧ Below w.heap.size w w' := by
  have i1 : (8 : Int) ≤ (s.size : Int) := by omega
  have i2 : (s.size : Int) - 8 ≤ (s.size : Int) := by omega
  have i3 : (0 : Int) ≤ (s.size : Int) - 8 := by omega
  have i4 : decide ((s.size : Int) - 8 < 0) = false := by simp; omega
  go_enter Try.func19, Try.ntmps19
  go_wp2
  go_region_with (go_at_call 30; refine (check_any _ _ (Nat.le_trans (ext_size_le _ _ _) hs)).mono ?_; rintro e w1 ⟨rfl, hb1⟩)
  go_wp2
  all_goals go_ret2
  · rename_i h
    have e := open_no s h8 h
    exact ⟨ret2 (by rw [e]; rfl) (by rw [e]; rfl), below_drew_left hb1⟩
  · rename_i h
    have e := open_yes s h8 h
    exact ⟨ret2 (by rw [e]; exact congrArg Value.string (ba_eq (ext_take s (s.size - 8)))) (by rw [e]; rfl), below_drew_left hb1⟩

theorem open_any (s : ByteArray) (w : World) (hs : s.size ≤ 2000) :
    Calls Try.prog 19 #[.string s] w fun e w' => e = .returned (.tuple #[.string ⟨(openOf s.data.toList).1.toArray⟩, .int .i64 (openOf s.data.toList).2]) ∧ Below w.heap.size w w' := by
  by_cases h : s.size < 8
  · exact open_short s w h
  · exact open_long s w (by omega) hs

set_option maxRecDepth 100000 in
set_option maxHeartbeats 400000 in
theorem ropen_long (s : ByteArray) (w : World) (h8 : 8 ≤ s.size) (hs : s.size ≤ 2000) :
    Calls Try.prog 20 #[.string s] w fun e w' => e = .returned (.tuple #[.string ⟨(openOf s.data.toList).1.toArray⟩, .int .i64 (openOf s.data.toList).2]) ∧ Below w.heap.size w w' := by
  have i1 : (8 : Int) ≤ (s.size : Int) := by omega
  have i2 : (s.size : Int) - 8 ≤ (s.size : Int) := by omega
  have i3 : (0 : Int) ≤ (s.size : Int) - 8 := by omega
  have i4 : decide ((s.size : Int) - 8 < 0) = false := by simp; omega
  go_enter Try.func20, Try.ntmps20
  go_wp2_with fail
  refine (rseal_any _ _ (Nat.le_trans (ext_size_le _ _ _) hs)).mono ?_
  rintro e w1 ⟨rfl, hb1⟩
  go_wp2
  all_goals go_ret2
  · rename_i h
    have e := ropen_no s h8 h
    exact ⟨ret2 (by rw [e]; rfl) (by rw [e]; rfl), hb1⟩
  · rename_i h
    have e := ropen_yes s h8 h
    exact ⟨ret2 (by rw [e]; exact congrArg Value.string (ba_eq (ext_take s (s.size - 8)))) (by rw [e]; rfl), hb1⟩

set_option maxRecDepth 100000 in
set_option maxHeartbeats 400000 in
theorem ropen_short (s : ByteArray) (w : World) (hs : s.size < 8) :
    Calls Try.prog 20 #[.string s] w fun e w' => e = .returned (.tuple #[.string ⟨(openOf s.data.toList).1.toArray⟩, .int .i64 (openOf s.data.toList).2]) ∧ Below w.heap.size w w' := by
  have h : openOf s.data.toList = ([], 3) := by unfold openOf; rw [if_pos (by rw [← size_list]; exact hs)]
  rw [h]
  go_enter Try.func20, Try.ntmps20
  go_wp2
  go_ret2
  exact ⟨rfl, Below.refl _ _⟩

theorem ropen_any (s : ByteArray) (w : World) (hs : s.size ≤ 2000) :
    Calls Try.prog 20 #[.string s] w fun e w' => e = .returned (.tuple #[.string ⟨(openOf s.data.toList).1.toArray⟩, .int .i64 (openOf s.data.toList).2]) ∧ Below w.heap.size w w' := by
  by_cases h : s.size < 8
  · exact ropen_short s w h
  · exact ropen_long s w (by omega) hs

end Go.Proofs.Ytohpaijpndphbaa.Sm
