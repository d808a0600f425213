/- The walks of sums.Crc and of the reference's Crc: both return the plain function's checksum. -/
import Derived.Test.YtohpaijpndphbaaProg
import Derived.Test.YtohpaijpndphbaaSumsPlain
import Derived.WalkKit
import Derived.WalkSpells
import Derived.WalkLawsBesides
import Derived.Lib.Hide
namespace Go.Proofs.Ytohpaijpndphbaa.Sm
open Go.RowKit

theorem ret_int {k : IntKind} {a b : Int} (h : a = b) : Ending.returned (.int k a) = .returned (.int k b) := by rw [h]

theorem conv_bytes (w : World) (s : ByteArray) : ∃ cap w1, (convert 9 36 (.string s)).run Try.prog w = .ok (.slice (some ⟨w.heap.size, 0, none⟩) s.size cap) w1 ∧ s.size ≤ cap ∧ Below w.heap.size w w1 ∧ w1.heap.size = w.heap.size + 1 ∧
   (∀ j (hj : j < s.size), w1.cell? ⟨w.heap.size, j, none⟩ = some (.int .u8 (s[j].toNat : Int))) ∧ (∀ j, j < s.size → w1.frozen? ⟨w.heap.size, j, none⟩ = false) := by
  refine ⟨_, _, run_bytes_of_string (P := Try.prog) w 9 36 5 s Try.underlying9 Try.underlying36 Try.underlying5, grownCap_ge _ _ _ _, ?_, by simp, ?_, ?_⟩
  · exact (Below.refl _ _).drew.alloc (Nat.le_refl _) _
  · intro j hj
    have h := World.cell?_alloc_mark w.drew (bytesRow s (grownCap w s.size 0 5)) 5 ((bytesRow s (grownCap w s.size 0 5)).size, (bytesRow s (grownCap w s.size 0 5)).size + 1) j
    rw [bytesRow_at s _ j hj] at h
    exact h
  · intro j hj
    have h := World.frozen?_alloc_mark w.drew (bytesRow s (grownCap w s.size 0 5)) 5 (bytesRow s (grownCap w s.size 0 5)).size ((bytesRow s (grownCap w s.size 0 5)).size + 1) j
    have : j < (bytesRow s (grownCap w s.size 0 5)).size := by
      simp [bytesRow]; omega
    exact h.trans (by simp; omega)

set_option maxRecDepth 100000 in
set_option maxHeartbeats 400000 in
theorem crc_any (s : ByteArray) (w : World) (hs : s.size ≤ 2000) :
    Calls Try.prog 12 #[.string s] w fun e w' => e = .returned (.int .u32 (crc s.data.toList).toNat) ∧ Below w.heap.size w w' := by
  obtain ⟨cap, w1, hconv, hcap, hb, hz, hcell, hfr⟩ := conv_bytes w s
  have HC := Lib.hid hcell; clear hcell hfr hz
  go_enter Try.func12, Try.ntmps12
  go_wp2
  clear hconv
  go_loop [3, 10] (fun r i => ∃ k : Nat, k ≤ s.size ∧ i = .int .i64 k ∧ r = .int .u32 (crcReg (s.data.toList.take k)).toNat) (fun _ i => s.size - (intOf i).toNat)
  case atStart => exact ⟨0, by omega, rfl, rfl⟩
  case round =>
    obtain ⟨k, hk, rfl, rfl⟩ := hrel
    by_cases hlt : k < s.size
    · have hc := HC.out k hlt
      have hsn : crcReg (s.data.toList.take (k + 1)) = crcByte (crcReg (s.data.toList.take k)) s[k] := by rw [take_snoc s k hlt, crcReg_snoc]
      generalize s[k] = c at *
      have HSN := Lib.hid hsn; clear hsn
      have hc8 := c.toNat_lt
      generalize crcReg (s.data.toList.take k) = n at *
      go_wp2
      clear hc
      rw [xor_byte32]
      go_loop [3, 18] (fun r i => ∃ j : Nat, j ≤ 8 ∧ i = .int .i64 j ∧ r = .int .u32 (crcBits j (n ^^^ BitVec.ofNat 32 c.toNat)).toNat) (fun _ i => 8 - (intOf i).toNat)
      case atStart => exact ⟨0, by omega, rfl, rfl⟩
      case round =>
        obtain ⟨j, hj, rfl, rfl⟩ := hrel
        by_cases hlt : j < 8
        · have HS := Lib.hid (show crcBits (j + 1) (n ^^^ BitVec.ofNat 32 c.toNat) = crcBit (crcBits j (n ^^^ BitVec.ofNat 32 c.toNat)) from rfl)
          generalize crcBits j (n ^^^ BitVec.ofNat 32 c.toNat) = x at *
          go_wp2
          all_goals
            go_round
            case rel => exact ⟨j + 1, by omega, by go_num, by rw [HS.out]; first | rw [crc_one x ‹_›] | rw [crc_zero x ‹_›]⟩
            case measure => simp [intOf]; omega
        · obtain rfl : j = 8 := by omega
          go_wp2
          go_round
          case rel => exact ⟨k + 1, by omega, by go_num, by rw [HSN.out]; rfl⟩
          case measure => simp [intOf]; omega
    · go_wp2
      go_ret
      exact ⟨ret_int (by rw [List.take_of_length_le (by simp; omega), not32]; rfl), hb⟩

set_option maxRecDepth 100000 in
set_option maxHeartbeats 400000 in
theorem rcrc_any (s : ByteArray) (w : World) (hs : s.size ≤ 2000) :
    Calls Try.prog 13 #[.string s] w fun e w' => e = .returned (.int .u32 (crc s.data.toList).toNat) ∧ w = w' := by
  go_enter Try.func13, Try.ntmps13
  go_wp2
  go_loop [3, 4] (fun r i => ∃ k : Nat, k ≤ s.size ∧ i = .int .i64 k ∧ r = .int .u32 (crcReg (s.data.toList.take k)).toNat) (fun _ i => s.size - (intOf i).toNat)
  case atStart => exact ⟨0, by omega, rfl, rfl⟩
  case round =>
    obtain ⟨k, hk, rfl, rfl⟩ := hrel
    by_cases hlt : k < s.size
    · have hsn : crcReg (s.data.toList.take (k + 1)) = crcByte (crcReg (s.data.toList.take k)) s[k] := by rw [take_snoc s k hlt, crcReg_snoc]
      have HSN := Lib.hid hsn; clear hsn
      go_wp2
      have hc8 := s[k].toNat_lt
      rw [show ((s[k].toNat : Int) % 4294967296) = s[k].toNat from by omega, xor_byte32]
      generalize s[k] = c at *
      generalize crcReg (s.data.toList.take k) = n at *
      go_loop [3, 5] (fun r i => ∃ j : Nat, j ≤ 8 ∧ i = .int .i64 j ∧ r = .int .u32 (crcBits j (n ^^^ BitVec.ofNat 32 c.toNat)).toNat) (fun _ i => 8 - (intOf i).toNat)
      case atStart => exact ⟨0, by omega, rfl, rfl⟩
      case round =>
        obtain ⟨j, hj, rfl, rfl⟩ := hrel
        by_cases hlt : j < 8
        · have HS := Lib.hid (show crcBits (j + 1) (n ^^^ BitVec.ofNat 32 c.toNat) = crcBit (crcBits j (n ^^^ BitVec.ofNat 32 c.toNat)) from rfl)
          generalize crcBits j (n ^^^ BitVec.ofNat 32 c.toNat) = x at *
          go_wp2
          all_goals
            go_round
            case rel => exact ⟨j + 1, by omega, by go_num, by rw [HS.out]; first | rw [crc_one x ‹_›] | rw [crc_zero x ‹_›]⟩
            case measure => simp [intOf]; omega
        · obtain rfl : j = 8 := by omega
          go_wp2
          go_round
          case rel => exact ⟨k + 1, by omega, by go_num, by rw [HSN.out]; rfl⟩
          case measure => simp [intOf]; omega
    · go_wp2
      go_ret
      exact ⟨ret_int (by rw [List.take_of_length_le (by simp; omega), not32]; rfl), rfl⟩

set_option maxRecDepth 100000 in
set_option maxHeartbeats 400000 in
theorem hash_any (s : ByteArray) (w : World) (hs : s.size ≤ 2000) :
    Calls Try.prog 23 #[.string s] w fun e w' => e = .returned (.int .u64 (hash s.data.toList).toNat) ∧ Below w.heap.size w w' := by
  obtain ⟨cap, w1, hconv, hcap, hb, hz, hcell, hfr⟩ := conv_bytes w s
  have HC := Lib.hid hcell; clear hcell hfr hz
  go_enter Try.func23, Try.ntmps23
  go_wp2
  clear hconv
  go_loop [3, 9] (fun r i => ∃ k : Nat, k ≤ s.size ∧ i = .int .i64 k ∧ r = .int .u64 (hash (s.data.toList.take k)).toNat) (fun _ i => s.size - (intOf i).toNat)
  case atStart => exact ⟨0, by omega, rfl, rfl⟩
  case round =>
    obtain ⟨k, hk, rfl, rfl⟩ := hrel
    by_cases hlt : k < s.size
    · have hc := HC.out k hlt
      have hsn : hash (s.data.toList.take (k + 1)) = hashByte (hash (s.data.toList.take k)) s[k] := by rw [take_snoc s k hlt, hash_snoc]
      generalize s[k] = c at *
      have HSN := Lib.hid hsn; clear hsn
      have hc8 := c.toNat_lt
      generalize hash (s.data.toList.take k) = n at *
      go_wp2
      go_round
      case rel => exact ⟨k + 1, by omega, by go_num, by rw [HSN.out, hash_step]⟩
      case measure => simp [intOf]; omega
    · go_wp2
      go_ret
      exact ⟨ret_int (by rw [List.take_of_length_le (by simp; omega)]), hb⟩

set_option maxRecDepth 100000 in
set_option maxHeartbeats 400000 in
theorem rhash_any (s : ByteArray) (w : World) (hs : s.size ≤ 2000) :
    Calls Try.prog 24 #[.string s] w fun e w' => e = .returned (.int .u64 (hash s.data.toList).toNat) ∧ w = w' := by
  go_enter Try.func24, Try.ntmps24
  go_wp2
  go_loop [3, 4] (fun r i => ∃ k : Nat, k ≤ s.size ∧ i = .int .i64 k ∧ r = .int .u64 (hash (s.data.toList.take k)).toNat) (fun _ i => s.size - (intOf i).toNat)
  case atStart => exact ⟨0, by omega, rfl, rfl⟩
  case round =>
    obtain ⟨k, hk, rfl, rfl⟩ := hrel
    by_cases hlt : k < s.size
    · have hsn : hash (s.data.toList.take (k + 1)) = hashByte (hash (s.data.toList.take k)) s[k] := by rw [take_snoc s k hlt, hash_snoc]
      have HSN := Lib.hid hsn; clear hsn
      go_wp2
      go_round
      case rel => exact ⟨k + 1, by omega, by go_num, by rw [HSN.out, wrap_byte64, hash_step]⟩
      case measure => simp [intOf]; omega
    · go_wp2
      go_ret
      exact ⟨ret_int (by rw [List.take_of_length_le (by simp; omega)]), rfl⟩
end Go.Proofs.Ytohpaijpndphbaa.Sm
