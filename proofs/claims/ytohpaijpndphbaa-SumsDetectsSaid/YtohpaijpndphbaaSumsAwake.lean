/- The law's own examples: awake returns true. -/
import Derived.Test.YtohpaijpndphbaaSumsStr
import Derived.Test.YtohpaijpndphbaaSumsNum
namespace Go.Proofs.Ytohpaijpndphbaa.Sm
open Go.RowKit

theorem aw1 (w : World) : Calls Try.prog 15 #[.string ⟨#[48, 48, 48, 48, 48, 48, 48, 48, 48, 48, 48, 48, 48, 48, 102, 102]⟩] w fun e w' => e = .returned (.tuple #[.int .u64 255, .int .i64 0]) ∧ Below w.heap.size w w' := by
  have h := number_any ⟨#[48, 48, 48, 48, 48, 48, 48, 48, 48, 48, 48, 48, 48, 48, 102, 102]⟩ w (by decide)
  rw [show number (ByteArray.data ⟨#[48, 48, 48, 48, 48, 48, 48, 48, 48, 48, 48, 48, 48, 48, 102, 102]⟩).toList = (255, 0) from by decide +kernel] at h
  exact h
theorem aw2 (w : World) : Calls Try.prog 19 #[.string ⟨#[97, 101, 56, 98, 55, 98, 101, 52, 51]⟩] w fun e w' => e = .returned (.tuple #[.string ⟨#[97]⟩, .int .i64 0]) ∧ Below w.heap.size w w' := by
  have h := open_any ⟨#[97, 101, 56, 98, 55, 98, 101, 52, 51]⟩ w (by decide)
  rw [show openOf (ByteArray.data ⟨#[97, 101, 56, 98, 55, 98, 101, 52, 51]⟩).toList = ([97], 0) from by decide +kernel] at h
  exact h
theorem aw3 (w : World) : Calls Try.prog 19 #[.string ⟨#[97, 48, 48, 48, 48, 48, 48, 48, 48]⟩] w fun e w' => e = .returned (.tuple #[.string ⟨#[]⟩, .int .i64 16]) ∧ Below w.heap.size w w' := by
  have h := open_any ⟨#[97, 48, 48, 48, 48, 48, 48, 48, 48]⟩ w (by decide)
  rw [show openOf (ByteArray.data ⟨#[97, 48, 48, 48, 48, 48, 48, 48, 48]⟩).toList = ([], 16) from by decide +kernel] at h
  exact h
theorem aw4 (w : World) : Calls Try.prog 12 #[.string ⟨#[49, 50, 51, 52, 53, 54, 55, 56, 57]⟩] w fun e w' => e = .returned (.int .u32 3421780262) ∧ Below w.heap.size w w' := by
  have h := crc_any ⟨#[49, 50, 51, 52, 53, 54, 55, 56, 57]⟩ w (by decide)
  rw [show crc (ByteArray.data ⟨#[49, 50, 51, 52, 53, 54, 55, 56, 57]⟩).toList = 3421780262#32 from by decide +kernel] at h
  exact h
theorem aw5 (w : World) : Calls Try.prog 12 #[.string ⟨#[]⟩] w fun e w' => e = .returned (.int .u32 0) ∧ Below w.heap.size w w' := by
  have h := crc_any ⟨#[]⟩ w (by decide)
  rw [show crc (ByteArray.data ⟨#[]⟩).toList = 0#32 from by decide +kernel] at h
  exact h
theorem aw6 (w : World) : Calls Try.prog 23 #[.string ⟨#[]⟩] w fun e w' => e = .returned (.int .u64 14695981039346656037) ∧ Below w.heap.size w w' := by
  have h := hash_any ⟨#[]⟩ w (by decide)
  rw [show hash (ByteArray.data ⟨#[]⟩).toList = 14695981039346656037#64 from by decide +kernel] at h
  exact h
theorem aw7 (w : World) : Calls Try.prog 23 #[.string ⟨#[97]⟩] w fun e w' => e = .returned (.int .u64 12638187200555641996) ∧ Below w.heap.size w w' := by
  have h := hash_any ⟨#[97]⟩ w (by decide)
  rw [show hash (ByteArray.data ⟨#[97]⟩).toList = 12638187200555641996#64 from by decide +kernel] at h
  exact h
theorem aw8 (w : World) : Calls Try.prog 17 #[.int .u64 255] w fun e w' => e = .returned (.string ⟨#[48, 48, 48, 48, 48, 48, 48, 48, 48, 48, 48, 48, 48, 48, 102, 102]⟩) ∧ Below w.heap.size w w' := by
  have h := hex_any 255#64 w
  rw [show digits (255#64).toNat 16 = [48, 48, 48, 48, 48, 48, 48, 48, 48, 48, 48, 48, 48, 48, 102, 102] from by decide +kernel] at h
  exact h
theorem aw9 (w : World) : Calls Try.prog 21 #[.string ⟨#[]⟩] w fun e w' => e = .returned (.string ⟨#[48, 48, 48, 48, 48, 48, 48, 48]⟩) ∧ Below w.heap.size w w' := by
  have h := seal_any ⟨#[]⟩ w (by decide)
  rw [show sealOf (ByteArray.data ⟨#[]⟩).toList = [48, 48, 48, 48, 48, 48, 48, 48] from by decide +kernel] at h
  exact h

set_option maxRecDepth 100000 in
set_option maxHeartbeats 400000 in
theorem awake_any (w : World) : Calls Try.prog 14 #[] w fun e w' => e = .returned (.bool true) ∧ Below w.heap.size w w' := by
  go_enter Try.func14, Try.ntmps14
  go_wp2_with fail
  refine (aw1 _).mono ?_
  rintro e w1 ⟨rfl, hb1⟩
  go_wp2_with fail
  refine (aw2 _).mono ?_
  rintro e w2 ⟨rfl, hb2⟩
  go_wp2_with fail
  refine (aw3 _).mono ?_
  rintro e w3 ⟨rfl, hb3⟩
  go_wp2_with fail
  refine (aw4 _).mono ?_
  rintro e w4 ⟨rfl, hb4⟩
  go_wp2_with fail
  refine (aw5 _).mono ?_
  rintro e w5 ⟨rfl, hb5⟩
  go_wp2_with fail
  refine (aw6 _).mono ?_
  rintro e w6 ⟨rfl, hb6⟩
  go_wp2_with fail
  refine (aw7 _).mono ?_
  rintro e w7 ⟨rfl, hb7⟩
  go_wp2_with fail
  refine (aw8 _).mono ?_
  rintro e w8 ⟨rfl, hb8⟩
  go_wp2_with fail
  refine (aw9 _).mono ?_
  rintro e w9 ⟨rfl, hb9⟩
  go_wp2
  go_ret
  have q1 := hb1.size; have q2 := hb2.size; have q3 := hb3.size; have q4 := hb4.size; have q5 := hb5.size; have q6 := hb6.size; have q7 := hb7.size; have q8 := hb8.size
  exact ⟨rfl, (((((((hb1.trans (hb2.mono (by omega))).trans (hb3.mono (by omega))).trans (hb4.mono (by omega))).trans (hb5.mono (by omega))).trans (hb6.mono (by omega))).trans (hb7.mono (by omega))).trans (hb8.mono (by omega))).trans (hb9.mono (by omega))⟩
end Go.Proofs.Ytohpaijpndphbaa.Sm
