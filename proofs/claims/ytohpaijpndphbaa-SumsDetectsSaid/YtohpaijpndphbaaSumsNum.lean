/- The walks of digit, Number and of the reference's Number. -/
import Derived.Test.YtohpaijpndphbaaSumsDig
import Derived.Lib.OthersKept
namespace Go.Proofs.Ytohpaijpndphbaa.Sm
open Go.RowKit

def hexTable : ByteArray := { data := #[48, 49, 50, 51, 52, 53, 54, 55, 56, 57, 97, 98, 99, 100, 101, 102] }
theorem hexTable_size : hexTable.size = 16 := rfl
theorem hexTable_at (k : Nat) (h : k < hexTable.size) : hexTable[k].toNat = tblNat k := tbl_nat k h
theorem tblNat_lt (k : Nat) (h : k < 16) : tblNat k < 128 := by unfold tblNat; split <;> omega
def digRes (c : Nat) : Ending := .returned (.tuple #[.int .u64 ((hexVal c).getD 0 : Nat), .bool (hexVal c).isSome])

set_option maxRecDepth 100000 in
set_option maxHeartbeats 400000 in
theorem digit_any (c : Nat) (w : World) :
    Calls Try.prog 28 #[.int .i32 c] w fun e w' => e = digRes c ∧ Below w.heap.size w w' := by
  go_enter Try.func28, Try.ntmps28
  go_wp2
  rw [show ({ data := #[48, 49, 50, 51, 52, 53, 54, 55, 56, 57, 97, 98, 99, 100, 101, 102] } : ByteArray) = hexTable from rfl]
  go_loopw [4, 5] (fun _ _ wr => ∃ k : Nat, k ≤ 16 ∧ wr = w.iter hexTable k ∧ ∀ j, j < k → tblNat j ≠ c) (fun _ _ wr => 16 - wr.iterPos w.heap.size)
  case atStart => exact ⟨0, by omega, rfl, fun j hj => absurd hj (by omega)⟩
  case round =>
    obtain ⟨k, hk, rfl, hno⟩ := hrel
    have HN := Lib.hid hno; clear hno
    by_cases hlt : k < 16
    · have hlt' : k < hexTable.size := hlt
      have hnx := fun ty => run_next_ascii (P := Try.prog) w hexTable k ty hlt' (by rw [hexTable_at k hlt']; exact tblNat_lt k hlt)
      rw [hexTable_at k hlt'] at hnx
      clear hlt'
      have hk128 := tblNat_lt k hlt
      by_cases he : tblNat k = c
      · have hb : ((tblNat k : Int) == (c : Int)) = true := by simp; omega
        have HE := Lib.hid he; clear he
        have HV := Lib.hid (hexVal_hit k hlt)
        generalize tblNat k = q at *
        go_wp2
        go_ret2
        exact ⟨by unfold digRes; rw [← HE.out, HV.out]; rfl, (Below.refl _ _).alloc (Nat.le_refl _) _⟩
      · have hb : ((tblNat k : Int) == (c : Int)) = false := by simp; omega
        have HE := Lib.hid he; clear he
        go_wp2
        go_roundw
        case rel => exact ⟨k + 1, by omega, rfl, fun j hj => by by_cases e : j = k; (subst e; exact HE.out); exact HN.out j (by omega)⟩
        case measure => simp [World.iterPos_iter]; omega
    · obtain rfl : k = 16 := by omega
      have hnx := fun ty => run_next_end (P := Try.prog) w hexTable 16 ty (by rw [hexTable_size]; omega)
      go_wp2
      go_ret2
      exact ⟨by unfold digRes; rw [hexVal_miss c HN.out]; rfl, (Below.refl _ _).alloc (Nat.le_refl _) _⟩

theorem iterPos_at {w : World} {g p : Nat} {s : ByteArray} (h : w.heap[g]? = some (.stringIter s p)) : w.iterPos g = p := by simp [World.iterPos, h]
theorem digit_yes (c d : Nat) (w : World) (h : hexVal c = some d) :
    Calls Try.prog 28 #[.int .i32 c] w fun e w' => e = .returned (.tuple #[.int .u64 d, .bool true]) ∧ Below w.heap.size w w' := by
  have := digit_any c w
  unfold digRes at this
  rw [h] at this
  exact this
theorem digit_no (c : Nat) (w : World) (h : hexVal c = none) :
    Calls Try.prog 28 #[.int .i32 c] w fun e w' => e = .returned (.tuple #[.int .u64 0, .bool false]) ∧ Below w.heap.size w w' := by
  have := digit_any c w
  unfold digRes at this
  rw [h] at this
  exact this

theorem numRes_eq {l : List UInt8} {p : Nat × Int} (h : number l = p) {a b : Value} (ha : a = .int .u64 p.1) (hb : b = .int .i64 p.2) : Ending.returned (.tuple #[a, b]) = .returned (.tuple #[.int .u64 ((number l).1 : Nat), .int .i64 (number l).2]) := by
  rw [h, ha, hb]

theorem or_digit (n d : Nat) (hn : n < 16 ^ 15) (hd : d < 16) : bits .or .u64 (IntKind.u64.wrap ((n : Int) * 16)) (d : Int) = ((n * 16 + d : Nat) : Int) := by
  have h1 : ((n : Int) * 16) = ((n * 16 : Nat) : Int) := by omega
  have hb : n * 16 < 18446744073709551616 := by
    have : (16 : Nat) ^ 15 * 16 = 18446744073709551616 := by decide
    omega
  rw [h1, wrap_nat64, Nat.mod_eq_of_lt hb, u64_or_nat _ _ hb (by omega), nat_join 4 (n * 16) d (by omega) (by omega)]

set_option maxRecDepth 100000 in
set_option maxHeartbeats 400000 in
theorem number_any (s : ByteArray) (w : World) (hs : s.size ≤ 2000) :
    Calls Try.prog 15 #[.string s] w fun e w' => e = .returned (.tuple #[.int .u64 ((number s.data.toList).1 : Nat), .int .i64 (number s.data.toList).2]) ∧ Below w.heap.size w w' := by
  by_cases h1 : s.size < 16
  · go_enter Try.func15, Try.ntmps15
    go_wp2
    go_ret2
    exact ⟨numRes_eq (num_short _ h1) rfl rfl, Below.refl _ _⟩
  by_cases h2 : 16 < s.size
  · go_enter Try.func15, Try.ntmps15
    go_wp2
    go_ret2
    exact ⟨numRes_eq (num_long _ h2) rfl rfl, Below.refl _ _⟩
  have h3 : s.size = 16 := by omega
  have H3 := Lib.hid h3; clear h3
  have b1 : decide ((s.size : Int) < 16) = false := by simp; omega
  have b2 : decide ((16 : Int) < (s.size : Int)) = false := by simp; omega
  go_enter Try.func15, Try.ntmps15
  go_wp2
  clear b1 b2
  go_loopw [4, 6, 7, 8] (fun n _ _ _ wr => ∃ k m : Nat, k ≤ 16 ∧ n = .int .u64 m ∧ parse (s.data.toList.take k) 0 = some m ∧ Below w.heap.size w wr ∧ wr.heap[w.heap.size]? = some (.stringIter s k)) (fun _ _ _ _ wr => 16 - wr.iterPos w.heap.size)
  case atStart => exact ⟨0, 0, by omega, rfl, rfl, (Below.refl _ _).alloc (Nat.le_refl _) _, World.iter_heap _ _ _⟩
  case round =>
    obtain ⟨k, m, hk, rfl, hp, hb, hit⟩ := hrel
    have HP := Lib.hid hp; clear hp
    have HI := Lib.hid hit; clear hit
    by_cases hlt : k < 16
    · have hlt' : k < s.size := by have := H3.out; omega
      have hnx := fun ty => Lib.run_next_any_at (P := Try.prog) wr w.heap.size s k ty HI.out hlt'
      have hr := decode_le s k
      have hlow : (hlow : s[k].toNat < 128) → (Utf8.decode s k) = (s[k].toNat, 1) := fun h => decode_ascii s k hlt' h
      have hhigh : 128 ≤ s[k].toNat → 128 ≤ (Utf8.decode s k).1 := fun h => (decode_high s k hlt' h).1
      have hlk : k < s.data.toList.length := by rw [← size_list]; exact hlt'
      have HK := Lib.hid (show s.data.toList[k].toNat = s[k].toNat from rfl)
      have HT := Lib.hid (take_snoc s k hlt')
      generalize Utf8.decode s k = dq at *
      obtain ⟨r, q⟩ := dq
      have HL := Lib.hid hlow; clear hlow
      have HH := Lib.hid hhigh; clear hhigh
      have hsz : w.heap.size < wr.heap.size := (Array.getElem?_eq_some_iff.1 HI.out).1
      cases hv : hexVal r with
      | none =>
        have HV := Lib.hid hv; clear hv
        go_wp2_with fail
        refine (digit_no r _ HV.out).mono ?_
        rintro e w2 ⟨rfl, hb2⟩
        go_wp2
        go_ret2
        have hx : hexVal s.data.toList[k].toNat = none := by
          rw [HK.out]
          by_cases h : s[k].toNat < 128
          · have := HL.out h; simp at this; rw [← this.1]; exact HV.out
          · exact hexVal_high (by omega)
        refine ⟨numRes_eq (num_bad _ k m (by rw [← size_list]; exact H3.out) hlk HP.out hx) rfl rfl, ?_⟩
        exact (Lib.below_iterAt hb (Nat.le_refl _) _ _).trans (hb2.mono (by rw [Lib.iterAt_size]; omega))
      | some d =>
        have hd := hexVal_lt hv
        have h128 := hexVal_lt128 hv
        have hk128 : s[k].toNat < 128 := by
          rcases Nat.lt_or_ge s[k].toNat 128 with h | h
          · exact h
          · have := HH.out h; simp at this; omega
        have e := HL.out hk128
        simp only [Prod.mk.injEq] at e
        obtain ⟨e1, e2⟩ := e
        subst e2
        have hpn : parse (s.data.toList.take (k + 1)) 0 = some (m * 16 + d) := by
          rw [HT.out, parse_snoc, HP.out, ← e1, hv]; rfl
        have hm : m < 16 ^ 15 := by
          have := parse_lt _ _ _ HP.out
          rw [Nat.zero_add, Nat.one_mul, List.length_take] at this
          refine Nat.lt_of_lt_of_le this (Nat.pow_le_pow_right (by omega) (by omega))
        have HOR := Lib.hid (or_digit m d hm hd)
        have HPN := Lib.hid hpn
        have HV := Lib.hid hv
        clear hv hpn e1 hm hk128
        go_wp2_with fail
        refine (digit_yes r d _ HV.out).mono ?_
        rintro e w2 ⟨rfl, hb2⟩
        have HB2 := Lib.hid hb2; clear hb2
        go_wp2
        go_roundw
        case rel =>
          rw [HOR.out]
          refine ⟨k + 1, m * 16 + d, by omega, rfl, HPN.out, (Lib.below_iterAt hb (Nat.le_refl _) _ _).trans (HB2.out.mono (by rw [Lib.iterAt_size]; omega)), ?_⟩
          rw [HB2.out.block _ (by rw [Lib.iterAt_size]; omega)]
          exact Lib.iterAt_heap _ _ _ _ _ HI.out
        case measure =>
          have h1 := iterPos_at HI.out
          have h2 : w2.heap[w.heap.size]? = some (.stringIter s (k + 1)) := by
            rw [HB2.out.block _ (by rw [Lib.iterAt_size]; omega)]
            exact Lib.iterAt_heap _ _ _ _ _ HI.out
          rw [h1, iterPos_at h2]; omega
    · obtain rfl : k = 16 := by omega
      have hnx := fun ty => Lib.run_next_end_at (P := Try.prog) wr w.heap.size s 16 ty HI.out (by have := H3.out; omega)
      go_wp2
      go_ret2
      have hp := HP.out
      rw [List.take_of_length_le (by rw [← size_list]; have := H3.out; omega)] at hp
      exact ⟨numRes_eq (num_ok _ _ (by rw [← size_list]; exact H3.out) hp) rfl rfl, hb⟩
set_option maxRecDepth 100000 in
set_option maxHeartbeats 400000 in
theorem rnumber_any (s : ByteArray) (w : World) (hs : s.size ≤ 2000) :
    Calls Try.prog 16 #[.string s] w fun e w' => e = .returned (.tuple #[.int .u64 ((number s.data.toList).1 : Nat), .int .i64 (number s.data.toList).2]) ∧ w = w' := by
  by_cases h1 : s.size < 16
  · go_enter Try.func16, Try.ntmps16
    go_wp2
    go_ret2
    exact ⟨numRes_eq (num_short _ h1) rfl rfl, rfl⟩
  by_cases h2 : 16 < s.size
  · go_enter Try.func16, Try.ntmps16
    go_wp2
    go_ret2
    exact ⟨numRes_eq (num_long _ h2) rfl rfl, rfl⟩
  have h3 : s.size = 16 := by omega
  have H3 := Lib.hid h3; clear h3
  have b1 : decide ((s.size : Int) < 16) = false := by simp; omega
  have b2 : decide ((16 : Int) < (s.size : Int)) = false := by simp; omega
  go_enter Try.func16, Try.ntmps16
  go_wp2
  clear b1 b2
  go_loop [4, 5, 6, 7] (fun n i _ _ => ∃ k m : Nat, k ≤ s.size ∧ i = .int .i64 k ∧ n = .int .u64 m ∧ parse (s.data.toList.take k) 0 = some m) (fun _ i _ _ => s.size - (intOf i).toNat)
  case atStart => exact ⟨0, 0, by omega, rfl, rfl, rfl⟩
  case round =>
    obtain ⟨k, m, hk, rfl, rfl, hp⟩ := hrel
    have HP := Lib.hid hp; clear hp
    by_cases hlt : k < s.size
    · have hlk : k < s.data.toList.length := by rw [← size_list]; exact hlt
      have HK := Lib.hid (show s.data.toList[k].toNat = s[k].toNat from rfl)
      have HT := Lib.hid (take_snoc s k hlt)
      have hm : m < 16 ^ 15 := by
        have := parse_lt _ _ _ HP.out
        rw [Nat.zero_add, Nat.one_mul, List.length_take] at this
        refine Nat.lt_of_lt_of_le this (Nat.pow_le_pow_right (by omega) (by have := H3.out; omega))
      have hc8 := s[k].toNat_lt
      go_wp2
      · go_round
        case rel => exact ⟨k + 1, m * 16 + (s[k].toNat - 48), by omega, by go_num, by congr 1; omega, by rw [HT.out, parse_snoc, HP.out]; unfold hexVal; rw [if_pos (by omega)]; rfl⟩
        case measure => simp [intOf]; omega
      · go_round
        case rel => exact ⟨k + 1, m * 16 + (s[k].toNat - 87), by omega, by go_num, by congr 1; omega, by rw [HT.out, parse_snoc, HP.out]; unfold hexVal; rw [if_neg (by omega), if_pos (by omega)]; rfl⟩
        case measure => simp [intOf]; omega
      all_goals
        go_ret2
        have hx : hexVal s.data.toList[k].toNat = none := by
          rw [HK.out]; unfold hexVal; rw [if_neg (by omega), if_neg (by omega)]
        exact ⟨numRes_eq (num_bad _ k m (by rw [← size_list]; exact H3.out) hlk HP.out hx) rfl rfl, rfl⟩
    · obtain rfl : k = s.size := by omega
      go_wp2
      go_ret2
      have hp := HP.out
      rw [List.take_of_length_le (by rw [← size_list]; omega)] at hp
      exact ⟨numRes_eq (num_ok _ _ (by rw [← size_list]; exact H3.out) hp) rfl rfl, rfl⟩
end Go.Proofs.Ytohpaijpndphbaa.Sm
