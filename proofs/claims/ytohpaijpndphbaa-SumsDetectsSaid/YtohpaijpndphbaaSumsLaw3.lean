/- The walk of the law SumsXors. -/
import Derived.Test.YtohpaijpndphbaaSumsLaw2
import Derived.RegionTactic
namespace Go.Proofs.Ytohpaijpndphbaa.Sm
open Go.RowKit

def xorTo (a b c : List UInt8) (k : Nat) : List UInt8 := (List.range a.length).map fun j => if j < k then a.getD j 0 ^^^ b.getD j 0 ^^^ c.getD j 0 else a.getD j 0
theorem xorTo_len (a b c : List UInt8) (k : Nat) : (xorTo a b c k).length = a.length := by simp [xorTo]
theorem xorTo_zero (a b c : List UInt8) : xorTo a b c 0 = a := by
  apply List.ext_getElem
  · simp [xorTo]
  · intro i h1 h2; simp [xorTo, h2]
theorem xorTo_at (a b c : List UInt8) (k : Nat) (_h : k < (xorTo a b c k).length) : (xorTo a b c k)[k] = a.getD k 0 := by simp [xorTo]
theorem xorTo_set (a b c : List UInt8) (k : Nat) (_h : k < a.length) : ((xorTo a b c k).map fun x => (x.toNat : Int)).set k ((a.getD k 0 ^^^ b.getD k 0 ^^^ c.getD k 0).toNat : Int) = (xorTo a b c (k + 1)).map fun x => (x.toNat : Int) := by
  rw [← List.map_set (f := fun x : UInt8 => (x.toNat : Int))]
  congr 1
  apply List.ext_getElem
  · simp [xorTo]
  · intro i h1 h2
    simp only [List.getElem_set, xorTo, List.getElem_map, List.getElem_range]
    by_cases e : k = i
    · subst e; simp
    · simp only [if_neg e]
      by_cases hl : i < k
      · rw [if_pos hl, if_pos (by omega)]
      · rw [if_neg hl, if_neg (by omega)]
theorem xorTo_crc (a b c : List UInt8) (h1 : a.length = b.length) (h2 : a.length = c.length) : crc (xorTo a b c a.length) = crc a ^^^ crc b ^^^ crc c := by
  refine crc_xor3 a b c _ h1 h2 (xorTo_len _ _ _ _) ?_
  intro i hx ha hb hc
  simp [xorTo, ha, hb, hc]
theorem getD_at (s : ByteArray) (k : Nat) (h : k < s.size) : s.data.toList.getD k 0 = s[k] := by
  rw [List.getD_eq_getElem?_getD, List.getElem?_eq_getElem (by rw [← size_list]; exact h)]; rfl
theorem Row.drew {w : World} {g : Nat} {l : List Int} (h : Row w g l) : Row w.drew g l := h

set_option maxRecDepth 100000 in
set_option maxHeartbeats 1000000 in
theorem xors_same (a b c : ByteArray) (w : World) (hs : a.size ≤ 1000) (h1 : a.size = b.size) (h2 : a.size = c.size) :
    Calls Try.prog 8 #[.string a, .string b, .string c] w fun e w' => e = .returned (.bool true) ∧ Below w.heap.size w w' := by
  obtain ⟨cap, w1, hconv, hcap, hb, hz, hcell, hfr⟩ := conv_bytes w a
  have hrow := row_of w1 _ a hcell hfr
  have HR := Lib.hid hrow
  clear hcell hfr hrow hz
  have n1 : ((a.size : Int) != (b.size : Int)) = false := by simp [h1]
  have n2 : ((a.size : Int) != (c.size : Int)) = false := by simp [h2]
  have H1 := Lib.hid h1; clear h1
  have H2 := Lib.hid h2; clear h2
  have hx := xorTo_crc a.data.toList b.data.toList c.data.toList (by rw [← size_list, ← size_list]; exact H1.out) (by rw [← size_list, ← size_list]; exact H2.out)
  have HX := Lib.hid hx; clear hx
  go_enter Try.func8, Try.ntmps8
  go_wp2_with fail
  refine (short_yes a _ hs).mono ?_
  rintro e w2 ⟨rfl, rfl⟩
  go_wp2
  clear hconv n1 n2
  go_loopw [8] (fun i wr => ∃ k : Nat, k ≤ a.size ∧ i = .int .i64 k ∧ Below w.heap.size w wr ∧ Row wr w.heap.size ((xorTo a.data.toList b.data.toList c.data.toList k).map fun x => (x.toNat : Int))) (fun i _ => a.size - (intOf i).toNat)
  case atStart => exact ⟨0, by omega, rfl, hb, by rw [xorTo_zero]; exact HR.out⟩
  case round =>
    obtain ⟨k, hk, rfl, hbr, hr⟩ := hrel
    have HRR := Lib.hid hr; clear hr HR
    by_cases hlt : k < a.size
    · have hlb : k < b.size := by have := H1.out; omega
      have hlc : k < c.size := by have := H2.out; omega
      have hl : k < ((xorTo a.data.toList b.data.toList c.data.toList k).map fun x => (x.toNat : Int)).length := by rw [List.length_map, xorTo_len, ← size_list]; exact hlt
      have hc := HRR.out.1 k hl
      have hf := HRR.out.2 k hl
      rw [List.getElem_map, xorTo_at] at hc
      have hset := xorTo_set a.data.toList b.data.toList c.data.toList k (by rw [← size_list]; exact hlt)
      rw [getD_at b k hlb, getD_at c k hlc] at hset
      generalize a.data.toList.getD k 0 = x at *
      have HS := Lib.hid hset; clear hset hl
      have HXR : Hid (bits .xor .u8 (bits .xor .u8 (x.toNat : Int) (b[k].toNat : Int)) (c[k].toNat : Int) = ((x ^^^ b[k] ^^^ c[k]).toNat : Int)) := by unfold Hid; rw [xor_u8, xor_u8]
      have i1 : (0 : Int) ≤ (k : Int) := by omega
      go_wp2
      go_region
      go_wp2
      go_roundw
      case rel =>
        rw [HXR.out]
        exact ⟨k + 1, by omega, by go_num, (hbr.setCell (p := ⟨w.heap.size, k, none⟩) (Nat.le_refl _) _).drew, by rw [← HS.out]; exact (HRR.out.put k _).drew⟩
      case measure => simp [intOf]; omega
    · obtain rfl : k = a.size := by omega
      have hback := HRR.out.back cap
      rw [xorTo_len, ← size_list] at hback
      have hx := HX.out
      rw [← size_list] at hx
      have hL : (xorTo a.data.toList b.data.toList c.data.toList a.size).length ≤ 1000 := by rw [xorTo_len, ← size_list]; exact hs
      generalize xorTo a.data.toList b.data.toList c.data.toList a.size = l2 at *
      have HSZ : Hid ((⟨l2.toArray⟩ : ByteArray).size ≤ 2000) := by unfold Hid; rw [size_list]; simp; omega
      have hq : (((crc l2).toNat : Int) == bits .xor .u32 (bits .xor .u32 ((crc a.data.toList).toNat : Int) ((crc b.data.toList).toNat : Int)) ((crc c.data.toList).toNat : Int)) = true := by
        rw [bits_xor32, bits_xor32, hx]; simp
      clear hx hL
      go_wp2_with fail
      refine (crc_any _ _ HSZ.out).mono ?_
      rintro e w3 ⟨rfl, hb3⟩
      go_wp2_with fail
      refine (crc_any a _ (by omega)).mono ?_
      rintro e w4 ⟨rfl, hb4⟩
      go_wp2_with fail
      refine (crc_any b _ (by have := H1.out; omega)).mono ?_
      rintro e w5 ⟨rfl, hb5⟩
      go_wp2_with fail
      refine (crc_any c _ (by have := H2.out; omega)).mono ?_
      rintro e w6 ⟨rfl, hb6⟩
      go_wp2_with fail
      refine (awake_any _).mono ?_
      rintro e w7 ⟨rfl, hb7⟩
      go_wp2
      go_ret
      have q := hbr.size; have q3 := hb3.size; have q4 := hb4.size; have q5 := hb5.size; have q6 := hb6.size
      exact ⟨rfl, ((((hbr.trans (hb3.mono (by omega))).trans (hb4.mono (by omega))).trans (hb5.mono (by omega))).trans (hb6.mono (by omega))).trans (hb7.mono (by omega))⟩

set_option maxRecDepth 100000 in
set_option maxHeartbeats 400000 in
theorem sumsXors_walk (a : ByteArray) (ha : a.size ≤ maxLen) (b : ByteArray) (hb : b.size ≤ maxLen) (c : ByteArray) (hc : c.size ≤ maxLen) (w : World) :
    Calls Try.prog 8 #[.string a, .string b, .string c] w fun e w' => e = .returned (.bool true) ∧ Below w.heap.size w w' := by
  have b1 := ha; have b2 := hb; have b3 := hc
  unfold maxLen at b1 b2 b3
  by_cases hs : a.size ≤ 1000
  · by_cases h1 : a.size = b.size
    · by_cases h2 : a.size = c.size
      · exact xors_same a b c w hs h1 h2
      · have n1 : ((a.size : Int) != (b.size : Int)) = false := by simp [h1]
        have n2 : ((a.size : Int) != (c.size : Int)) = true := by simp; omega
        clear h1 h2
        go_enter Try.func8, Try.ntmps8
        go_wp2_with fail
        refine (short_yes a _ hs).mono ?_
        rintro e w0 ⟨rfl, rfl⟩
        go_wp2_with fail
        refine (awake_any _).mono ?_
        rintro e w1 ⟨rfl, hb1⟩
        go_wp2
        go_ret
        exact ⟨rfl, hb1⟩
    · have n1 : ((a.size : Int) != (b.size : Int)) = true := by simp; omega
      clear h1
      go_enter Try.func8, Try.ntmps8
      go_wp2_with fail
      refine (short_yes a _ hs).mono ?_
      rintro e w0 ⟨rfl, rfl⟩
      go_wp2_with fail
      refine (awake_any _).mono ?_
      rintro e w1 ⟨rfl, hb1⟩
      go_wp2
      go_ret
      exact ⟨rfl, hb1⟩
  · go_enter Try.func8, Try.ntmps8
    go_wp2_with fail
    refine (short_no a _ ha hs).mono ?_
    rintro e w0 ⟨rfl, rfl⟩
    go_wp2_with fail
    refine (awake_any _).mono ?_
    rintro e w1 ⟨rfl, hb1⟩
    go_wp2
    go_ret
    exact ⟨rfl, hb1⟩
end Go.Proofs.Ytohpaijpndphbaa.Sm
