/- The walks of the laws SumsBack, SumsChains, SumsXors. -/
import Derived.Test.YtohpaijpndphbaaSumsLaw1
import Derived.Test.YtohpaijpndphbaaSumsMath
namespace Go.Proofs.Ytohpaijpndphbaa.Sm
open Go.RowKit

theorem number_is (s : ByteArray) (w : World) (hs : s.size ≤ 2000) (n : Nat) (c : Int) (h : number s.data.toList = (n, c)) :
    Calls Try.prog 15 #[.string s] w fun e w' => e = .returned (.tuple #[.int .u64 n, .int .i64 c]) ∧ Below w.heap.size w w' := by
  have := number_any s w hs
  rw [h] at this
  exact this
theorem open_is (s : ByteArray) (w : World) (hs : s.size ≤ 2000) (b : List UInt8) (c : Int) (h : openOf s.data.toList = (b, c)) :
    Calls Try.prog 19 #[.string s] w fun e w' => e = .returned (.tuple #[.string ⟨b.toArray⟩, .int .i64 c]) ∧ Below w.heap.size w w' := by
  have := open_any s w hs
  rw [h] at this
  exact this
theorem str_eq (s : ByteArray) (l : List UInt8) (h : l = s.data.toList) : (l == s.toList) = true := by rw [toList_data, h]; simp

set_option maxRecDepth 100000 in
set_option maxHeartbeats 1000000 in
theorem back_nn (n : BitVec 64) (s : ByteArray) (w : World) (hs : s.size ≤ 1000) (c : Int) (h1 : number s.data.toList = (0, c)) (hc : c ≠ 0) (d : Int) (h2 : openOf s.data.toList = ([], d)) (hd : d ≠ 0) :
    Calls Try.prog 6 #[.int .u64 n.toNat, .string s] w fun e w' => e = .returned (.bool true) ∧ Below w.heap.size w w' := by
  have H1 := Lib.hid h1; clear h1
  have H2 := Lib.hid h2; clear h2
  have hc1 : ((c : Int) != 0) = true := by simp [hc]
  have hc2 : ((c : Int) == 0) = false := by simp [hc]
  clear hc
  have hd1 : ((d : Int) != 0) = true := by simp [hd]
  have hd2 : ((d : Int) == 0) = false := by simp [hd]
  clear hd
  have hself := str_eq s _ rfl
  have e1 := number_hex n
  have E1 := Lib.hid e1; clear e1
  have E2 := Lib.hid (open_seal s.data.toList)
  have HD : Hid ((⟨(digits n.toNat 16).toArray⟩ : ByteArray).size ≤ 2000) := by unfold Hid; rw [size_list]; simp [digits_len]
  have HS : Hid ((⟨(sealOf s.data.toList).toArray⟩ : ByteArray).size ≤ 2000) := by unfold Hid; rw [size_list]; simp [seal_len]; omega
  go_enter Try.func6, Try.ntmps6
  go_wp2_with fail
  refine (short_yes s _ hs).mono ?_
  rintro e w10 ⟨rfl, rfl⟩
  go_wp2_with fail
  refine (hex_any n _).mono ?_
  rintro e w11 ⟨rfl, hb11⟩
  go_wp2_with fail
  refine (number_is _ _ HD.out n.toNat 0 E1.out).mono ?_
  rintro e w12 ⟨rfl, hb12⟩
  go_wp2_with fail
  refine (number_is s _ (by omega) 0 c H1.out).mono ?_
  rintro e w13 ⟨rfl, hb13⟩
  go_wp2_with fail
  refine (seal_any s _ (by omega)).mono ?_
  rintro e w14 ⟨rfl, hb14⟩
  go_wp2_with fail
  refine (open_is _ _ HS.out s.data.toList 0 E2.out).mono ?_
  rintro e w15 ⟨rfl, hb15⟩
  go_wp2_with fail
  refine (open_is s _ (by omega) [] d H2.out).mono ?_
  rintro e w16 ⟨rfl, hb16⟩
  go_wp2_with fail
  refine (awake_any _).mono ?_
  rintro e w17 ⟨rfl, hb17⟩
  go_wp2
  go_ret
  have q11 := hb11.size; have q12 := hb12.size; have q13 := hb13.size; have q14 := hb14.size; have q15 := hb15.size; have q16 := hb16.size; have q17 := hb17.size
  exact ⟨rfl, ((((((hb11).trans (hb12.mono (by omega))).trans (hb13.mono (by omega))).trans (hb14.mono (by omega))).trans (hb15.mono (by omega))).trans (hb16.mono (by omega))).trans (hb17.mono (by omega))⟩

set_option maxRecDepth 100000 in
set_option maxHeartbeats 1000000 in
theorem back_ny (n : BitVec 64) (s : ByteArray) (w : World) (hs : s.size ≤ 1000) (c : Int) (h1 : number s.data.toList = (0, c)) (hc : c ≠ 0) (b : List UInt8) (h2 : openOf s.data.toList = (b, 0)) (hb : sealOf b = s.data.toList) (hl : b.length ≤ s.data.toList.length) :
    Calls Try.prog 6 #[.int .u64 n.toNat, .string s] w fun e w' => e = .returned (.bool true) ∧ Below w.heap.size w w' := by
  have H1 := Lib.hid h1; clear h1
  have H2 := Lib.hid h2; clear h2
  have hc1 : ((c : Int) != 0) = true := by simp [hc]
  have hc2 : ((c : Int) == 0) = false := by simp [hc]
  clear hc
  have hb1 := str_eq s _ hb
  have HL : Hid ((⟨b.toArray⟩ : ByteArray).size ≤ 2000) := by unfold Hid; rw [size_list]; rw [← size_list] at hl; simp; omega
  clear hb hl
  have hself := str_eq s _ rfl
  have e1 := number_hex n
  have E1 := Lib.hid e1; clear e1
  have E2 := Lib.hid (open_seal s.data.toList)
  have HD : Hid ((⟨(digits n.toNat 16).toArray⟩ : ByteArray).size ≤ 2000) := by unfold Hid; rw [size_list]; simp [digits_len]
  have HS : Hid ((⟨(sealOf s.data.toList).toArray⟩ : ByteArray).size ≤ 2000) := by unfold Hid; rw [size_list]; simp [seal_len]; omega
  go_enter Try.func6, Try.ntmps6
  go_wp2_with fail
  refine (short_yes s _ hs).mono ?_
  rintro e w10 ⟨rfl, rfl⟩
  go_wp2_with fail
  refine (hex_any n _).mono ?_
  rintro e w11 ⟨rfl, hb11⟩
  go_wp2_with fail
  refine (number_is _ _ HD.out n.toNat 0 E1.out).mono ?_
  rintro e w12 ⟨rfl, hb12⟩
  go_wp2_with fail
  refine (number_is s _ (by omega) 0 c H1.out).mono ?_
  rintro e w13 ⟨rfl, hb13⟩
  go_wp2_with fail
  refine (seal_any s _ (by omega)).mono ?_
  rintro e w14 ⟨rfl, hb14⟩
  go_wp2_with fail
  refine (open_is _ _ HS.out s.data.toList 0 E2.out).mono ?_
  rintro e w15 ⟨rfl, hb15⟩
  go_wp2_with fail
  refine (open_is s _ (by omega) b 0 H2.out).mono ?_
  rintro e w16 ⟨rfl, hb16⟩
  go_wp2_with fail
  refine (seal_any ⟨b.toArray⟩ _ HL.out).mono ?_
  rintro e w17 ⟨rfl, hb17⟩
  go_wp2_with fail
  refine (awake_any _).mono ?_
  rintro e w18 ⟨rfl, hb18⟩
  go_wp2
  go_ret
  have q11 := hb11.size; have q12 := hb12.size; have q13 := hb13.size; have q14 := hb14.size; have q15 := hb15.size; have q16 := hb16.size; have q17 := hb17.size; have q18 := hb18.size
  exact ⟨rfl, (((((((hb11).trans (hb12.mono (by omega))).trans (hb13.mono (by omega))).trans (hb14.mono (by omega))).trans (hb15.mono (by omega))).trans (hb16.mono (by omega))).trans (hb17.mono (by omega))).trans (hb18.mono (by omega))⟩

set_option maxRecDepth 100000 in
set_option maxHeartbeats 1000000 in
theorem back_yn (n : BitVec 64) (s : ByteArray) (w : World) (hs : s.size ≤ 1000) (k : BitVec 64) (h1 : number s.data.toList = (k.toNat, 0)) (hk : digits k.toNat 16 = s.data.toList) (d : Int) (h2 : openOf s.data.toList = ([], d)) (hd : d ≠ 0) :
    Calls Try.prog 6 #[.int .u64 n.toNat, .string s] w fun e w' => e = .returned (.bool true) ∧ Below w.heap.size w w' := by
  have H1 := Lib.hid h1; clear h1
  have H2 := Lib.hid h2; clear h2
  have hk1 := str_eq s _ hk
  clear hk
  have hd1 : ((d : Int) != 0) = true := by simp [hd]
  have hd2 : ((d : Int) == 0) = false := by simp [hd]
  clear hd
  have hself := str_eq s _ rfl
  have e1 := number_hex n
  have E1 := Lib.hid e1; clear e1
  have E2 := Lib.hid (open_seal s.data.toList)
  have HD : Hid ((⟨(digits n.toNat 16).toArray⟩ : ByteArray).size ≤ 2000) := by unfold Hid; rw [size_list]; simp [digits_len]
  have HS : Hid ((⟨(sealOf s.data.toList).toArray⟩ : ByteArray).size ≤ 2000) := by unfold Hid; rw [size_list]; simp [seal_len]; omega
  go_enter Try.func6, Try.ntmps6
  go_wp2_with fail
  refine (short_yes s _ hs).mono ?_
  rintro e w10 ⟨rfl, rfl⟩
  go_wp2_with fail
  refine (hex_any n _).mono ?_
  rintro e w11 ⟨rfl, hb11⟩
  go_wp2_with fail
  refine (number_is _ _ HD.out n.toNat 0 E1.out).mono ?_
  rintro e w12 ⟨rfl, hb12⟩
  go_wp2_with fail
  refine (number_is s _ (by omega) k.toNat 0 H1.out).mono ?_
  rintro e w13 ⟨rfl, hb13⟩
  go_wp2_with fail
  refine (seal_any s _ (by omega)).mono ?_
  rintro e w14 ⟨rfl, hb14⟩
  go_wp2_with fail
  refine (open_is _ _ HS.out s.data.toList 0 E2.out).mono ?_
  rintro e w15 ⟨rfl, hb15⟩
  go_wp2_with fail
  refine (open_is s _ (by omega) [] d H2.out).mono ?_
  rintro e w16 ⟨rfl, hb16⟩
  go_wp2_with fail
  refine (hex_any k _).mono ?_
  rintro e w17 ⟨rfl, hb17⟩
  go_wp2_with fail
  refine (awake_any _).mono ?_
  rintro e w18 ⟨rfl, hb18⟩
  go_wp2
  go_ret
  have q11 := hb11.size; have q12 := hb12.size; have q13 := hb13.size; have q14 := hb14.size; have q15 := hb15.size; have q16 := hb16.size; have q17 := hb17.size; have q18 := hb18.size
  exact ⟨rfl, (((((((hb11).trans (hb12.mono (by omega))).trans (hb13.mono (by omega))).trans (hb14.mono (by omega))).trans (hb15.mono (by omega))).trans (hb16.mono (by omega))).trans (hb17.mono (by omega))).trans (hb18.mono (by omega))⟩

set_option maxRecDepth 100000 in
set_option maxHeartbeats 1000000 in
theorem back_yy (n : BitVec 64) (s : ByteArray) (w : World) (hs : s.size ≤ 1000) (k : BitVec 64) (h1 : number s.data.toList = (k.toNat, 0)) (hk : digits k.toNat 16 = s.data.toList) (b : List UInt8) (h2 : openOf s.data.toList = (b, 0)) (hb : sealOf b = s.data.toList) (hl : b.length ≤ s.data.toList.length) :
    Calls Try.prog 6 #[.int .u64 n.toNat, .string s] w fun e w' => e = .returned (.bool true) ∧ Below w.heap.size w w' := by
  have H1 := Lib.hid h1; clear h1
  have H2 := Lib.hid h2; clear h2
  have hk1 := str_eq s _ hk
  clear hk
  have hb1 := str_eq s _ hb
  have HL : Hid ((⟨b.toArray⟩ : ByteArray).size ≤ 2000) := by unfold Hid; rw [size_list]; rw [← size_list] at hl; simp; omega
  clear hb hl
  have hself := str_eq s _ rfl
  have e1 := number_hex n
  have E1 := Lib.hid e1; clear e1
  have E2 := Lib.hid (open_seal s.data.toList)
  have HD : Hid ((⟨(digits n.toNat 16).toArray⟩ : ByteArray).size ≤ 2000) := by unfold Hid; rw [size_list]; simp [digits_len]
  have HS : Hid ((⟨(sealOf s.data.toList).toArray⟩ : ByteArray).size ≤ 2000) := by unfold Hid; rw [size_list]; simp [seal_len]; omega
  go_enter Try.func6, Try.ntmps6
  go_wp2_with fail
  refine (short_yes s _ hs).mono ?_
  rintro e w10 ⟨rfl, rfl⟩
  go_wp2_with fail
  refine (hex_any n _).mono ?_
  rintro e w11 ⟨rfl, hb11⟩
  go_wp2_with fail
  refine (number_is _ _ HD.out n.toNat 0 E1.out).mono ?_
  rintro e w12 ⟨rfl, hb12⟩
  go_wp2_with fail
  refine (number_is s _ (by omega) k.toNat 0 H1.out).mono ?_
  rintro e w13 ⟨rfl, hb13⟩
  go_wp2_with fail
  refine (seal_any s _ (by omega)).mono ?_
  rintro e w14 ⟨rfl, hb14⟩
  go_wp2_with fail
  refine (open_is _ _ HS.out s.data.toList 0 E2.out).mono ?_
  rintro e w15 ⟨rfl, hb15⟩
  go_wp2_with fail
  refine (open_is s _ (by omega) b 0 H2.out).mono ?_
  rintro e w16 ⟨rfl, hb16⟩
  go_wp2_with fail
  refine (hex_any k _).mono ?_
  rintro e w17 ⟨rfl, hb17⟩
  go_wp2_with fail
  refine (seal_any ⟨b.toArray⟩ _ HL.out).mono ?_
  rintro e w18 ⟨rfl, hb18⟩
  go_wp2_with fail
  refine (awake_any _).mono ?_
  rintro e w19 ⟨rfl, hb19⟩
  go_wp2
  go_ret
  have q11 := hb11.size; have q12 := hb12.size; have q13 := hb13.size; have q14 := hb14.size; have q15 := hb15.size; have q16 := hb16.size; have q17 := hb17.size; have q18 := hb18.size; have q19 := hb19.size
  exact ⟨rfl, ((((((((hb11).trans (hb12.mono (by omega))).trans (hb13.mono (by omega))).trans (hb14.mono (by omega))).trans (hb15.mono (by omega))).trans (hb16.mono (by omega))).trans (hb17.mono (by omega))).trans (hb18.mono (by omega))).trans (hb19.mono (by omega))⟩


theorem xor_u8 (a b : UInt8) : bits .xor .u8 (a.toNat : Int) (b.toNat : Int) = ((a ^^^ b).toNat : Int) := by
  rw [u8_xor_nat _ _ a.toNat_lt b.toNat_lt, UInt8.toNat_xor]
theorem u8_of (a : Int) (h : (Lit.int .u8 a).wf = true) : ∃ n : UInt8, a = (n.toNat : Int) := by
  have hb := bounds_u8 h
  exact ⟨UInt8.ofNat a.toNat, by rw [UInt8.toNat_ofNat', Nat.mod_eq_of_lt (by omega)]; omega⟩
theorem row_of (w1 : World) (g : Nat) (s : ByteArray) (h1 : ∀ j (hj : j < s.size), w1.cell? ⟨g, j, none⟩ = some (.int .u8 (s[j].toNat : Int))) (h2 : ∀ j, j < s.size → w1.frozen? ⟨g, j, none⟩ = false) :
    Row w1 g (s.data.toList.map fun b => (b.toNat : Int)) :=
  ⟨fun j hj => by
    have hj' : j < s.size := by rw [List.length_map, ← size_list] at hj; exact hj
    rw [h1 j hj']; simp; rfl, fun j hj => h2 j (by rw [List.length_map, ← size_list] at hj; exact hj)⟩

def lastXor (l : List UInt8) (x : UInt8) : List UInt8 := l.set (l.length - 1) (l.getD (l.length - 1) 0 ^^^ x)
theorem lastXor_len (l : List UInt8) (x : UInt8) : (lastXor l x).length = l.length := List.length_set
theorem hash_last (l : List UInt8) (x : UInt8) (hl : 0 < l.length) : hash (lastXor l x) = hash l ↔ x = 0 := by
  have hne : l ≠ [] := by intro e; subst e; simp at hl
  obtain ⟨p, c, rfl⟩ : ∃ p c, l = p ++ [c] := ⟨l.dropLast, l.getLast hne, (List.dropLast_concat_getLast hne).symm⟩
  have e1 : (p ++ [c]).length - 1 = p.length := by simp
  have e2 : (p ++ [c]).getD p.length 0 = c := by simp
  unfold lastXor
  rw [e1, e2, List.set_append_right _ _ (Nat.le_refl _), Nat.sub_self, List.set_cons_zero, hash_snoc, hash_snoc]
  constructor
  · intro h
    have := hashByte_inj _ _ _ h
    have h2 := congrArg (c ^^^ ·) this
    simpa [← UInt8.xor_assoc] using h2
  · intro h; subst h; simp
theorem lastXor_map (s : ByteArray) (x : UInt8) (hlt : s.size - 1 < s.size) : (s.data.toList.map fun b => (b.toNat : Int)).set (s.size - 1) (((s[s.size - 1]'hlt ^^^ x).toNat : Nat) : Int) = (lastXor s.data.toList x).map fun b => (b.toNat : Int) := by
  unfold lastXor
  rw [List.map_set]
  have e : s.data.toList.getD (s.data.toList.length - 1) 0 = s[s.size - 1]'hlt := by
    rw [List.getD_eq_getElem?_getD, List.getElem?_eq_getElem (by rw [← size_list]; exact hlt)]; rfl
  rw [e]; rfl

set_option maxRecDepth 100000 in
set_option maxHeartbeats 1000000 in
theorem chains_some (n : BitVec 64) (s : ByteArray) (x : UInt8) (w : World) (hs : s.size ≤ 1000) (hp : 0 < s.size) :
    Calls Try.prog 10 #[.int .u64 n.toNat, .string s, .int .u8 x.toNat] w fun e w' => e = .returned (.bool true) ∧ Below w.heap.size w w' := by
  obtain ⟨cap, w1, hconv, hcap, hb, hz, hcell, hfr⟩ := conv_bytes w s
  have hrow := row_of w1 _ s hcell hfr
  have hlt : s.size - 1 < s.size := by omega
  have hc := hcell (s.size - 1) hlt
  have hf := hfr (s.size - 1) hlt
  have hrow2 := hrow.put (s.size - 1) (((s[s.size - 1]'hlt ^^^ x).toNat : Nat) : Int)
  have hxr := xor_u8 (s[s.size - 1]'hlt) x
  have hll : 0 < s.data.toList.length := by rw [← size_list]; exact hp
  have hlast := hash_last s.data.toList x hll
  rw [lastXor_map s x hlt] at hrow2
  have hback := hrow2.back cap
  rw [lastXor_len, ← size_list] at hback
  have HLS := Lib.hid (lastXor_len s.data.toList x)
  generalize lastXor s.data.toList x = l2 at *
  generalize (s[s.size - 1]'hlt) = c at *
  rw [← hxr] at hback
  have HSZ : Hid ((⟨l2.toArray⟩ : ByteArray).size ≤ 2000) := by unfold Hid; rw [size_list]; simp; rw [HLS.out, ← size_list]; omega
  have hlen : (bytes8 n.toNat).length + s.size ≤ 2000 := by rw [bytes8_len]; omega
  have i1 : (0 : Int) ≤ (s.size : Int) - 1 := by omega
  have i2 : (s.size : Int) - 1 < (s.size : Int) := by omega
  have i3 : ((s.size : Int) - 1).toNat = s.size - 1 := by omega
  have hb2 : (((hash l2).toNat : Int) == ((hash s.data.toList).toNat : Int)) = ((x.toNat : Int) == 0) := by
    rw [Bool.eq_iff_iff]
    simp only [beq_iff_eq]
    constructor
    · intro h
      have := hlast.1 (BitVec.eq_of_toNat_eq (by omega))
      subst this; rfl
    · intro h
      have : x = 0 := UInt8.toNat_inj.1 (by show x.toNat = 0; omega)
      rw [hlast.2 this]
  clear hlast hcell hfr hrow hrow2 hxr hll
  have hp' : (0 : Int) < (s.size : Int) := by omega
  clear hz
  go_enter Try.func10, Try.ntmps10
  go_wp2_with fail
  refine (short_yes s _ hs).mono ?_
  rintro e w2 ⟨rfl, rfl⟩
  go_wp2_with fail
  refine (hash_any _ _ HSZ.out).mono ?_
  rintro e w3 ⟨rfl, hb3⟩
  go_wp2_with fail
  refine (hash_any s _ (by omega)).mono ?_
  rintro e w4 ⟨rfl, hb4⟩
  go_wp2_with fail
  refine (chain_any n s _ (by omega)).mono ?_
  rintro e w5 ⟨rfl, hb5⟩
  go_wp2_with fail
  refine (bytesOf_any n _).mono ?_
  rintro e w6 ⟨rfl, hb6⟩
  go_wp2_with fail
  refine (hash_any _ _ (by rw [app_size]; omega)).mono ?_
  rintro e w7 ⟨rfl, hb7⟩
  go_wp2_with fail
  refine (awake_any _).mono ?_
  rintro e w8 ⟨rfl, hb8⟩
  go_wp2
  go_ret
  have hb' := hb.setCell (p := ⟨w.heap.size, s.size - 1, none⟩) (Nat.le_refl _) (.int .u8 (bits .xor .u8 c.toNat x.toNat))
  have q := hb'.size; have q3 := hb3.size; have q4 := hb4.size; have q5 := hb5.size; have q6 := hb6.size; have q7 := hb7.size
  exact ⟨rfl, (((((hb'.trans (hb3.mono (by omega))).trans (hb4.mono (by omega))).trans (hb5.mono (by omega))).trans (hb6.mono (by omega))).trans (hb7.mono (by omega))).trans (hb8.mono (by omega))⟩

set_option maxRecDepth 100000 in
set_option maxHeartbeats 1000000 in
theorem chains_none (n : BitVec 64) (s : ByteArray) (x : UInt8) (w : World) (hp : s.size = 0) :
    Calls Try.prog 10 #[.int .u64 n.toNat, .string s, .int .u8 x.toNat] w fun e w' => e = .returned (.bool true) ∧ Below w.heap.size w w' := by
  obtain ⟨cap, w1, hconv, hcap, hb, hz, hcell, hfr⟩ := conv_bytes w s
  clear hcell hfr hz
  have hlen : (bytes8 n.toNat).length + s.size ≤ 2000 := by rw [bytes8_len]; omega
  have hs : s.size ≤ 1000 := by omega
  have hp' : decide (0 < s.size) = false := by rw [hp]; rfl
  have HP := Lib.hid hp; clear hp
  go_enter Try.func10, Try.ntmps10
  go_wp2_with fail
  refine (short_yes s _ hs).mono ?_
  rintro e w2 ⟨rfl, rfl⟩
  go_wp2_with fail
  refine (chain_any n s _ (by omega)).mono ?_
  rintro e w5 ⟨rfl, hb5⟩
  go_wp2_with fail
  refine (bytesOf_any n _).mono ?_
  rintro e w6 ⟨rfl, hb6⟩
  go_wp2_with fail
  refine (hash_any _ _ (by rw [app_size]; omega)).mono ?_
  rintro e w7 ⟨rfl, hb7⟩
  go_wp2_with fail
  refine (awake_any _).mono ?_
  rintro e w8 ⟨rfl, hb8⟩
  go_wp2
  go_ret
  have q := hb.size; have q5 := hb5.size; have q6 := hb6.size; have q7 := hb7.size
  exact ⟨rfl, (((hb.trans (hb5.mono (by omega))).trans (hb6.mono (by omega))).trans (hb7.mono (by omega))).trans (hb8.mono (by omega))⟩

set_option maxRecDepth 100000 in
set_option maxHeartbeats 400000 in
theorem sumsChains_walk (a : Int) (ha : (Lit.int .u64 a).wf = true) (s : ByteArray) (hm : s.size ≤ maxLen) (y : Int) (hy : (Lit.int .u8 y).wf = true) (w : World) :
    Calls Try.prog 10 #[.int .u64 a, .string s, .int .u8 y] w fun e w' => e = .returned (.bool true) ∧ Below w.heap.size w w' := by
  obtain ⟨n, rfl⟩ := u64_of a ha
  obtain ⟨x, rfl⟩ := u8_of y hy
  by_cases hs : s.size ≤ 1000
  · by_cases hp : s.size = 0
    · exact chains_none n s x w hp
    · exact chains_some n s x w hs (by omega)
  · go_enter Try.func10, Try.ntmps10
    go_wp2_with fail
    refine (short_no s _ hm hs).mono ?_
    rintro e w0 ⟨rfl, rfl⟩
    go_wp2_with fail
    refine (awake_any _).mono ?_
    rintro e w1 ⟨rfl, hb1⟩
    go_wp2
    go_ret
    exact ⟨rfl, hb1⟩

set_option maxRecDepth 100000 in
set_option maxHeartbeats 400000 in
theorem sumsBack_walk (a : Int) (ha : (Lit.int .u64 a).wf = true) (s : ByteArray) (hm : s.size ≤ maxLen) (w : World) :
    Calls Try.prog 6 #[.int .u64 a, .string s] w fun e w' => e = .returned (.bool true) ∧ Below w.heap.size w w' := by
  obtain ⟨n, rfl⟩ := u64_of a ha
  by_cases hs : s.size ≤ 1000
  · rcases number_cases s.data.toList with ⟨c, h1, hc⟩ | ⟨k, h1, hk⟩ <;> rcases open_cases s.data.toList with ⟨d, h2, hd⟩ | ⟨b, h2, hb, hl⟩
    · exact back_nn n s w hs c h1 hc d h2 hd
    · exact back_ny n s w hs c h1 hc b h2 hb hl
    · exact back_yn n s w hs k h1 hk d h2 hd
    · exact back_yy n s w hs k h1 hk b h2 hb hl
  · go_enter Try.func6, Try.ntmps6
    go_wp2_with fail
    refine (short_no s _ hm hs).mono ?_
    rintro e w0 ⟨rfl, rfl⟩
    go_wp2_with fail
    refine (awake_any _).mono ?_
    rintro e w1 ⟨rfl, hb1⟩
    go_wp2
    go_ret
    exact ⟨rfl, hb1⟩
end Go.Proofs.Ytohpaijpndphbaa.Sm
