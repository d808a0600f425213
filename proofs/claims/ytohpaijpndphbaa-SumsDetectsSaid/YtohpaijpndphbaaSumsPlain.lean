/- Plain Lean functions for package sums (checksums, hashes, digits), no program in sight. -/
import Derived.WalkKit
namespace Go.Proofs.Ytohpaijpndphbaa.Sm

def crcBit (r : BitVec 32) : BitVec 32 := if r.toNat % 2 = 1 then (r >>> 1) ^^^ 0xedb88320#32 else r >>> 1
def crcBits : Nat → BitVec 32 → BitVec 32
  | 0, r => r
  | k + 1, r => crcBit (crcBits k r)
def crcByte (r : BitVec 32) (c : UInt8) : BitVec 32 := crcBits 8 (r ^^^ BitVec.ofNat 32 c.toNat)
def crcReg (l : List UInt8) : BitVec 32 := l.foldl crcByte 0xffffffff#32
def crc (l : List UInt8) : BitVec 32 := ~~~ crcReg l

def hashByte (n : BitVec 64) (c : UInt8) : BitVec 64 := (n ^^^ BitVec.ofNat 64 c.toNat) * 0x100000001b3#64
def hash (l : List UInt8) : BitVec 64 := l.foldl hashByte 0xcbf29ce484222325#64

def hexDigit (d : Nat) : UInt8 := UInt8.ofNat (if d < 10 then 48 + d else 87 + d)
def digits (n : Nat) (many : Nat) : List UInt8 := (List.range many).map fun i => hexDigit (n / 16 ^ (many - 1 - i) % 16)
def bytes8 (n : Nat) : List UInt8 := (List.range 8).map fun i => UInt8.ofNat (n / 256 ^ (7 - i))

def checkOf (l : List UInt8) : List UInt8 := digits (crc l).toNat 8
def hexVal (c : Nat) : Option Nat := if 48 ≤ c ∧ c ≤ 57 then some (c - 48) else if 97 ≤ c ∧ c ≤ 102 then some (c - 87) else none
def parse : List UInt8 → Nat → Option Nat
  | [], n => some n
  | c :: l, n => match hexVal c.toNat with
    | none => none
    | some d => parse l (n * 16 + d)
def number (l : List UInt8) : Nat × Int := if l.length < 16 then (0, 3) else if 16 < l.length then (0, 4) else match parse l 0 with | none => (0, 5) | some n => (n, 0)
def sealOf (l : List UInt8) : List UInt8 := l ++ checkOf l
def openOf (l : List UInt8) : List UInt8 × Int := if l.length < 8 then ([], 3) else if l.drop (l.length - 8) = checkOf (l.take (l.length - 8)) then (l.take (l.length - 8), 0) else ([], 16)

theorem take_snoc (s : ByteArray) (k : Nat) (h : k < s.size) : s.data.toList.take (k + 1) = s.data.toList.take k ++ [s[k]] := by
  rw [List.take_succ_eq_append_getElem (by simpa using h)]; rfl

theorem crcReg_snoc (l : List UInt8) (c : UInt8) : crcReg (l ++ [c]) = crcByte (crcReg l) c := by simp [crcReg]
theorem hash_snoc (l : List UInt8) (c : UInt8) : hash (l ++ [c]) = hashByte (hash l) c := by simp [hash]

theorem bits_xor32 (x y : BitVec 32) : bits .xor .u32 (x.toNat : Int) (y.toNat : Int) = ((x ^^^ y).toNat : Int) := by
  rw [u32_xor_nat _ _ x.isLt y.isLt, BitVec.toNat_xor]
theorem bits_xor64 (x y : BitVec 64) : bits .xor .u64 (x.toNat : Int) (y.toNat : Int) = ((x ^^^ y).toNat : Int) := by
  rw [u64_xor_nat _ _ x.isLt y.isLt, BitVec.toNat_xor]
theorem byte32 (c : UInt8) : (BitVec.ofNat 32 c.toNat).toNat = c.toNat := by
  have := c.toNat_lt
  rw [BitVec.toNat_ofNat]; omega
theorem byte64 (c : UInt8) : (BitVec.ofNat 64 c.toNat).toNat = c.toNat := by
  have := c.toNat_lt
  rw [BitVec.toNat_ofNat]; omega
theorem xor_byte32 (x : BitVec 32) (c : UInt8) : bits .xor .u32 (x.toNat : Int) (c.toNat : Int) = ((x ^^^ BitVec.ofNat 32 c.toNat).toNat : Int) := by
  rw [← bits_xor32, byte32]
theorem xor_byte64 (x : BitVec 64) (c : UInt8) : bits .xor .u64 (x.toNat : Int) (c.toNat : Int) = ((x ^^^ BitVec.ofNat 64 c.toNat).toNat : Int) := by
  rw [← bits_xor64, byte64]
theorem half32 (x : BitVec 32) : ((x.toNat : Int) / (2 : Int) : Int) = (((x >>> 1).toNat : Nat) : Int) := by
  simp [BitVec.toNat_ushiftRight, Nat.shiftRight_succ]
theorem low32 (x : BitVec 32) : bits .and .u32 (x.toNat : Int) 1 = ((x.toNat % 2 : Nat) : Int) := by
  have := u32_and_nat x.toNat 1 x.isLt (by omega)
  rw [nat_mask1] at this
  exact this
theorem crc_one (x : BitVec 32) (h : (bits .and .u32 (x.toNat : Int) 1 == 1) = true) : bits .xor .u32 ((x.toNat : Int) / 2) 3988292384 = ((crcBit x).toNat : Int) := by
  rw [low32] at h
  have h' : x.toNat % 2 = 1 := by simp at h; omega
  unfold crcBit
  rw [if_pos h', half32, ← bits_xor32]
  rfl
theorem crc_zero (x : BitVec 32) (h : (bits .and .u32 (x.toNat : Int) 1 == 1) = false) : ((x.toNat : Int) / 2) = ((crcBit x).toNat : Int) := by
  rw [low32] at h
  have h' : ¬ x.toNat % 2 = 1 := by simp at h; omega
  unfold crcBit
  rw [if_neg h', half32]

theorem not32 (x : BitVec 32) : bits .xor .u32 IntKind.u32.max (x.toNat : Int) = ((~~~ x).toNat : Int) := by
  have h : IntKind.u32.max = ((BitVec.allOnes 32).toNat : Int) := by decide
  rw [h, bits_xor32, BitVec.allOnes_xor]
theorem wrap_byte64 (c : UInt8) : IntKind.u64.wrap (c.toNat : Int) = (c.toNat : Int) := by
  have := c.toNat_lt
  simp [IntKind.wrap, IntKind.bits, IntKind.signed]; omega
theorem wrap_nat64 (n : Nat) : IntKind.u64.wrap (n : Int) = ((n % 18446744073709551616 : Nat) : Int) := by
  simp [IntKind.wrap, IntKind.bits, IntKind.signed]
theorem hash_step (n : BitVec 64) (c : UInt8) : IntKind.u64.wrap (bits .xor .u64 (n.toNat : Int) (c.toNat : Int) * 1099511628211) = ((hashByte n c).toNat : Int) := by
  rw [xor_byte64, hashByte, BitVec.toNat_mul]
  generalize (n ^^^ BitVec.ofNat 64 c.toNat).toNat = x
  rw [show ((x : Int) * 1099511628211) = ((x * 1099511628211 : Nat) : Int) from by omega, wrap_nat64]
  rfl
theorem nib (x k : Nat) (hx : x < 2 ^ 64) (hk : k < 16) : bits .and .u64 ((x : Int) / 2 ^ (60 - 4 * k)) 15 = ((x / 16 ^ (15 - k) % 16 : Nat) : Int) := by
  have e1 : (16 : Nat) ^ (15 - k) = 2 ^ (60 - 4 * k) := by
    rw [show (16 : Nat) = 2 ^ 4 from rfl, ← Nat.pow_mul, show 4 * (15 - k) = 60 - 4 * k from by omega]
  have e2 : ((x : Int) / 2 ^ (60 - 4 * k)) = ((x / 16 ^ (15 - k) : Nat) : Int) := by
    rw [e1]; push_cast; rfl
  rw [e2]
  have hl : x / 16 ^ (15 - k) < 18446744073709551616 := Nat.lt_of_le_of_lt (Nat.div_le_self _ _) hx
  have := u64_and_nat (x / 16 ^ (15 - k)) 15 hl (by omega)
  rw [nat_mask4] at this
  exact this
theorem tbl_at : ∀ d, (hd : d < 16) → (({ data := #[48, 49, 50, 51, 52, 53, 54, 55, 56, 57, 97, 98, 99, 100, 101, 102] } : ByteArray)[d]'hd).toNat = (hexDigit d).toNat := by decide
theorem digits_get (n many i : Nat) (h : i < many) : (digits n many)[i]'(by simp [digits]; omega) = hexDigit (n / 16 ^ (many - 1 - i) % 16) := by simp [digits]
theorem digits_len (n many : Nat) : (digits n many).length = many := by simp [digits]
theorem bytes8_len (n : Nat) : (bytes8 n).length = 8 := by simp [bytes8]
theorem bytes8_get (n i : Nat) (h : i < 8) : (bytes8 n)[i]'(by simp [bytes8]; omega) = UInt8.ofNat (n / 256 ^ (7 - i)) := by simp [bytes8]
theorem take_bytes8 (n k : Nat) (h : k < 8) : (bytes8 n).take (k + 1) = (bytes8 n).take k ++ [UInt8.ofNat (n / 256 ^ (7 - k))] := by
  rw [List.take_succ_eq_append_getElem (by rw [bytes8_len]; exact h), bytes8_get n k h]
theorem take_digits (n many k : Nat) (h : k < many) : (digits n many).take (k + 1) = (digits n many).take k ++ [hexDigit (n / 16 ^ (many - 1 - k) % 16)] := by
  rw [List.take_succ_eq_append_getElem (by rw [digits_len]; exact h), digits_get n many k h]
theorem byte_at (x k : Nat) (hk : k < 8) : ((x : Int) / 2 ^ (56 - 8 * k) % 256) = ((UInt8.ofNat (x / 256 ^ (7 - k))).toNat : Int) := by
  have e1 : (256 : Nat) ^ (7 - k) = 2 ^ (56 - 8 * k) := by
    rw [show (256 : Nat) = 2 ^ 8 from rfl, ← Nat.pow_mul, show 8 * (7 - k) = 56 - 8 * k from by omega]
  have e2 : ((x : Int) / 2 ^ (56 - 8 * k)) = ((x / 256 ^ (7 - k) : Nat) : Int) := by
    rw [e1]; push_cast; rfl
  rw [e2, UInt8.toNat_ofNat']
  omega
theorem nib2 (x k : Nat) : ((x : Int) / 2 ^ (4 * k)).tmod 16 = ((x / 16 ^ k % 16 : Nat) : Int) := by
  have e1 : (16 : Nat) ^ k = 2 ^ (4 * k) := by
    rw [show (16 : Nat) = 2 ^ 4 from rfl, ← Nat.pow_mul]
  have e2 : ((x : Int) / 2 ^ (4 * k)) = ((x / 16 ^ k : Nat) : Int) := by
    rw [e1]; push_cast; rfl
  rw [e2]
  generalize x / 16 ^ k = y
  rw [Int.tmod_eq_emod_of_nonneg (by omega)]; omega
theorem app_data (a b : ByteArray) : (a ++ b).data.toList = a.data.toList ++ b.data.toList := by
  rw [ByteArray.data_append]; simp
theorem app_size (l : List UInt8) (b : ByteArray) : ((⟨l.toArray⟩ : ByteArray) ++ b).size = l.length + b.size := by
  rw [ByteArray.size_append]; rfl
theorem ba_eq {a b : ByteArray} (h : a.data.toList = b.data.toList) : a = b := by
  cases a; cases b; simp at h; rw [h]
theorem size_list (s : ByteArray) : s.size = s.data.toList.length := rfl
theorem ext_take (s : ByteArray) (k : Nat) : (s.extract 0 k).data.toList = s.data.toList.take k := by
  simp [ByteArray.data_extract]
theorem ext_drop (s : ByteArray) (k : Nat) : (s.extract k s.size).data.toList = s.data.toList.drop k := by
  have h : (s.extract k s.size).data = s.data.extract k s.data.size := by rw [ByteArray.data_extract]; rfl
  rw [h]; simp
  exact List.take_of_length_le (by rw [List.length_drop, ← size_list]; omega)
theorem hex_tail (x : BitVec 32) : (digits x.toNat 16).drop 8 = digits x.toNat 8 := by
  apply List.ext_getElem
  · simp [digits]
  · intro i h1 h2
    have hi : i < 8 := by simpa [digits] using h2
    simp only [digits, List.getElem_drop, List.getElem_map, List.getElem_range]
    rw [show 16 - 1 - (8 + i) = 8 - 1 - i from by omega]
theorem ext_size_le (s : ByteArray) (a b : Nat) : (s.extract a b).size ≤ s.size := by
  rw [ByteArray.size_extract]; omega
theorem toList_data (s : ByteArray) : s.toList = s.data.toList := Go.ByteArray.toList_eq s
theorem open_yes (s : ByteArray) (h8 : 8 ≤ s.size) (h : (!(s.extract ((s.size : Int) - 8).toNat s.size).toList == checkOf (s.data.toList.take ((s.size : Int) - 8).toNat)) = false) : openOf s.data.toList = (s.data.toList.take (s.size - 8), 0) := by
  have e : ((s.size : Int) - 8).toNat = s.size - 8 := by omega
  rw [e, toList_data, ext_drop] at h
  unfold openOf
  rw [if_neg (by rw [← size_list]; omega), ← size_list, if_pos (by simpa using h)]
theorem open_no (s : ByteArray) (h8 : 8 ≤ s.size) (h : (!(s.extract ((s.size : Int) - 8).toNat s.size).toList == checkOf (s.data.toList.take ((s.size : Int) - 8).toNat)) = true) : openOf s.data.toList = ([], 16) := by
  have e : ((s.size : Int) - 8).toNat = s.size - 8 := by omega
  rw [e, toList_data, ext_drop] at h
  unfold openOf
  rw [if_neg (by rw [← size_list]; omega), ← size_list, if_neg (by simpa using h)]
theorem seal_eq_iff (l : List UInt8) : sealOf (l.take (l.length - 8)) = l ↔ l.drop (l.length - 8) = checkOf (l.take (l.length - 8)) := by
  unfold sealOf
  constructor
  · intro h
    have h2 := List.take_append_drop (l.length - 8) l
    exact (List.append_cancel_left (h.trans h2.symm)).symm
  · intro h
    rw [← h, List.take_append_drop]
theorem ropen_yes (s : ByteArray) (h8 : 8 ≤ s.size) (h : (!sealOf (s.data.toList.take (s.size - 8)) == s.toList) = false) : openOf s.data.toList = (s.data.toList.take (s.size - 8), 0) := by
  rw [toList_data, size_list] at h
  have h' := (seal_eq_iff s.data.toList).1 (by simpa using h)
  unfold openOf
  rw [if_neg (by rw [← size_list]; omega), if_pos h', size_list]
theorem ropen_no (s : ByteArray) (h8 : 8 ≤ s.size) (h : (!sealOf (s.data.toList.take (s.size - 8)) == s.toList) = true) : openOf s.data.toList = ([], 16) := by
  rw [toList_data, size_list] at h
  have h' := mt (seal_eq_iff s.data.toList).2 (by simpa using h)
  unfold openOf
  rw [if_neg (by rw [← size_list]; omega), if_neg h']
theorem hexVal_lt {c d : Nat} (h : hexVal c = some d) : d < 16 := by
  unfold hexVal at h
  split at h
  · simp at h; omega
  · split at h
    · simp at h; omega
    · simp at h
theorem parse_snoc : ∀ (l : List UInt8) (c : UInt8) (n : Nat), parse (l ++ [c]) n = (parse l n).bind fun m => (hexVal c.toNat).map fun d => m * 16 + d
  | [], c, n => by
    simp only [List.nil_append, parse, Option.bind_some]
    cases hexVal c.toNat <;> rfl
  | b :: l, c, n => by
    simp only [List.cons_append, parse]
    cases hexVal b.toNat with
    | none => rfl
    | some d => exact parse_snoc l c _
theorem parse_lt : ∀ (l : List UInt8) (n m : Nat), parse l n = some m → m < (n + 1) * 16 ^ l.length
  | [], n, m, h => by simp [parse] at h; simp; omega
  | c :: l, n, m, h => by
    simp only [parse] at h
    cases hd : hexVal c.toNat with
    | none => rw [hd] at h; simp at h
    | some d =>
      rw [hd] at h
      have := parse_lt l _ m h
      have hl := hexVal_lt hd
      have : (n * 16 + d + 1) * 16 ^ l.length ≤ ((n + 1) * 16) * 16 ^ l.length := Nat.mul_le_mul_right _ (by omega)
      rw [List.length_cons, Nat.pow_succ, Nat.mul_comm (16 ^ l.length) 16, ← Nat.mul_assoc]
      omega
theorem parse_none : ∀ (l l' : List UInt8) (n : Nat), parse l n = none → parse (l ++ l') n = none
  | [], _, _, h => by simp [parse] at h
  | c :: l, l', n, h => by
    simp only [List.cons_append, parse] at h ⊢
    cases hd : hexVal c.toNat with
    | none => rfl
    | some d => rw [hd] at h; exact parse_none l l' _ h
theorem num_ok (l : List UInt8) (n : Nat) (hl : l.length = 16) (h : parse l 0 = some n) : number l = (n, 0) := by
  unfold number; rw [if_neg (by omega), if_neg (by omega), h]
theorem num_bad (l : List UInt8) (k : Nat) (n : Nat) (hl : l.length = 16) (hk : k < l.length) (h : parse (l.take k) 0 = some n) (hx : hexVal l[k].toNat = none) : number l = (0, 5) := by
  have e : parse l 0 = none := by
    have := parse_none (l.take (k + 1)) (l.drop (k + 1)) 0 (by rw [List.take_succ_eq_append_getElem hk, parse_snoc, h, hx]; rfl)
    rwa [List.take_append_drop] at this
  unfold number; rw [if_neg (by omega), if_neg (by omega), e]
theorem hexVal_lt128 {c d : Nat} (h : hexVal c = some d) : c < 128 := by
  rcases Nat.lt_or_ge c 128 with h' | h'
  · exact h'
  · unfold hexVal at h; rw [if_neg (by omega), if_neg (by omega)] at h; simp at h
theorem hexVal_high {c : Nat} (h : 128 ≤ c) : hexVal c = none := by
  unfold hexVal; rw [if_neg (by omega), if_neg (by omega)]
def tblNat (j : Nat) : Nat := if j < 10 then 48 + j else 87 + j
theorem tbl_nat : ∀ j, (h : j < 16) → (({ data := #[48, 49, 50, 51, 52, 53, 54, 55, 56, 57, 97, 98, 99, 100, 101, 102] } : ByteArray)[j]'h).toNat = tblNat j := by decide
theorem hexVal_hit (k : Nat) (h : k < 16) : hexVal (tblNat k) = some k := by
  unfold hexVal tblNat
  by_cases h1 : k < 10
  · rw [if_pos h1, if_pos (by omega)]; congr 1; omega
  · rw [if_neg h1, if_neg (by omega), if_pos (by omega)]; congr 1; omega
theorem hexVal_miss (c : Nat) (h : ∀ j, j < 16 → tblNat j ≠ c) : hexVal c = none := by
  unfold hexVal
  have h1 := h (c - 48)
  have h2 := h (c - 87)
  unfold tblNat at h1 h2
  rw [if_neg, if_neg]
  · intro hc
    have := h2 (by omega)
    rw [if_neg (by omega)] at this; omega
  · intro hc
    have := h1 (by omega)
    rw [if_pos (by omega)] at this; omega
theorem num_short (l : List UInt8) (hl : l.length < 16) : number l = (0, 3) := by unfold number; rw [if_pos hl]
theorem num_long (l : List UInt8) (hl : 16 < l.length) : number l = (0, 4) := by unfold number; rw [if_neg (by omega), if_pos hl]
#print axioms hash_step
end Go.Proofs.Ytohpaijpndphbaa.Sm
