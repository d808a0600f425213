/- SumsCrc SumsDig SumsStr SumsNum JS JV JB: texts laid together. -/
import Derived.Test.YthkjkhffljlidaaProg
import Derived.Test.YthkjkhffljlidaaMrgX0
import Derived.WalkKit
import Derived.WalkSpells
import Derived.WalkLawsBesides
import Derived.Lib.Hide
import Derived.Test.YthkjkhffljlidaaMrgE0
import Derived.Laws.IdiomStrings
import Derived.Deep.RegionHeld3
import Derived.Deep.RegionWith
import Derived.Lib.OthersKept
import Derived.Lib.AppendStr
import Derived.Lib.UnsafeStr
import Derived.Lib.Builder
import Derived.Lib.Strings
import Derived.Lib.Slices
import Derived.Lib.Walk
import Derived.Laws.Externs
import Derived.Test.YthkjkhffljlidaaChecked
set_option maxRecDepth 100000
set_option maxHeartbeats 64000000
/- The walks of sums.Crc and of the reference's Crc: both return the plain function's checksum. -/
namespace Go.Proofs.Ythkjkhffljlidaa.Sm
set_option linter.unusedVariables false
set_option linter.unusedSimpArgs false
open Go.RowKit
theorem ret_int {k : IntKind} {a b : Int} (h : a = b) : Ending.returned (.int k a) = .returned (.int k b) := by rw [h]
theorem conv_bytes (w : World) (s : ByteArray) : ∃ cap w1, (convert 9 84 (.string s)).run Try.prog w = .ok (.slice (some ⟨w.heap.size, 0, none⟩) s.size cap) w1 ∧ s.size ≤ cap ∧ Below w.heap.size w w1 ∧ w1.heap.size = w.heap.size + 1 ∧
   (∀ j (hj : j < s.size), w1.cell? ⟨w.heap.size, j, none⟩ = some (.int .u8 (s[j].toNat : Int))) ∧ (∀ j, j < s.size → w1.frozen? ⟨w.heap.size, j, none⟩ = false) := by
  refine ⟨_, _, run_bytes_of_string (P := Try.prog) w 9 84 5 s Try.underlying9 Try.underlying84 Try.underlying5, grownCap_ge _ _ _ _, ?_, by simp, ?_, ?_⟩
  · exact (Below.refl _ _).drew.alloc (Nat.le_refl _) _
  · intro j hj
    have h := World.cell?_alloc_mark w.drew (bytesRow s (grownCap w s.size 0 5)) 5 ((bytesRow s (grownCap w s.size 0 5)).size, (bytesRow s (grownCap w s.size 0 5)).size + 1) j
    rw [bytesRow_at s _ j hj] at h
    exact h
  · intro j hj
    have h := World.frozen?_alloc_mark w.drew (bytesRow s (grownCap w s.size 0 5)) 5 (bytesRow s (grownCap w s.size 0 5)).size ((bytesRow s (grownCap w s.size 0 5)).size + 1) j
    have : j < (bytesRow s (grownCap w s.size 0 5)).size := by
      simp [bytesRow]; omega
    exact h.trans (by simp; omega)
theorem hash_any (s : ByteArray) (w : World) (hs : s.size ≤ 2000) :
    Calls Try.prog 63 #[.string s] w fun e w' => e = .returned (.int .u64 (hash s.data.toList).toNat) ∧ Below w.heap.size w w' := by
  obtain ⟨cap, w1, hconv, hcap, hb, hz, hcell, hfr⟩ := conv_bytes w s
  have HC := Lib.hid hcell; clear hcell hfr hz
  go_enter Try.func63, Try.ntmps63
  go_wp2
  clear hconv
  go_loop [3, 9] (fun r i => ∃ k : Nat, k ≤ s.size ∧ i = .int .i64 k ∧ r = .int .u64 (hash (s.data.toList.take k)).toNat) (fun _ i => s.size - (intOf i).toNat)
  case atStart => exact ⟨0, by omega, rfl, rfl⟩
  case round =>
    obtain ⟨k, hk, rfl, rfl⟩ := hrel
    by_cases hlt : k < s.size
    · have hc := HC.out k hlt
      have hsn : hash (s.data.toList.take (k + 1)) = hashByte (hash (s.data.toList.take k)) s[k] := by rw [take_snoc s k hlt, hash_snoc]
      generalize s[k] = c at *
      have HSN := Lib.hid hsn; clear hsn
      have hc8 := c.toNat_lt
      generalize hash (s.data.toList.take k) = n at *
      go_wp2
      go_round
      case rel => exact ⟨k + 1, by omega, by go_num, by rw [HSN.out, hash_step]⟩
      case measure => simp [intOf]; omega
    · go_wp2
      go_ret
      exact ⟨ret_int (by rw [List.take_of_length_le (by simp; omega)]), hb⟩
theorem rhash_any (s : ByteArray) (w : World) (hs : s.size ≤ 2000) :
    Calls Try.prog 68 #[.string s] w fun e w' => e = .returned (.int .u64 (hash s.data.toList).toNat) ∧ w = w' := by
  go_enter Try.func68, Try.ntmps68
  go_wp2
  go_loop [3, 4] (fun r i => ∃ k : Nat, k ≤ s.size ∧ i = .int .i64 k ∧ r = .int .u64 (hash (s.data.toList.take k)).toNat) (fun _ i => s.size - (intOf i).toNat)
  case atStart => exact ⟨0, by omega, rfl, rfl⟩
  case round =>
    obtain ⟨k, hk, rfl, rfl⟩ := hrel
    by_cases hlt : k < s.size
    · have hsn : hash (s.data.toList.take (k + 1)) = hashByte (hash (s.data.toList.take k)) s[k] := by rw [take_snoc s k hlt, hash_snoc]
      have HSN := Lib.hid hsn; clear hsn
      go_wp2
      go_round
      case rel => exact ⟨k + 1, by omega, by go_num, by rw [HSN.out, wrap_byte64, hash_step]⟩
      case measure => simp [intOf]; omega
    · go_wp2
      go_ret
      exact ⟨ret_int (by rw [List.take_of_length_le (by simp; omega)]), rfl⟩
end Go.Proofs.Ythkjkhffljlidaa.Sm
/- The walks of Hex, Bytes, digits. -/
namespace Go.Proofs.Ythkjkhffljlidaa.Sm
set_option linter.unusedVariables false
set_option linter.unusedSimpArgs false
open Go.RowKit
def Row (w : World) (g : Nat) (l : List Int) : Prop := (∀ j, (h : j < l.length) → w.cell? ⟨g, j, none⟩ = some (.int .u8 l[j])) ∧ ∀ j, j < l.length → w.frozen? ⟨g, j, none⟩ = false
theorem Row.put {w : World} {g : Nat} {l : List Int} (h : Row w g l) (i : Nat) (v : Int) : Row (w.setCell ⟨g, i, none⟩ (.int .u8 v)) g (l.set i v) := by
  constructor
  · intro j hj
    have hj' : j < l.length := by simpa using hj
    by_cases e : i = j
    · subst e
      rw [World.cell?_setCell_same _ _ _ (h.1 i hj')]
      simp
    · rw [World.cell?_setCell_other _ _ _ _ (fun hh => e (congrArg Addr.off hh)), h.1 j hj']
      simp [e]
  · intro j hj
    rw [World.frozen?_setCell]
    exact h.2 j (by simpa using hj)
theorem Row.read {w : World} {g : Nat} {l : List Int} (h : Row w g l) (j : Nat) (hj : j < l.length) : w.cell? ⟨g, j, none⟩ = some (.int .u8 l[j]) := h.1 j hj
theorem Row.back {w : World} {g : Nat} {l : List UInt8} (h : Row w g (l.map fun b => (b.toNat : Int))) (cap : Nat) :
    (convert 84 9 (.slice (some ⟨g, 0, none⟩) l.length cap)).run Try.prog w = .ok (.string ⟨l.toArray⟩) w :=
  run_convert_bytes_back w 84 9 5 ⟨g, 0, none⟩ cap l Try.underlying84 Try.underlying5 Try.underlying9 (fun j hj => by
    have := h.1 j (by simpa using hj)
    have e : (Addr.add ⟨g, 0, none⟩ j) = ⟨g, j, none⟩ := by
      unfold Addr.add
      split
      · subst j; rfl
      · simp
    rw [e]
    simpa using this)
def part (l : List UInt8) (k : Nat) : List Int := (List.range l.length).map fun j => if j < k then ((l.getD j 0).toNat : Int) else 0
theorem part_len (l : List UInt8) (k : Nat) : (part l k).length = l.length := by simp [part]
theorem part_set (l : List UInt8) (k : Nat) (h : k < l.length) : (part l k).set k (l[k].toNat : Int) = part l (k + 1) := by
  apply List.ext_getElem
  · simp [part]
  · intro i h1 h2
    simp only [List.getElem_set, part, List.getElem_map, List.getElem_range]
    have hi : i < l.length := by simpa [part] using h2
    by_cases e : k = i
    · subst e; simp [hi]
    · simp only [if_neg e]
      by_cases hl : i < k
      · rw [if_pos hl, if_pos (by omega)]
      · rw [if_neg hl, if_neg (by omega)]
theorem part_all (l : List UInt8) : part l l.length = l.map fun b => (b.toNat : Int) := by
  apply List.ext_getElem
  · simp [part]
  · intro i h1 h2
    have hi : i < l.length := by simpa [part] using h1
    simp [part, hi]
theorem part_zero (l : List UInt8) : part l 0 = List.replicate l.length 0 := by
  apply List.ext_getElem
  · simp [part]
  · intro i h1 h2
    simp [part]
theorem row_alloc (w : World) (C : Array Value) (t : TypeId) (l : List Int) (h : C.toList = l.map (Value.int .u8)) : Row (w.alloc (.cells C t)) w.heap.size l := by
  have hsz : C.size = l.length := by rw [← Array.length_toList, h]; simp
  constructor
  · intro j hj
    rw [World.cell?_alloc_mark, ← Array.getElem?_toList, h]
    simp [hj]
  · intro j hj
    rw [World.frozen?_alloc_mark]; simp
theorem hex_any (n : BitVec 64) (w : World) :
    Calls Try.prog 40 #[.int .u64 n.toNat] w fun e w' => e = .returned (.string ⟨(digits n.toNat 16).toArray⟩) ∧ Below w.heap.size w w' := by
  go_enter Try.func40, Try.ntmps40
  go_wp2
  go_loopw [5] (fun i wr => ∃ k : Nat, k ≤ 16 ∧ i = .int .i64 k ∧ Below w.heap.size w wr ∧ Row wr w.heap.size (part (digits n.toNat 16) k)) (fun i _ => 16 - (intOf i).toNat)
  case atStart => exact ⟨0, by omega, rfl, (Below.refl _ _).alloc (Nat.le_refl _) _, row_alloc _ _ _ _ (by rw [part_zero, digits_len]; rfl)⟩
  case round =>
    obtain ⟨k, hk, rfl, hb, hr⟩ := hrel
    have HR := Lib.hid hr; clear hr
    by_cases hlt : k < 16
    · have hl : k < (part (digits n.toNat 16) k).length := by rw [part_len, digits_len]; exact hlt
      have hc := HR.out.1 k hl
      have hf := HR.out.2 k hl
      have hset := part_set (digits n.toNat 16) k (by rw [digits_len]; exact hlt)
      rw [digits_get _ _ _ hlt] at hset
      have hn := nib n.toNat k n.isLt hlt
      have hd : n.toNat / 16 ^ (15 - k) % 16 < 16 := Nat.mod_lt _ (by omega)
      have ht := tbl_at (n.toNat / 16 ^ (15 - k) % 16) hd
      generalize (part (digits n.toNat 16) k)[k] = c0 at *
      have HS := Lib.hid hset; clear hset
      have hd0 : (0 : Int) ≤ ((n.toNat / 16 ^ (15 - k) % 16 : Nat) : Int) := by omega
      have hd1 : ((n.toNat / 16 ^ (15 - k) % 16 : Nat) : Int) < 16 := by omega
      generalize n.toNat / 16 ^ (15 - k) % 16 = d at *
      have HT := Lib.hid ht; clear ht hl
      go_wp2
      go_roundw
      case rel =>
        rw [HT.out]
        exact ⟨k + 1, by omega, by go_num, hb.setCell (Nat.le_refl _) _, by rw [← HS.out]; exact HR.out.put k _⟩
      case measure => simp [intOf]; omega
    · obtain rfl : k = 16 := by omega
      have hr := HR.out
      rw [show part (digits n.toNat 16) 16 = part (digits n.toNat 16) (digits n.toNat 16).length from by rw [digits_len], part_all] at hr
      have hconv := hr.back 16
      rw [digits_len] at hconv
      go_wp2
      go_ret
      exact ⟨rfl, hb⟩
abbrev byteEnc (b : UInt8) : List Value := [.int .u8 (b.toNat : Int)]
theorem info_u8 : (Try.prog.info? 5).map (fun i => (i.zero, i.size, i.bytes)) = some (some (.int .u8 0), 1, 1) := by kernel_rfl
theorem T_u8 : Kit.SlTy Try.prog 84 5 1 1 byteEnc where
  und := Try.underlying84
  info := by obtain ⟨i, h1, h2, h3, h4⟩ := info_parts info_u8; exact ⟨i, _, h1, h2, h3, h4, rfl⟩
  pos := by decide
  len := fun _ => rfl
  one := fun x u h => by simp at h; subst h; rfl
theorem own_conv {w : World} {B : Nat} {v : Value} {l : List UInt8} (h : Kit.Own 5 1 byteEnc w B v l) :
    (convert 84 9 v).run Try.prog w = .ok (.string ⟨l.toArray⟩) w := by
  obtain ⟨ad, cap, rfl, hc, h⟩ := h.sl (fun _ => rfl)
  rcases h with rfl | ⟨b, off, rfl, hlt, h⟩
  · cases ad with
    | none =>
      rw [List.length_nil, run_convert_bytes_nil w 84 5 Try.underlying84 Try.underlying5 0 cap 9 Try.underlying9]
      rfl
    | some ad =>
      exact run_convert_bytes_back w 84 9 5 ad cap [] Try.underlying84 Try.underlying5 Try.underlying9 (fun j hj => absurd hj (by simp))
  · refine run_convert_bytes_back w 84 9 5 ⟨b, off, none⟩ cap l Try.underlying84 Try.underlying5 Try.underlying9 (fun j hj => ?_)
    rw [Kit.addr_add]
    have := h j 0 l[j] (by simp [hj]) (by omega)
    simpa using this
theorem bytes_any (n : BitVec 64) (w : World) :
    Calls Try.prog 69 #[.int .u64 n.toNat] w fun e w' => e = .returned (.string ⟨(bytes8 n.toNat).toArray⟩) ∧ Below w.heap.size w w' := by
  go_enter Try.func69, Try.ntmps69
  go_wp2
  go_loopw [3, 4] (fun v i wr => ∃ k : Nat, k ≤ 8 ∧ i = .int .i64 k ∧ Below w.heap.size w wr ∧ Kit.Own 5 1 byteEnc wr w.heap.size v ((bytes8 n.toNat).take k)) (fun _ i _ => 8 - (intOf i).toNat)
  case atStart => exact ⟨0, by omega, rfl, Below.refl _ _, Kit.Own.nil _ _⟩
  case round =>
    obtain ⟨k, hk, rfl, hb, hr⟩ := hrel
    have HR := Lib.hid hr; clear hr
    by_cases hlt : k < 8
    · have ht := take_bytes8 n.toNat k hlt
      have hbt := byte_at n.toNat k hlt
      generalize UInt8.ofNat (n.toNat / 256 ^ (7 - k)) = c at ht hbt
      have HT := Lib.hid ht; clear ht
      have HB := Lib.hid hbt; clear hbt
      have HL := Lib.hid (show ((bytes8 n.toNat).take k).length ≤ 8 from by rw [List.length_take]; omega)
      have hsz := hb.size
      go_wp2_with (at_builtin; refine Kit.wp_append1 T_u8 (by rfl) _ _ (by rfl) wr w.heap.size _ _ (by rfl) HR.out c _ _ (by rfl) ?c1 ?c2 ?c3 hsz ?_)
      case c1 => simpa using HB.out
      case c2 => have := HL.out; unfold maxLen; omega
      case c3 => have := HL.out; omega
      intro v' w' hown hbel _ _
      rw [← HT.out] at hown
      have HO := Lib.hid hown; clear hown
      go_wp2
      go_roundw
      case rel => exact ⟨k + 1, by omega, by go_num, hb.trans hbel, HO.out⟩
      case measure => simp [intOf]; omega
    · obtain rfl : k = 8 := by omega
      have hconv := own_conv HR.out
      rw [List.take_of_length_le (by rw [bytes8_len]; omega)] at hconv
      go_wp2
      go_ret
      exact ⟨rfl, hb⟩
theorem digits_any (n : BitVec 64) (m : Nat) (hm : m ≤ 16) (w : World) :
    Calls Try.prog 70 #[.int .u64 n.toNat, .int .i64 m] w fun e w' => e = .returned (.string ⟨(digits n.toNat m).toArray⟩) ∧ Below w.heap.size w w' := by
  go_enter Try.func70, Try.ntmps70
  go_wp2
  go_loopw [6, 7] (fun v i wr => ∃ k : Nat, k ≤ m ∧ i = .int .i64 ((m : Int) - 1 - k) ∧ Below w.heap.size w wr ∧ Kit.Own 5 1 byteEnc wr w.heap.size v ((digits n.toNat m).take k)) (fun _ i _ => (intOf i + 1).toNat)
  case atStart => exact ⟨0, by omega, by simp, Below.refl _ _, Kit.Own.nil _ _⟩
  case round =>
    obtain ⟨k, hk, rfl, hb, hr⟩ := hrel
    have HR := Lib.hid hr; clear hr
    by_cases hlt : k < m
    · have HT := Lib.hid (take_digits n.toNat m k hlt)
      have HL := Lib.hid (show ((digits n.toNat m).take k).length ≤ m from by rw [List.length_take, digits_len]; omega)
      have hd := nib2 n.toNat (m - 1 - k)
      have hd' : n.toNat / 16 ^ (m - 1 - k) % 16 < 16 := Nat.mod_lt _ (by omega)
      have ht := tbl_at _ hd'
      generalize n.toNat / 16 ^ (m - 1 - k) % 16 = d at *
      have HTB := Lib.hid ht; clear ht
      have hsz := hb.size
      have he : ((m : Int) - 1 - k) = ((m - 1 - k : Nat) : Int) := by omega
      rw [he]
      have hk2 : m - 1 - k ≤ 15 := by omega
      have Hm : Hid ((m : Int) - 1 - (k + 1 : Nat) = ((m - 1 - k : Nat) : Int) - 1) := by unfold Hid; omega
      clear he
      generalize m - 1 - k = q at *
      have hd0 : (0 : Int) ≤ (d : Int) := by omega
      have hd1 : (d : Int) < 16 := by omega
      have Hm2 : Hid ((((m : Int) - 1 - k) = (q : Int))) := by unfold Hid; have := Hm.out; omega
      go_wp2_with (at_builtin; refine Kit.wp_append1 T_u8 (by rfl) _ _ (by rfl) wr w.heap.size _ _ (by rfl) HR.out (hexDigit d) _ _ (by rfl) ?c1 ?c2 ?c3 hsz ?_)
      case c1 => rw [HTB.out]
      case c2 => have := HL.out; unfold maxLen; omega
      case c3 => have := HL.out; omega
      intro v' w' hown hbel _ _
      rw [← HT.out] at hown
      have HO := Lib.hid hown; clear hown
      go_wp2
      go_roundw
      case rel => exact ⟨k + 1, by omega, by rw [Hm.out], hb.trans hbel, HO.out⟩
      case measure => simp [intOf]
    · obtain rfl : k = m := by omega
      have hconv := own_conv HR.out
      rw [List.take_of_length_le (by rw [digits_len]; omega)] at hconv
      go_wp2
      go_ret
      exact ⟨rfl, hb⟩
end Go.Proofs.Ythkjkhffljlidaa.Sm
/- The walks of Chain, check, Seal, Open, digit, Number and of the reference's. -/
namespace Go.Proofs.Ythkjkhffljlidaa.Sm
set_option linter.unusedVariables false
set_option linter.unusedSimpArgs false
open Go.RowKit
theorem ret2 {a b a' b' : Value} (h : a = a') (k : b = b') : Ending.returned (.tuple #[a, b]) = .returned (.tuple #[a', b']) := by rw [h, k]
theorem rhex_any (n : BitVec 64) (w : World) :
    Calls Try.prog 47 #[.int .u64 n.toNat] w fun e w' => e = .returned (.string ⟨(digits n.toNat 16).toArray⟩) ∧ Below w.heap.size w w' := by
  go_enter Try.func47, Try.ntmps47
  go_wp2_with fail
  refine (digits_any n 16 (by omega) w).mono ?_
  rintro e w1 ⟨rfl, hb1⟩
  go_wp2
  go_ret
  exact ⟨rfl, hb1⟩
theorem rchain_any (p : BitVec 64) (s : ByteArray) (w : World) (hs : s.size ≤ 1990) :
    Calls Try.prog 46 #[.int .u64 p.toNat, .string s] w fun e w' => e = .returned (.int .u64 (hash (bytes8 p.toNat ++ s.data.toList)).toNat) ∧ Below w.heap.size w w' := by
  have hlen : (bytes8 p.toNat).length + s.size ≤ 2000 := by rw [bytes8_len]; omega
  go_enter Try.func46, Try.ntmps46
  go_wp2_with fail
  refine (bytes_any p w).mono ?_
  rintro e w1 ⟨rfl, hb1⟩
  go_wp2_with fail
  refine (rhash_any _ w1 (by rw [app_size]; omega)).mono ?_
  rintro e w2 ⟨rfl, rfl⟩
  go_wp2
  go_ret
  exact ⟨rfl, hb1⟩
theorem chain_any (n : BitVec 64) (s : ByteArray) (w : World) (hs : s.size ≤ 1990) :
    Calls Try.prog 41 #[.int .u64 n.toNat, .string s] w fun e w' => e = .returned (.int .u64 (hash (bytes8 n.toNat ++ s.data.toList)).toNat) ∧ Below w.heap.size w w' := by
  have hlen : (bytes8 n.toNat).length + s.size ≤ 2000 := by rw [bytes8_len]; omega
  go_enter Try.func41, Try.ntmps41
  go_wp2
  go_loopw [7] (fun i wr => ∃ k : Nat, k ≤ 8 ∧ i = .int .i64 k ∧ Below w.heap.size w wr ∧ Row wr w.heap.size (part (bytes8 n.toNat) k)) (fun i _ => 8 - (intOf i).toNat)
  case atStart => exact ⟨0, by omega, rfl, (Below.refl _ _).alloc (Nat.le_refl _) _, row_alloc _ _ _ _ (by rw [part_zero, bytes8_len]; rfl)⟩
  case round =>
    obtain ⟨k, hk, rfl, hb, hr⟩ := hrel
    have HR := Lib.hid hr; clear hr
    by_cases hlt : k < 8
    · have hl : k < (part (bytes8 n.toNat) k).length := by rw [part_len, bytes8_len]; exact hlt
      have hc := HR.out.1 k hl
      have hf := HR.out.2 k hl
      have hset := part_set (bytes8 n.toNat) k (by rw [bytes8_len]; exact hlt)
      rw [bytes8_get _ _ hlt] at hset
      have hbt := byte_at n.toNat k hlt
      generalize UInt8.ofNat (n.toNat / 256 ^ (7 - k)) = c at hset hbt
      generalize (part (bytes8 n.toNat) k)[k] = c0 at *
      have HS := Lib.hid hset; clear hset hl
      have HB := Lib.hid hbt; clear hbt
      go_wp2
      go_roundw
      case rel =>
        rw [HB.out]
        exact ⟨k + 1, by omega, by go_num, hb.setCell (Nat.le_refl _) _, by rw [← HS.out]; exact HR.out.put k _⟩
      case measure => simp [intOf]; omega
    · obtain rfl : k = 8 := by omega
      have hr := HR.out
      rw [show part (bytes8 n.toNat) 8 = part (bytes8 n.toNat) (bytes8 n.toNat).length from by rw [bytes8_len], part_all] at hr
      have hconv := hr.back 8
      rw [bytes8_len] at hconv
      go_wp2_with fail
      refine (hash_any _ _ (by rw [app_size]; omega)).mono ?_
      rintro e w2 ⟨rfl, hb2⟩
      go_wp2
      go_ret
      exact ⟨rfl, hb.trans (hb2.mono hb.size)⟩
end Go.Proofs.Ythkjkhffljlidaa.Sm
/- The walks of digit, Number and of the reference's Number. -/
namespace Go.Proofs.Ythkjkhffljlidaa.Sm
set_option linter.unusedVariables false
set_option linter.unusedSimpArgs false
open Go.RowKit
def hexTable : ByteArray := { data := #[48, 49, 50, 51, 52, 53, 54, 55, 56, 57, 97, 98, 99, 100, 101, 102] }
theorem hexTable_size : hexTable.size = 16 := rfl
theorem hexTable_at (k : Nat) (h : k < hexTable.size) : hexTable[k].toNat = tblNat k := tbl_nat k h
theorem tblNat_lt (k : Nat) (h : k < 16) : tblNat k < 128 := by unfold tblNat; split <;> omega
def digRes (c : Nat) : Ending := .returned (.tuple #[.int .u64 ((hexVal c).getD 0 : Nat), .bool (hexVal c).isSome])
theorem digit_any (c : Nat) (w : World) :
    Calls Try.prog 51 #[.int .i32 c] w fun e w' => e = digRes c ∧ Below w.heap.size w w' := by
  go_enter Try.func51, Try.ntmps51
  go_wp2
  rw [show ({ data := #[48, 49, 50, 51, 52, 53, 54, 55, 56, 57, 97, 98, 99, 100, 101, 102] } : ByteArray) = hexTable from rfl]
  go_loopw [4, 5] (fun _ _ wr => ∃ k : Nat, k ≤ 16 ∧ wr = w.iter hexTable k ∧ ∀ j, j < k → tblNat j ≠ c) (fun _ _ wr => 16 - wr.iterPos w.heap.size)
  case atStart => exact ⟨0, by omega, rfl, fun j hj => absurd hj (by omega)⟩
  case round =>
    obtain ⟨k, hk, rfl, hno⟩ := hrel
    have HN := Lib.hid hno; clear hno
    by_cases hlt : k < 16
    · have hlt' : k < hexTable.size := hlt
      have hnx := fun ty => run_next_ascii (P := Try.prog) w hexTable k ty hlt' (by rw [hexTable_at k hlt']; exact tblNat_lt k hlt)
      rw [hexTable_at k hlt'] at hnx
      clear hlt'
      have hk128 := tblNat_lt k hlt
      by_cases he : tblNat k = c
      · have hb : ((tblNat k : Int) == (c : Int)) = true := by simp; omega
        have HE := Lib.hid he; clear he
        have HV := Lib.hid (hexVal_hit k hlt)
        generalize tblNat k = q at *
        go_wp2
        go_ret2
        exact ⟨by unfold digRes; rw [← HE.out, HV.out]; rfl, (Below.refl _ _).alloc (Nat.le_refl _) _⟩
      · have hb : ((tblNat k : Int) == (c : Int)) = false := by simp; omega
        have HE := Lib.hid he; clear he
        go_wp2
        go_roundw
        case rel => exact ⟨k + 1, by omega, rfl, fun j hj => by by_cases e : j = k; (subst e; exact HE.out); exact HN.out j (by omega)⟩
        case measure => simp [World.iterPos_iter]; omega
    · obtain rfl : k = 16 := by omega
      have hnx := fun ty => run_next_end (P := Try.prog) w hexTable 16 ty (by rw [hexTable_size]; omega)
      go_wp2
      go_ret2
      exact ⟨by unfold digRes; rw [hexVal_miss c HN.out]; rfl, (Below.refl _ _).alloc (Nat.le_refl _) _⟩
theorem iterPos_at {w : World} {g p : Nat} {s : ByteArray} (h : w.heap[g]? = some (.stringIter s p)) : w.iterPos g = p := by simp [World.iterPos, h]
theorem digit_yes (c d : Nat) (w : World) (h : hexVal c = some d) :
    Calls Try.prog 51 #[.int .i32 c] w fun e w' => e = .returned (.tuple #[.int .u64 d, .bool true]) ∧ Below w.heap.size w w' := by
  have := digit_any c w
  unfold digRes at this
  rw [h] at this
  exact this
theorem digit_no (c : Nat) (w : World) (h : hexVal c = none) :
    Calls Try.prog 51 #[.int .i32 c] w fun e w' => e = .returned (.tuple #[.int .u64 0, .bool false]) ∧ Below w.heap.size w w' := by
  have := digit_any c w
  unfold digRes at this
  rw [h] at this
  exact this
theorem numRes_eq {l : List UInt8} {p : Nat × Int} (h : number l = p) {a b : Value} (ha : a = .int .u64 p.1) (hb : b = .int .i64 p.2) : Ending.returned (.tuple #[a, b]) = .returned (.tuple #[.int .u64 ((number l).1 : Nat), .int .i64 (number l).2]) := by
  rw [h, ha, hb]
theorem or_digit (n d : Nat) (hn : n < 16 ^ 15) (hd : d < 16) : bits .or .u64 (IntKind.u64.wrap ((n : Int) * 16)) (d : Int) = ((n * 16 + d : Nat) : Int) := by
  have h1 : ((n : Int) * 16) = ((n * 16 : Nat) : Int) := by omega
  have hb : n * 16 < 18446744073709551616 := by
    have : (16 : Nat) ^ 15 * 16 = 18446744073709551616 := by decide
    omega
  rw [h1, wrap_nat64, Nat.mod_eq_of_lt hb, u64_or_nat _ _ hb (by omega), nat_join 4 (n * 16) d (by omega) (by omega)]
theorem number_any (s : ByteArray) (w : World) (hs : s.size ≤ 2000) :
    Calls Try.prog 21 #[.string s] w fun e w' => e = .returned (.tuple #[.int .u64 ((number s.data.toList).1 : Nat), .int .i64 (number s.data.toList).2]) ∧ Below w.heap.size w w' := by
  by_cases h1 : s.size < 16
  · go_enter Try.func21, Try.ntmps21
    go_wp2
    go_ret2
    exact ⟨numRes_eq (num_short _ h1) rfl rfl, Below.refl _ _⟩
  by_cases h2 : 16 < s.size
  · go_enter Try.func21, Try.ntmps21
    go_wp2
    go_ret2
    exact ⟨numRes_eq (num_long _ h2) rfl rfl, Below.refl _ _⟩
  have h3 : s.size = 16 := by omega
  have H3 := Lib.hid h3; clear h3
  have b1 : decide ((s.size : Int) < 16) = false := by simp; omega
  have b2 : decide ((16 : Int) < (s.size : Int)) = false := by simp; omega
  go_enter Try.func21, Try.ntmps21
  go_wp2
  clear b1 b2
  go_loopw [4, 6, 7, 8] (fun n _ _ _ wr => ∃ k m : Nat, k ≤ 16 ∧ n = .int .u64 m ∧ parse (s.data.toList.take k) 0 = some m ∧ Below w.heap.size w wr ∧ wr.heap[w.heap.size]? = some (.stringIter s k)) (fun _ _ _ _ wr => 16 - wr.iterPos w.heap.size)
  case atStart => exact ⟨0, 0, by omega, rfl, rfl, (Below.refl _ _).alloc (Nat.le_refl _) _, World.iter_heap _ _ _⟩
  case round =>
    obtain ⟨k, m, hk, rfl, hp, hb, hit⟩ := hrel
    have HP := Lib.hid hp; clear hp
    have HI := Lib.hid hit; clear hit
    by_cases hlt : k < 16
    · have hlt' : k < s.size := by have := H3.out; omega
      have hnx := fun ty => Lib.run_next_any_at (P := Try.prog) wr w.heap.size s k ty HI.out hlt'
      have hr := decode_le s k
      have hlow : (hlow : s[k].toNat < 128) → (Utf8.decode s k) = (s[k].toNat, 1) := fun h => decode_ascii s k hlt' h
      have hhigh : 128 ≤ s[k].toNat → 128 ≤ (Utf8.decode s k).1 := fun h => (decode_high s k hlt' h).1
      have hlk : k < s.data.toList.length := by rw [← size_list]; exact hlt'
      have HK := Lib.hid (show s.data.toList[k].toNat = s[k].toNat from rfl)
      have HT := Lib.hid (take_snoc s k hlt')
      generalize Utf8.decode s k = dq at *
      obtain ⟨r, q⟩ := dq
      have HL := Lib.hid hlow; clear hlow
      have HH := Lib.hid hhigh; clear hhigh
      have hsz : w.heap.size < wr.heap.size := (Array.getElem?_eq_some_iff.1 HI.out).1
      cases hv : hexVal r with
      | none =>
        have HV := Lib.hid hv; clear hv
        go_wp2_with fail
        refine (digit_no r _ HV.out).mono ?_
        rintro e w2 ⟨rfl, hb2⟩
        go_wp2
        go_ret2
        have hx : hexVal s.data.toList[k].toNat = none := by
          rw [HK.out]
          by_cases h : s[k].toNat < 128
          · have := HL.out h; simp at this; rw [← this.1]; exact HV.out
          · exact hexVal_high (by omega)
        refine ⟨numRes_eq (num_bad _ k m (by rw [← size_list]; exact H3.out) hlk HP.out hx) rfl rfl, ?_⟩
        exact (Lib.below_iterAt hb (Nat.le_refl _) _ _).trans (hb2.mono (by rw [Lib.iterAt_size]; omega))
      | some d =>
        have hd := hexVal_lt hv
        have h128 := hexVal_lt128 hv
        have hk128 : s[k].toNat < 128 := by
          rcases Nat.lt_or_ge s[k].toNat 128 with h | h
          · exact h
          · have := HH.out h; simp at this; omega
        have e := HL.out hk128
        simp only [Prod.mk.injEq] at e
        obtain ⟨e1, e2⟩ := e
        subst e2
        have hpn : parse (s.data.toList.take (k + 1)) 0 = some (m * 16 + d) := by
          rw [HT.out, parse_snoc, HP.out, ← e1, hv]; rfl
        have hm : m < 16 ^ 15 := by
          have := parse_lt _ _ _ HP.out
          rw [Nat.zero_add, Nat.one_mul, List.length_take] at this
          refine Nat.lt_of_lt_of_le this (Nat.pow_le_pow_right (by omega) (by omega))
        have HOR := Lib.hid (or_digit m d hm hd)
        have HPN := Lib.hid hpn
        have HV := Lib.hid hv
        clear hv hpn e1 hm hk128
        go_wp2_with fail
        refine (digit_yes r d _ HV.out).mono ?_
        rintro e w2 ⟨rfl, hb2⟩
        have HB2 := Lib.hid hb2; clear hb2
        go_wp2
        go_roundw
        case rel =>
          rw [HOR.out]
          refine ⟨k + 1, m * 16 + d, by omega, rfl, HPN.out, (Lib.below_iterAt hb (Nat.le_refl _) _ _).trans (HB2.out.mono (by rw [Lib.iterAt_size]; omega)), ?_⟩
          rw [HB2.out.block _ (by rw [Lib.iterAt_size]; omega)]
          exact Lib.iterAt_heap _ _ _ _ _ HI.out
        case measure =>
          have h1 := iterPos_at HI.out
          have h2 : w2.heap[w.heap.size]? = some (.stringIter s (k + 1)) := by
            rw [HB2.out.block _ (by rw [Lib.iterAt_size]; omega)]
            exact Lib.iterAt_heap _ _ _ _ _ HI.out
          rw [h1, iterPos_at h2]; omega
    · obtain rfl : k = 16 := by omega
      have hnx := fun ty => Lib.run_next_end_at (P := Try.prog) wr w.heap.size s 16 ty HI.out (by have := H3.out; omega)
      go_wp2
      go_ret2
      have hp := HP.out
      rw [List.take_of_length_le (by rw [← size_list]; have := H3.out; omega)] at hp
      exact ⟨numRes_eq (num_ok _ _ (by rw [← size_list]; exact H3.out) hp) rfl rfl, hb⟩
theorem rnumber_any (s : ByteArray) (w : World) (hs : s.size ≤ 2000) :
    Calls Try.prog 52 #[.string s] w fun e w' => e = .returned (.tuple #[.int .u64 ((number s.data.toList).1 : Nat), .int .i64 (number s.data.toList).2]) ∧ w = w' := by
  by_cases h1 : s.size < 16
  · go_enter Try.func52, Try.ntmps52
    go_wp2
    go_ret2
    exact ⟨numRes_eq (num_short _ h1) rfl rfl, rfl⟩
  by_cases h2 : 16 < s.size
  · go_enter Try.func52, Try.ntmps52
    go_wp2
    go_ret2
    exact ⟨numRes_eq (num_long _ h2) rfl rfl, rfl⟩
  have h3 : s.size = 16 := by omega
  have H3 := Lib.hid h3; clear h3
  have b1 : decide ((s.size : Int) < 16) = false := by simp; omega
  have b2 : decide ((16 : Int) < (s.size : Int)) = false := by simp; omega
  go_enter Try.func52, Try.ntmps52
  go_wp2
  clear b1 b2
  go_loop [4, 5, 6, 7] (fun n i _ _ => ∃ k m : Nat, k ≤ s.size ∧ i = .int .i64 k ∧ n = .int .u64 m ∧ parse (s.data.toList.take k) 0 = some m) (fun _ i _ _ => s.size - (intOf i).toNat)
  case atStart => exact ⟨0, 0, by omega, rfl, rfl, rfl⟩
  case round =>
    obtain ⟨k, m, hk, rfl, rfl, hp⟩ := hrel
    have HP := Lib.hid hp; clear hp
    by_cases hlt : k < s.size
    · have hlk : k < s.data.toList.length := by rw [← size_list]; exact hlt
      have HK := Lib.hid (show s.data.toList[k].toNat = s[k].toNat from rfl)
      have HT := Lib.hid (take_snoc s k hlt)
      have hm : m < 16 ^ 15 := by
        have := parse_lt _ _ _ HP.out
        rw [Nat.zero_add, Nat.one_mul, List.length_take] at this
        refine Nat.lt_of_lt_of_le this (Nat.pow_le_pow_right (by omega) (by have := H3.out; omega))
      have hc8 := s[k].toNat_lt
      go_wp2
      · go_round
        case rel => exact ⟨k + 1, m * 16 + (s[k].toNat - 48), by omega, by go_num, by congr 1; omega, by rw [HT.out, parse_snoc, HP.out]; unfold hexVal; rw [if_pos (by omega)]; rfl⟩
        case measure => simp [intOf]; omega
      · go_round
        case rel => exact ⟨k + 1, m * 16 + (s[k].toNat - 87), by omega, by go_num, by congr 1; omega, by rw [HT.out, parse_snoc, HP.out]; unfold hexVal; rw [if_neg (by omega), if_pos (by omega)]; rfl⟩
        case measure => simp [intOf]; omega
      all_goals
        go_ret2
        have hx : hexVal s.data.toList[k].toNat = none := by
          rw [HK.out]; unfold hexVal; rw [if_neg (by omega), if_neg (by omega)]
        exact ⟨numRes_eq (num_bad _ k m (by rw [← size_list]; exact H3.out) hlk HP.out hx) rfl rfl, rfl⟩
    · obtain rfl : k = s.size := by omega
      go_wp2
      go_ret2
      have hp := HP.out
      rw [List.take_of_length_le (by rw [← size_list]; omega)] at hp
      exact ⟨numRes_eq (num_ok _ _ (by rw [← size_list]; exact H3.out) hp) rfl rfl, rfl⟩
end Go.Proofs.Ythkjkhffljlidaa.Sm
/- Walks of the journal: checksums. -/
namespace Go.Proofs.Ythkjkhffljlidaa.Jo
set_option linter.unusedVariables false
set_option linter.unusedSimpArgs false
open Go.RowKit Go.Proofs.Ythkjkhffljlidaa.Ev
variable {gl : List (Nat × List CV)}
def chainS (n : Nat) (s : ByteArray) : Nat := (Sm.hash (Sm.bytes8 n ++ s.data.toList)).toNat
def hexS (n : Nat) : ByteArray := ⟨(Sm.digits n 16).toArray⟩
def numS (s : ByteArray) : Nat × Int := Sm.number s.data.toList
theorem chainS_lt (n : Nat) (s : ByteArray) : chainS n s < 2 ^ 64 := BitVec.isLt _
theorem chain_con (n : Nat) (hn : n < 2 ^ 64) (s : ByteArray) (hs : s.size ≤ 1990) : Con Try.prog gl 41 [U n, STR s] (U (chainS n s)) := by
  have e : (BitVec.ofNat 64 n).toNat = n := by simp [Nat.mod_eq_of_lt hn]
  have := con_plain (gl := gl) (P := Try.prog) (f := 41) (vals := [.int .u64 n, .string s]) (by kernel_rfl) (fun w => by have := Sm.chain_any (BitVec.ofNat 64 n) s w hs; rw [e] at this; exact this)
  exact this
theorem rchain_con (n : Nat) (hn : n < 2 ^ 64) (s : ByteArray) (hs : s.size ≤ 1990) : Con Try.prog gl 46 [U n, STR s] (U (chainS n s)) := by
  have e : (BitVec.ofNat 64 n).toNat = n := by simp [Nat.mod_eq_of_lt hn]
  have := con_plain (gl := gl) (P := Try.prog) (f := 46) (vals := [.int .u64 n, .string s]) (by kernel_rfl) (fun w => by have := Sm.rchain_any (BitVec.ofNat 64 n) s w hs; rw [e] at this; exact this)
  exact this
theorem hex_con (n : Nat) (hn : n < 2 ^ 64) : Con Try.prog gl 40 [U n] (STR (hexS n)) := by
  have e : (BitVec.ofNat 64 n).toNat = n := by simp [Nat.mod_eq_of_lt hn]
  have := con_plain (gl := gl) (P := Try.prog) (f := 40) (vals := [.int .u64 n]) (by kernel_rfl) (fun w => by have := Sm.hex_any (BitVec.ofNat 64 n) w; rw [e] at this; exact this)
  exact this
theorem rhex_con (n : Nat) (hn : n < 2 ^ 64) : Con Try.prog gl 47 [U n] (STR (hexS n)) := by
  have e : (BitVec.ofNat 64 n).toNat = n := by simp [Nat.mod_eq_of_lt hn]
  have := con_plain (gl := gl) (P := Try.prog) (f := 47) (vals := [.int .u64 n]) (by kernel_rfl) (fun w => by have := Sm.rhex_any (BitVec.ofNat 64 n) w; rw [e] at this; exact this)
  exact this
theorem number_con (s : ByteArray) (hs : s.size ≤ 2000) : Con Try.prog gl 21 [STR s] (.tup [U (numS s).1, I (numS s).2]) :=
  con_plain2 (gl := gl) (P := Try.prog) (f := 21) (vals := [.string s]) (us := [.int .u64 (numS s).1, .int .i64 (numS s).2]) (by kernel_rfl) (fun w => Sm.number_any s w hs)
theorem rnumber_con (s : ByteArray) (hs : s.size ≤ 2000) : Con Try.prog gl 52 [STR s] (.tup [U (numS s).1, I (numS s).2]) :=
  con_plain2 (gl := gl) (P := Try.prog) (f := 52) (vals := [.string s]) (us := [.int .u64 (numS s).1, .int .i64 (numS s).2]) (by kernel_rfl) (fun w => (Sm.rnumber_any s w hs).mono fun e w' ⟨he, hw⟩ => ⟨he, hw ▸ Below.refl _ _⟩)
end Go.Proofs.Ythkjkhffljlidaa.Jo
/- The journal: blocks: strings as bytes, rests of blocks. -/
namespace Go.Proofs.Ythkjkhffljlidaa.Jo
set_option linter.unusedVariables false
set_option linter.unusedSimpArgs false
open Go.RowKit Go.Proofs.Ythkjkhffljlidaa.Ev
variable {gl : List (Nat × List CV)}
theorem ba_size (s : ByteArray) : s.data.toList.length = s.size := Array.length_toList
theorem ba_eq {a b : ByteArray} (h : a.data.toList = b.data.toList) : a = b := by
  cases a; cases b; congr 1; exact Array.toList_inj.1 h
theorem ba_app (a b : ByteArray) : (a ++ b).data.toList = a.data.toList ++ b.data.toList := by
  simp [ByteArray.data_append]
theorem ba_ext (s : ByteArray) (i j : Nat) : (s.extract i j).data.toList = (s.data.toList.take j).drop i := by
  simp [ByteArray.data_extract, Array.toList_extract, List.extract_eq_take_drop, List.drop_take]
theorem ba_empty {s : ByteArray} (h : s.size = 0) : (s.toList == (⟨#[]⟩ : ByteArray).toList) = true := by
  rw [ByteArray.toList_eq, ByteArray.toList_eq, beq_iff_eq]
  have : s.data.toList.length = 0 := by rw [ba_size]; exact h
  rw [List.length_eq_zero_iff.1 this]
theorem ba_full {s : ByteArray} (h : s.size ≠ 0) : (s.toList == (⟨#[]⟩ : ByteArray).toList) = false := by
  rw [ByteArray.toList_eq, ByteArray.toList_eq, beq_eq_false_iff_ne]
  intro e
  have := congrArg List.length e
  rw [ba_size] at this
  exact h this
theorem uvarL_len : ∀ (k n : Nat), n < 128 ^ (k + 1) → (uvarL n).length ≤ k + 1
  | 0, n, h => by rw [uvar_lo (by omega)]; simp
  | k + 1, n, h => by
    by_cases h1 : n < 128
    · rw [uvar_lo h1]; simp
    · rw [uvar_hi h1]
      have h2 : n / 128 < 128 ^ (k + 1) := by
        rw [Nat.pow_succ] at h
        exact Nat.div_lt_of_lt_mul (by omega)
      have := uvarL_len k _ h2
      simp only [List.length_cons]; omega
theorem uvarS_size {n : Nat} (h : n < 2 ^ 64) : (uvarS n).size ≤ 10 := by
  have := uvarL_len 9 n (by have : (128 : Nat) ^ (9 + 1) = 2 ^ 70 := by decide
                            omega)
  show (uvarL n).toArray.size ≤ 10
  simpa using this
def textS (s : ByteArray) : ByteArray := uvarS s.size ++ s
theorem textS_size {s : ByteArray} (h : s.size ≤ 1000000000000) : (textS s).size ≤ s.size + 10 := by
  have := uvarS_size (n := s.size) (by omega)
  unfold textS
  rw [ByteArray.size_append]; omega
theorem text_con (s : ByteArray) (h : s.size ≤ 1000000000000) : Con Try.prog gl 65 [STR s] (STR (textS s)) := by
  have c0 := uint_con (gl := gl) s.size (by omega)
  have hw := w64 (m := s.size) (by omega)
  have hu := uvarS_size (n := s.size) (by omega)
  unfold textS
  refine con_of Try.func65 rfl (by kernel_rfl) rfl ?_
  simp only [Try.ntmps65, Try.results65, argEnv, ofC, of1, List.map]
  repeat' (first
 | ((with_reducible apply r_len_s); exact rfl; exact rfl)
 | ((with_reducible apply r_conv); exact rfl; exact hw; exact rfl)
 | ((with_reducible apply r_call); exact rfl; exact rfl; exact c0; exact rfl; exact rfl)
 | ((with_reducible apply r_adds); exact rfl; exact rfl; exact (by omega); exact rfl)
 | ((with_reducible apply aw_seq))
 | ((with_reducible apply aw_region))
 | ((with_reducible apply thn_normal))
 | ((with_reducible apply aw_ret))
 | ((with_reducible apply ao_nil))
 | ((with_reducible apply r_move); exact rfl; exact rfl)
 | ((with_reducible apply r_assign); exact rfl; exact rfl)
 )
  exact ret1 (.tmp rfl cl_c)
theorem wrap8 {m : Nat} (h : m < 256) : IntKind.u8.wrap (m : Int) = (((UInt8.ofNat m).toNat : Nat) : Int) := by
  simp [IntKind.wrap, IntKind.bits, IntKind.signed]
theorem ruint_con : ∀ (k n : Nat), n < 128 ^ (k + 1) → n < 2 ^ 64 → Con Try.prog gl 67 [U n] (STR (uvarS n))
  | 0, n, h, hn => by
    have hn8 : n < 128 := by simpa using h
    have e : uvarS n = ⟨[UInt8.ofNat n].toArray⟩ := by unfold uvarS; rw [uvar_lo hn8]
    have hw := wrap8 (m := n) (by omega)
    rw [e]
    refine con_of Try.func67 rfl (by kernel_rfl) rfl ?_
    simp only [Try.ntmps67, Try.results67, argEnv, ofC, of1, List.map]
    repeat' (first
 | ((with_reducible apply r_conv); exact rfl; exact hw; exact rfl)
 | ((with_reducible apply r_litq); exact rfl; exact rfl; exact rfl; exact rfl; exact rfl; exact rfl; exact rfl)
 | ((with_reducible apply (r_strOf [UInt8.ofNat n])); exact rfl; exact rfl; exact (Nat.succ_pos _); exact rfl)
 | ((with_reducible apply aw_seq))
 | ((with_reducible apply aw_region))
 | ((with_reducible apply thn_normal))
 | ((with_reducible apply thn_ret))
 | ((with_reducible apply aw_ret))
 | ((with_reducible apply ao_nil))
 | ((with_reducible apply r_move); exact rfl; exact rfl)
 | ((with_reducible apply r_assign); exact rfl; exact rfl)
 | ((with_reducible apply r_lss); exact rfl; exact rfl; exact rfl)
 | (((with_reducible apply aw_cond); exact rfl) <;> intro hg <;> (first | (exact absurd hg (by decide)) | ((try simp only [decide_eq_true_eq, decide_eq_false_iff_not, Bool.not_eq_true', Bool.not_eq_false', Bool.not_true, Bool.not_false, Bool.not_not, Int.not_lt, Int.not_le, Nat.not_lt, Nat.not_le, gt_iff_lt, ge_iff_le, List.cons.injEq, and_true] at hg); first | (exact absurd trivial hg) | (exfalso; omega) | (have hT : True := hg; clear hT hg) | skip)))
 )
    all_goals exact ret1 (.tmp rfl cl_c)
  | k + 1, n, h, hn => by
    by_cases hn8 : n < 128
    · exact ruint_con 0 n (by simpa using hn8) hn
    have e : uvarS n = ⟨[UInt8.ofNat (128 + n % 128)].toArray⟩ ++ uvarS (n / 128) := by
      apply ba_eq
      rw [ba_app]
      show uvarL n = [_] ++ uvarL (n / 128)
      rw [uvar_hi hn8]; rfl
    have c0 := ruint_con k (n / 128) (by rw [Nat.pow_succ] at h; exact Nat.div_lt_of_lt_mul (by omega)) (by omega)
    have hw := wrap8 (m := 128 + n % 128) (by omega)
    have hr : (n : Int).tmod 128 = ((n % 128 : Nat) : Int) := by rw [Int.tmod_eq_emod_of_nonneg (by omega)]; omega
    have ha : IntKind.u64.wrap (128 + ((n % 128 : Nat) : Int)) = ((128 + n % 128 : Nat) : Int) := by
      rw [show (128 + ((n % 128 : Nat) : Int)) = ((128 + n % 128 : Nat) : Int) by push_cast; rfl]; exact w64 (by omega)
    have hq : IntKind.u64.wrap ((n : Int).tdiv 128) = ((n / 128 : Nat) : Int) := by
      rw [Int.tdiv_eq_ediv_of_nonneg (by omega), show ((n : Int) / 128) = ((n / 128 : Nat) : Int) by omega]; exact w64 (by omega)
    have hs := uvarS_size (n := n / 128) (by omega)
    rw [e]
    refine con_of Try.func67 rfl (by kernel_rfl) rfl ?_
    simp only [Try.ntmps67, Try.results67, argEnv, ofC, of1, List.map]
    repeat' (first
 | ((with_reducible apply r_remv); exact rfl; exact rfl; exact (by decide); exact hr; exact rfl)
 | ((with_reducible apply r_addv); exact rfl; exact rfl; exact ha; exact rfl)
 | ((with_reducible apply r_quow); exact rfl; exact rfl; exact (by decide); exact hq; exact rfl)
 | ((with_reducible apply r_conv); exact rfl; exact hw; exact rfl)
 | ((with_reducible apply r_litq); exact rfl; exact rfl; exact rfl; exact rfl; exact rfl; exact rfl; exact rfl)
 | ((with_reducible apply (r_strOf [UInt8.ofNat (128 + n % 128)])); exact rfl; exact rfl; exact (Nat.succ_pos _); exact rfl)
 | ((with_reducible apply r_call); exact rfl; exact rfl; exact c0; exact rfl; exact rfl)
 | ((with_reducible apply r_adds); exact rfl; exact rfl; exact (by show 1 + _ ≤ _; omega); exact rfl)
 | ((with_reducible apply aw_seq))
 | ((with_reducible apply aw_region))
 | ((with_reducible apply thn_normal))
 | ((with_reducible apply aw_skip))
 | ((with_reducible apply aw_ret))
 | ((with_reducible apply ao_nil))
 | ((with_reducible apply r_move); exact rfl; exact rfl)
 | ((with_reducible apply r_assign); exact rfl; exact rfl)
 | ((with_reducible apply r_lss); exact rfl; exact rfl; exact rfl)
 | (((with_reducible apply aw_cond); exact rfl) <;> intro hg <;> (first | (exact absurd hg (by decide)) | ((try simp only [decide_eq_true_eq, decide_eq_false_iff_not, Bool.not_eq_true', Bool.not_eq_false', Bool.not_true, Bool.not_false, Bool.not_not, Int.not_lt, Int.not_le, Nat.not_lt, Nat.not_le, gt_iff_lt, ge_iff_le, List.cons.injEq, and_true] at hg); first | (exact absurd trivial hg) | (exfalso; omega) | (have hT : True := hg; clear hT hg) | skip)))
 | (refine aw_drawq ?_ ?_; (kernel_rfl))
 | ((with_reducible apply ds_nil))
 )
    all_goals exact ret1 (.tmp rfl cl_c)
theorem rtext_con (s : ByteArray) (h : s.size ≤ 1000000000000) : Con Try.prog gl 44 [STR s] (STR (textS s)) := by
  have c0 := ruint_con (gl := gl) 9 s.size (by have : (128 : Nat) ^ (9 + 1) = 2 ^ 70 := by decide
                                               omega) (by omega)
  have hw := w64 (m := s.size) (by omega)
  have hu := uvarS_size (n := s.size) (by omega)
  unfold textS
  refine con_of Try.func44 rfl (by kernel_rfl) rfl ?_
  simp only [Try.ntmps44, Try.results44, argEnv, ofC, of1, List.map]
  repeat' (first
 | ((with_reducible apply r_len_s); exact rfl; exact rfl)
 | ((with_reducible apply r_conv); exact rfl; exact hw; exact rfl)
 | ((with_reducible apply r_call); exact rfl; exact rfl; exact c0; exact rfl; exact rfl)
 | ((with_reducible apply r_adds); exact rfl; exact rfl; exact (by omega); exact rfl)
 | ((with_reducible apply aw_seq))
 | ((with_reducible apply aw_region))
 | ((with_reducible apply thn_normal))
 | ((with_reducible apply aw_ret))
 | ((with_reducible apply ao_nil))
 | ((with_reducible apply r_move); exact rfl; exact rfl)
 | ((with_reducible apply r_assign); exact rfl; exact rfl)
 )
  exact ret1 (.tmp rfl cl_c)
def restN (m : UInt8) (n : Nat) (p : ByteArray) : ByteArray := ⟨[m, UInt8.ofNat (48 + n / 10), UInt8.ofNat (48 + n % 10)].toArray⟩ ++ p
theorem restN_size (m : UInt8) (n : Nat) (p : ByteArray) : (restN m n p).size = 3 + p.size := by
  unfold restN; rw [ByteArray.size_append]; rfl
def markB (last : Bool) : UInt8 := bif last then 46 else 43
theorem rest_con (p : ByteArray) (last : Bool) (h : p.size ≤ 1000) : Con Try.prog gl 45 [STR p, BO last] (STR (restN (markB last) p.size p)) := by
  have e : restN (markB last) p.size p = (⟨[markB last].toArray⟩ ++ ⟨[UInt8.ofNat (48 + p.size / 10), UInt8.ofNat (48 + p.size % 10)].toArray⟩ : ByteArray) ++ p := by
    apply ba_eq; unfold restN; rw [ba_app, ba_app, ba_app]; rfl
  have hq : (p.size : Int).tdiv 10 = ((p.size / 10 : Nat) : Int) := by rw [Int.tdiv_eq_ediv_of_nonneg (by omega)]; omega
  have hr : (p.size : Int).tmod 10 = ((p.size % 10 : Nat) : Int) := by rw [Int.tmod_eq_emod_of_nonneg (by omega)]; omega
  have hw1 : IntKind.u8.wrap (48 + ((p.size / 10 : Nat) : Int)) = (((UInt8.ofNat (48 + p.size / 10)).toNat : Nat) : Int) := by
    rw [show (48 + ((p.size / 10 : Nat) : Int)) = ((48 + p.size / 10 : Nat) : Int) by push_cast; rfl]; exact wrap8 (by omega)
  have hw2 : IntKind.u8.wrap (48 + ((p.size % 10 : Nat) : Int)) = (((UInt8.ofNat (48 + p.size % 10)).toNat : Nat) : Int) := by
    rw [show (48 + ((p.size % 10 : Nat) : Int)) = ((48 + p.size % 10 : Nat) : Int) by push_cast; rfl]; exact wrap8 (by omega)
  rw [e]
  refine con_of Try.func45 rfl (by kernel_rfl) rfl ?_
  simp only [Try.ntmps45, Try.results45, argEnv, ofC, of1, List.map]
  cases last
  all_goals
    repeat' (first
 | ((with_reducible apply r_len_s); exact rfl; exact rfl)
 | ((with_reducible apply r_quo); exact rfl; exact rfl; exact (by decide); exact (by rw [hq]; unfold fits; omega); exact rfl)
 | ((with_reducible apply r_rem); exact rfl; exact rfl; exact (by decide); exact rfl)
 | (rw [hq])
 | (rw [hr])
 | ((with_reducible apply r_conv); exact rfl; (first | exact hw1 | exact hw2); exact rfl)
 | ((with_reducible apply r_litq); exact rfl; exact rfl; exact rfl; exact rfl; exact rfl; exact rfl; exact rfl)
 | ((with_reducible apply (r_strOf [UInt8.ofNat (48 + p.size / 10), UInt8.ofNat (48 + p.size % 10)])); exact rfl; exact rfl; exact (Nat.succ_pos _); exact rfl)
 | ((with_reducible apply r_adds); exact rfl; exact rfl; (first | exact (by show 1 + 2 ≤ _; decide) | exact (by rw [ByteArray.size_append]; show 1 + 2 + _ ≤ _; omega)); exact rfl)
 | ((with_reducible apply aw_seq))
 | ((with_reducible apply aw_region))
 | ((with_reducible apply thn_normal))
 | ((with_reducible apply aw_skip))
 | ((with_reducible apply aw_ret))
 | ((with_reducible apply ao_nil))
 | ((with_reducible apply r_move); exact rfl; exact rfl)
 | ((with_reducible apply r_assign); exact rfl; exact rfl)
 | ((with_reducible apply r_add); exact rfl; exact rfl; exact (by first | assumption | (unfold fits; omega)); exact rfl)
 | (((with_reducible apply aw_cond); exact rfl) <;> intro hg <;> (first | (exact absurd hg (by decide)) | ((try simp only [decide_eq_true_eq, decide_eq_false_iff_not, Bool.not_eq_true', Bool.not_eq_false', Bool.not_true, Bool.not_false, Bool.not_not, Int.not_lt, Int.not_le, Nat.not_lt, Nat.not_le, gt_iff_lt, ge_iff_le, List.cons.injEq, and_true] at hg); first | (exact absurd trivial hg) | (exfalso; omega) | (have hT : True := hg; clear hT hg) | skip)))
 )
    all_goals exact ret1 (.tmp rfl cl_c)
def chkS (g : List ByteArray) : Int := if g = [] then 3 else if 32 < g.length then 4 else if g.any (fun s => decide (16384 < s.size)) then 4 else 0
theorem any_far {g : List ByteArray} {j : Nat} (hj : j < g.length) (h : 16384 < g[j].size) : g.any (fun s => decide (16384 < s.size)) = true := List.any_eq_true.2 ⟨_, List.getElem_mem hj, by simpa using h⟩
theorem any_not {g : List ByteArray} (h : ∀ i (hi : i < g.length), g[i].size ≤ 16384) : g.any (fun s => decide (16384 < s.size)) = false := by
  rw [List.any_eq_false]
  intro s hs
  obtain ⟨i, hi, rfl⟩ := List.mem_iff_getElem.1 hs
  have := h i hi
  simp; omega
theorem check_con (g : List ByteArray) (hg : g.length ≤ 1000000000000) : Con Try.prog gl 43 [LT g] (I (chkS g)) := by
  unfold chkS
  refine con_of Try.func43 rfl (by kernel_rfl) rfl ?_
  simp only [Try.ntmps43, Try.results43, argEnv, ofC, of1, List.map]
  by_cases h0 : g = []
  · rw [if_pos h0]
    subst h0
    repeat' (first
 | ((with_reducible apply aw_seq))
 | ((with_reducible apply aw_region))
 | ((with_reducible apply thn_normal))
 | ((with_reducible apply thn_ret))
 | ((with_reducible apply aw_ret))
 | ((with_reducible apply ao_nil))
 | ((with_reducible apply r_move); exact rfl; exact rfl)
 | ((with_reducible apply r_assign); exact rfl; exact rfl)
 | ((with_reducible apply r_eql); exact rfl; exact rfl; exact rfl)
 | ((with_reducible apply r_len_f); exact rfl; exact inferInstance; exact rfl)
 | (((with_reducible apply aw_cond); exact rfl) <;> intro hg <;> (first | (exact absurd hg (by decide)) | ((try simp only [decide_eq_true_eq, decide_eq_false_iff_not, Bool.not_eq_true', Bool.not_eq_false', Bool.not_true, Bool.not_false, Bool.not_not, Int.not_lt, Int.not_le, Nat.not_lt, Nat.not_le, gt_iff_lt, ge_iff_le, List.cons.injEq, and_true] at hg); first | (exact absurd trivial hg) | (exfalso; omega) | (have hT : True := hg; clear hT hg) | skip)))
 )
    all_goals exact ret1 (.tmp rfl cl_c)
  rw [if_neg h0]
  have hpos : 0 < g.length := List.length_pos_iff.2 h0
  by_cases h1 : 32 < g.length
  · rw [if_pos h1]
    repeat' (first
 | ((with_reducible apply aw_seq))
 | ((with_reducible apply aw_region))
 | ((with_reducible apply thn_normal))
 | ((with_reducible apply thn_ret))
 | ((with_reducible apply aw_skip))
 | ((with_reducible apply aw_ret))
 | ((with_reducible apply ao_nil))
 | ((with_reducible apply r_move); exact rfl; exact rfl)
 | ((with_reducible apply r_assign); exact rfl; exact rfl)
 | ((with_reducible apply r_gtr); exact rfl; exact rfl; exact rfl)
 | ((with_reducible apply r_eql); exact rfl; exact rfl; exact rfl)
 | ((with_reducible apply r_len_f); exact rfl; exact inferInstance; exact rfl)
 | (((with_reducible apply aw_cond); exact rfl) <;> intro hg <;> (first | (exact absurd hg (by decide)) | ((try simp only [decide_eq_true_eq, decide_eq_false_iff_not, Bool.not_eq_true', Bool.not_eq_false', Bool.not_true, Bool.not_false, Bool.not_not, Int.not_lt, Int.not_le, Nat.not_lt, Nat.not_le, gt_iff_lt, ge_iff_le, List.cons.injEq, and_true] at hg); first | (exact absurd trivial hg) | (exfalso; omega) | (have hT : True := hg; clear hT hg) | skip)))
 )
    all_goals exact ret1 (.tmp rfl cl_c)
  rw [if_neg h1]
  repeat' (first
 | ((with_reducible apply aw_seq))
 | ((with_reducible apply aw_region))
 | ((with_reducible apply aw_block))
 | ((with_reducible apply thn_normal))
 | ((with_reducible apply aw_skip))
 | ((with_reducible apply ao_nil))
 | ((with_reducible apply r_move); exact rfl; exact rfl)
 | ((with_reducible apply r_assign); exact rfl; exact rfl)
 | ((with_reducible apply r_gtr); exact rfl; exact rfl; exact rfl)
 | ((with_reducible apply r_eql); exact rfl; exact rfl; exact rfl)
 | ((with_reducible apply r_len_f); exact rfl; exact inferInstance; exact rfl)
 | (((with_reducible apply aw_cond); exact rfl) <;> intro hg <;> (first | (exact absurd hg (by decide)) | ((try simp only [decide_eq_true_eq, decide_eq_false_iff_not, Bool.not_eq_true', Bool.not_eq_false', Bool.not_true, Bool.not_false, Bool.not_not, Int.not_lt, Int.not_le, Nat.not_lt, Nat.not_le, gt_iff_lt, ge_iff_le, List.cons.injEq, and_true] at hg); first | (exact absurd trivial hg) | (exfalso; omega) | (have hT : True := hg; clear hT hg) | skip)))
 )
  refine aw_loopG (G := Nat) (fun (j : Nat) => j ≤ g.length ∧ ∀ i (hi : i < g.length), i < j → g[i].size ≤ 16384) (fun (j : Nat) => g.length - j) (fun (j : Nat) => [(0, .c (LT g)), (3, A j)]) (fun (j : Nat) => []) 0 0 ?_ (by refine weak_mk rfl ?_ ?_ <;> repeat (first | exact envW_nil | exact heapW_nil | refine envW_cons rfl rfl ?_ | refine heapW_cons rfl rfl rfl ?_)) rfl ?_
  · exact ⟨Nat.zero_le _, fun i _ h => absurd h (Nat.not_lt_zero _)⟩
  rintro j hI
  try dsimp only at hI
  try dsimp only
  obtain ⟨h2, h3⟩ := hI
  by_cases hj : j < g.length
  · by_cases hb : 16384 < g[j].size
    · rw [any_far hj hb, if_pos rfl]
      repeat' (first
 | ((with_reducible apply r_len_s); exact rfl; exact rfl)
 | ((with_reducible apply aw_seq))
 | ((with_reducible apply aw_region))
 | ((with_reducible apply aw_block))
 | ((with_reducible apply thn_normal))
 | ((with_reducible apply thn_ret))
 | ((with_reducible apply inb_ret))
 | ((with_reducible apply aw_skip))
 | ((with_reducible apply aw_ret))
 | ((with_reducible apply ao_nil))
 | ((with_reducible apply r_move); exact rfl; exact rfl)
 | ((with_reducible apply r_assign); exact rfl; exact rfl)
 | ((with_reducible apply r_lss); exact rfl; exact rfl; exact rfl)
 | ((with_reducible apply r_gtr); exact rfl; exact rfl; exact rfl)
 | ((with_reducible apply r_len_f); exact rfl; exact inferInstance; exact rfl)
 | ((with_reducible apply r_index_f); exact rfl; exact inferInstance; exact rfl; exact rfl; (first | assumption | omega); exact rfl)
 | ((with_reducible apply r_load_f0); exact rfl; exact inferInstance; exact List.getElem?_eq_getElem (by first | assumption | omega); exact rfl; exact rfl)
 | (((with_reducible apply aw_cond); exact rfl) <;> intro hg <;> (first | (exact absurd hg (by decide)) | ((try simp only [decide_eq_true_eq, decide_eq_false_iff_not, Bool.not_eq_true', Bool.not_eq_false', Bool.not_true, Bool.not_false, Bool.not_not, Int.not_lt, Int.not_le, Nat.not_lt, Nat.not_le, gt_iff_lt, ge_iff_le, List.cons.injEq, and_true] at hg); first | (exact absurd trivial hg) | (exfalso; omega) | (have hT : True := hg; clear hT hg) | skip)))
 )
      all_goals exact ret1 (.tmp rfl cl_c)
    · skip
      repeat' (first
 | ((with_reducible apply r_len_s); exact rfl; exact rfl)
 | ((with_reducible apply aw_seq))
 | ((with_reducible apply aw_region))
 | ((with_reducible apply aw_block))
 | ((with_reducible apply thn_normal))
 | ((with_reducible apply inb_normal))
 | ((with_reducible apply aw_skip))
 | ((with_reducible apply ao_nil))
 | ((with_reducible apply r_move); exact rfl; exact rfl)
 | ((with_reducible apply r_assign); exact rfl; exact rfl)
 | ((with_reducible apply r_lss); exact rfl; exact rfl; exact rfl)
 | ((with_reducible apply r_gtr); exact rfl; exact rfl; exact rfl)
 | ((with_reducible apply r_add); exact rfl; exact rfl; exact (by first | assumption | (unfold fits; omega)); exact rfl)
 | ((with_reducible apply r_len_f); exact rfl; exact inferInstance; exact rfl)
 | ((with_reducible apply r_index_f); exact rfl; exact inferInstance; exact rfl; exact rfl; (first | assumption | omega); exact rfl)
 | ((with_reducible apply r_load_f0); exact rfl; exact inferInstance; exact List.getElem?_eq_getElem (by first | assumption | omega); exact rfl; exact rfl)
 | (((with_reducible apply aw_cond); exact rfl) <;> intro hg <;> (first | (exact absurd hg (by decide)) | ((try simp only [decide_eq_true_eq, decide_eq_false_iff_not, Bool.not_eq_true', Bool.not_eq_false', Bool.not_true, Bool.not_false, Bool.not_not, Int.not_lt, Int.not_le, Nat.not_lt, Nat.not_le, gt_iff_lt, ge_iff_le, List.cons.injEq, and_true] at hg); first | (exact absurd trivial hg) | (exfalso; omega) | (have hT : True := hg; clear hT hg) | skip)))
 )
      refine ⟨j + 1, ?_, ?_, by refine weak_mk rfl ?_ ?_ <;> repeat (first | exact envW_nil | exact heapW_nil | refine envW_cons rfl rfl ?_ | refine heapW_cons rfl rfl rfl ?_)⟩
      · show _ - (j + 1) < _ - j; omega
      · refine ⟨hj, fun i hi h => ?_⟩
        by_cases e : i = j
        · subst e; omega
        · exact h3 i hi (by have : i < j + 1 := h; omega)
  · rw [any_not (fun i hi => h3 i hi (by omega)), if_neg (by decide)]
    repeat' (first
 | ((with_reducible apply aw_seq))
 | ((with_reducible apply aw_region))
 | ((with_reducible apply thn_normal))
 | ((with_reducible apply thn_exit))
 | ((with_reducible apply inb_exit))
 | ((with_reducible apply aw_exit))
 | ((with_reducible apply aw_ret))
 | ((with_reducible apply ao_nil))
 | ((with_reducible apply r_move); exact rfl; exact rfl)
 | ((with_reducible apply r_assign); exact rfl; exact rfl)
 | ((with_reducible apply r_lss); exact rfl; exact rfl; exact rfl)
 | ((with_reducible apply r_len_f); exact rfl; exact inferInstance; exact rfl)
 | (((with_reducible apply aw_cond); exact rfl) <;> intro hg <;> (first | (exact absurd hg (by decide)) | ((try simp only [decide_eq_true_eq, decide_eq_false_iff_not, Bool.not_eq_true', Bool.not_eq_false', Bool.not_true, Bool.not_false, Bool.not_not, Int.not_lt, Int.not_le, Nat.not_lt, Nat.not_le, gt_iff_lt, ge_iff_le, List.cons.injEq, and_true] at hg); first | (exact absurd trivial hg) | (exfalso; omega) | (have hT : True := hg; clear hT hg) | skip)))
 )
    all_goals exact ret1 (.tmp rfl cl_c)
end Go.Proofs.Ythkjkhffljlidaa.Jo
/- A strings.Builder as an object of a walk: WriteString, String, Reset. -/
namespace Go.Proofs.Ythkjkhffljlidaa.Jo
set_option linter.unusedVariables false
set_option linter.unusedSimpArgs false
open Go.RowKit Go.Proofs.Ythkjkhffljlidaa.Ev
variable {gl : List (Nat × List CV)}
abbrev TB : Nat := 116
abbrev TU : Nat := 5
theorem append_where (w : World) (ty : TypeId) (v : Value) (n : Nat) (xs : List Value) (hown : w.ownsRow 0 TU 1 v n xs) (s : ByteArray) (h63 : n + s.size ≤ maxLen) (hbytes : n + s.size ≤ 140737488355328) {v' : Value} {w' : World} (hr : (Builtin.append_ #[84, 9] ty #[v, .string s]).run Try.prog w = .ok v' w') : ∀ k, v'.ownBlock = some k → v.ownBlock = some k ∨ w.heap.size ≤ k := by
  obtain ⟨i0, hi, hz0, hz1, hz2⟩ := info_parts (show (Try.prog.info? TU).map (fun i => (i.zero, i.size, i.bytes)) = some (some (.int .u8 0), 1, 1) by kernel_rfl)
  have hsmall : n + s.size ≤ 9223372036854775807 := by simp only [maxLen] at h63; omega
  have hxl : xs.length = n := by simpa using hown.1
  intro k hk
  rcases hown.2 with ⟨rfl, rfl⟩ | ⟨g, cap, cur, rfl, hbg, hg, hnc, hcm, hcs, htake⟩
  · by_cases hm : s.size = 0
    · obtain ⟨v2, w2, hr2, _, _, h4⟩ := Lib.run_append_own_string (P := Try.prog) w 0 84 9 ty TU i0 Try.underlying84 Try.underlying9 hi hz0 hz1 hz2 _ 0 xs hown s h63 hbytes (Nat.zero_le _)
      rw [hr2] at hr
      cases hr
      rw [h4.2 ⟨rfl, hm⟩] at hk
      cases hk
    · have := run_append_nil_string (P := Try.prog) w 84 9 ty TU i0 (.int .u8 0) Try.underlying84 Try.underlying9 hi hz0 s (by omega) (by omega) (by rw [hz2]; omega)
      rw [this] at hr
      cases hr
      simp only [Value.ownBlock, Option.some.injEq] at hk
      exact .inr (by omega)
  · have hcs' : cur.size = cap := by simpa using hcs
    by_cases hroom : n + s.size ≤ cap
    · have := Lib.run_append_room_string (P := Try.prog) w 84 9 ty TU i0 Try.underlying84 Try.underlying9 hi hz1 g n cap cur hg s hroom (by omega)
      rw [this] at hr
      cases hr
      exact .inl hk
    · have holds : ∀ j u, xs[j]? = some u → w.cell? ((⟨g, 0, none⟩ : Addr).add j) = some u := hown.cells (g := g) rfl
      have := Lib.run_append_grow_string (P := Try.prog) w 84 9 ty TU i0 (.int .u8 0) Try.underlying84 Try.underlying9 hi hz0 ⟨g, 0, none⟩ n cap xs (by rw [hz1]; simpa using hxl) holds s (by omega) (by omega) (by rw [hz2]; exact growslice_fits (by omega) (by omega))
      rw [this] at hr
      cases hr
      simp only [Value.ownBlock, Option.some.injEq] at hk
      exact .inr (by omega)
theorem wpl_append_str {ops : Array Oper} {rest : List Oper} {o : Oper} {a : Act} {Q : Exit → Act → World → Prop} {w : World} (hgd : o.guard = none) (sl x : Operand) (ho : o.op = .call { callee := .builtin .append, args := #[sl, x], argTypes := #[84, 9] })
    (v : Value) (n : Nat) (xs : List Value) (hs : a.eval sl = v) (hown : w.ownsRow 0 TU 1 v n xs) (s : ByteArray) (hx : a.eval x = .string s) (h63 : n + s.size ≤ maxLen) (hbytes : n + s.size ≤ 140737488355328)
    (h : ∀ v' w', w'.ownsRow 0 TU 1 v' (n + s.size) (xs ++ Lib.strCells s) → w.grownBy w' v.ownBlock → (∀ k, v'.ownBlock = some k → v.ownBlock = some k ∨ w.heap.size ≤ k) → wpList Try.prog ops Q rest (a.put o.dst v') w') : wpList Try.prog ops Q (o :: rest) a w := by
  obtain ⟨i0, hi, hz0, hz1, hz2⟩ := info_parts (show (Try.prog.info? TU).map (fun i => (i.zero, i.size, i.bytes)) = some (some (.int .u8 0), 1, 1) by kernel_rfl)
  refine wpList_plain hgd fun K hK => ?_
  obtain ⟨v', w', hr, h2, h3, _⟩ := Lib.run_append_own_string (P := Try.prog) w 0 84 9 o.type TU i0 Try.underlying84 Try.underlying9 hi hz0 hz1 hz2 v n xs hown s h63 hbytes (Nat.zero_le _)
  have h4 := append_where w o.type v n xs hown s h63 hbytes hr
  unfold Oper.wp execOp
  simp only [ho, resolve, invoke, builtin, Sem.run_bind, Sem.run_pure, Result.andThen_ok, List.map_toArray, List.map_cons, List.map_nil, hs, hx, hr]
  exact hK _ _ (h v' w' h2 h3 h4)
theorem size_bld : (Try.prog.info? TB).map (·.size) = some 2 := by kernel_rfl
theorem lies_bld : liesAt Try.prog Try.prog.depth TB (2 / Try.prog.cellsOf TB) 0 TB 1 = true := by kernel_rfl
theorem copyCheck_used (b : Nat) (w : World) (h0 : w.cell? ⟨b, 0, none⟩ = some (.pointer (some ⟨b, 0, none⟩))) :
    Calls Try.prog 78 #[.pointer (some ⟨b, 0, none⟩)] w fun e w' => e = .returned (.tuple #[]) ∧ w' = w := by
  obtain ⟨j, hj, _⟩ := Option.map_eq_some_iff.1 size_bld
  go_enter Try.func78, Try.ntmps78
  go_wp2
  rw [Lib.run_neq_ptr_same w _ Try.underlying114 hj]
  go_wp2
  go_end0
  exact ⟨rfl, rfl⟩
theorem copyCheck_fresh (b : Nat) (w : World) (h0 : w.cell? ⟨b, 0, none⟩ = some (.pointer none)) (hsh : w.shape? b = some (TB, 2)) (hfz : w.frozen? ⟨b, 0, none⟩ = false) :
    Calls Try.prog 78 #[.pointer (some ⟨b, 0, none⟩)] w fun e w' => e = .returned (.tuple #[]) ∧ w' = w.setCell ⟨b, 0, none⟩ (.pointer (some ⟨b, 0, none⟩)) := by
  obtain ⟨j, hj, hjs⟩ := Option.map_eq_some_iff.1 size_bld
  go_enter Try.func78, Try.ntmps78
  go_wp2
  rw [Lib.run_to_unsafe w ⟨b, 0, none⟩ Try.underlying114 Try.underlying140 hj (by rw [hjs]; decide) hsh (Nat.zero_lt_succ 1)]
  simp only [Result.andThen]
  rw [Oper.upon_value]
  go_wp2
  rw [run_callFunc_extern Try.func88 (by kernel_rfl) (by kernel_rfl) (by kernel_rfl) (e := Extern.AbiNoEscape.same) (by kernel_rfl)]
  rw [Lib.run_noEscape]
  simp only [Result.andThen]
  rw [Oper.upon_value]
  go_wp2
  rw [Lib.run_from_unsafe w ⟨b, 0, none⟩ Try.underlying140 Try.underlying114 hj hsh lies_bld]
  simp only [Result.andThen]
  rw [Oper.upon_value]
  go_wp2
  go_end0
  exact ⟨rfl, rfl⟩
structure BldAt (w : World) (b : Nat) (v : Value) (bs : List UInt8) : Prop where
  blk : ∃ p, (p = .pointer none ∨ p = .pointer (some ⟨b, 0, none⟩)) ∧ w.heap[b]? = some (.cells #[p, v] TB (0, 0))
  own : w.ownsRow 0 TU 1 v bs.length (Lib.byteCells bs)
  ne : v.ownBlock ≠ some b
theorem copyCheck_any {w : World} {b : Nat} {v : Value} {bs : List UInt8} (h : BldAt w b v bs) :
    Calls Try.prog 78 #[.pointer (some ⟨b, 0, none⟩)] w fun e w' => e = .returned (.tuple #[]) ∧ w'.heap[b]? = some (.cells #[.pointer (some ⟨b, 0, none⟩), v] TB (0, 0)) ∧ w'.os = w.os ∧ w'.tape = w.tape ∧ w'.output = w.output ∧ w'.heap.size = w.heap.size ∧ ∀ k, k ≠ b → w'.heap[k]? = w.heap[k]? := by
  obtain ⟨p, hp, hb⟩ := h.blk
  have hB : Lib.BuilderAt TB TU 0 b p (Lib.byteCells bs) w := ⟨Nat.zero_le _, v, hb, by rw [Lib.byteCells_length]; exact h.own, h.ne⟩
  rcases hp with rfl | rfl
  · refine (copyCheck_fresh b w hB.cell0 hB.shape hB.frozen0).mono ?_
    rintro e w' ⟨rfl, rfl⟩
    refine ⟨rfl, ?_, rfl, rfl, rfl, by simp [World.setCell], fun k hk => ?_⟩
    · simp only [World.setCell, Array.getElem?_modify, if_pos, hb]
      simp
    · simp only [World.setCell, Array.getElem?_modify]
      rw [if_neg (Ne.symm hk)]
  · refine (copyCheck_used b w hB.cell0).mono ?_
    rintro e w' ⟨rfl, rfl⟩
    exact ⟨rfl, hb, rfl, rfl, rfl, rfl, fun _ _ => rfl⟩
theorem own_of {w w' : World} {v : Value} {n : Nat} {xs : List Value} {b : Nat} (h : w.ownsRow 0 TU 1 v n xs) (hk : ∀ k, k ≠ b → w'.heap[k]? = w.heap[k]?) (hne : v.ownBlock ≠ some b) : w'.ownsRow 0 TU 1 v n xs := by
  obtain ⟨f1, f2⟩ := h
  refine ⟨f1, ?_⟩
  rcases f2 with f2 | ⟨g, cap, cur, rfl, g1, g2, g3⟩
  · exact .inl f2
  · exact .inr ⟨g, cap, cur, rfl, g1, (hk g (fun e => hne (by simp [Value.ownBlock, e]))).trans g2, g3⟩
theorem strCells_bytes (s : ByteArray) : Lib.strCells s = Lib.byteCells s.data.toList := by
  simp [Lib.strCells, Lib.byteCells]
theorem writeString_any {w : World} {b : Nat} {v : Value} {bs : List UInt8} (h : BldAt w b v bs) (s : ByteArray) (hlen : bs.length + s.size ≤ 140737488355328) :
    Calls Try.prog 64 #[.pointer (some ⟨b, 0, none⟩), .string s] w fun e w' => e = .returned (.tuple #[.int .i64 s.size, .nilIface]) ∧ ∃ v', BldAt w' b v' (bs ++ s.data.toList) ∧ w'.os = w.os ∧ w'.tape = w.tape ∧ w'.output = w.output ∧ w.heap.size ≤ w'.heap.size ∧ (∀ k, k < w.heap.size → k ≠ b → v.ownBlock ≠ some k → w'.heap[k]? = w.heap[k]?) ∧ ∀ k, v'.ownBlock = some k → v.ownBlock = some k ∨ w.heap.size ≤ k := by
  have hbl : b < w.heap.size := by
    obtain ⟨p, _, hb⟩ := h.blk
    exact (Array.getElem?_eq_some_iff.1 hb).1
  go_enter Try.func64, Try.ntmps64
  go_wp2_with (go_at_call 78; refine (copyCheck_any h).mono ?_)
  rintro e w1 ⟨rfl, hbk, q1, q2, q3, q4, q5⟩
  have hown := own_of h.own q5 h.ne
  have c0 : w1.cell? ⟨b, 0, none⟩ = some (.pointer (some ⟨b, 0, none⟩)) := by rw [Lib.cell_of_heap hbk]; rfl
  have c1 : w1.cell? ⟨b, 1, none⟩ = some v := by rw [Lib.cell_of_heap hbk]; rfl
  go_wp2_with (at_builtin; refine wpl_append_str rfl _ _ rfl _ _ _ rfl hown s rfl ?c3 ?c4 ?_)
  case c3 => unfold maxLen; omega
  case c4 => omega
  intro v' w2 hown' hgrow hwh
  have hb2 : w2.heap[b]? = some (.cells #[.pointer (some ⟨b, 0, none⟩), v] TB (0, 0)) := by
    rw [hgrow.block b (by omega) (fun e => h.ne e.symm)]
    exact hbk
  have d0 : w2.cell? ⟨b, 0, none⟩ = some (.pointer (some ⟨b, 0, none⟩)) := by rw [Lib.cell_of_heap hb2]; rfl
  have d1 : w2.cell? ⟨b, 1, none⟩ = some v := by rw [Lib.cell_of_heap hb2]; rfl
  have f1 : w2.frozen? ⟨b, 1, none⟩ = false := Lib.frozen_of_heap hb2 1
  have hne' : v'.ownBlock ≠ some b := fun e => by
    rcases hwh b e with h1 | h1
    · exact h.ne h1
    · omega
  obtain ⟨ao, n', cap, rfl⟩ : ∃ ao n' cap, v' = .slice ao n' cap := by
    rcases hown'.2 with ⟨hv, _⟩ | ⟨g, cap, cur, hv, _⟩
    · exact ⟨_, _, _, hv⟩
    · exact ⟨_, _, _, hv⟩
  go_wp2
  go_ret2
  have hset : ∀ k, k ≠ b → (w2.setCell ⟨b, 1, none⟩ (.slice ao n' cap)).heap[k]? = w2.heap[k]? := fun k hk => by
    simp only [World.setCell, Array.getElem?_modify]
    rw [if_neg (Ne.symm hk)]
  refine ⟨rfl, .slice ao n' cap, ⟨⟨_, .inr rfl, ?_⟩, ?_, hne'⟩, ?_, ?_, ?_, ?_, fun k h1 h2 h3 => ?_, fun k hk => ?_⟩
  · simp only [World.setCell, Array.getElem?_modify, if_pos, hb2]
    simp
  · rw [List.length_append, show (Lib.byteCells (bs ++ s.data.toList)) = Lib.byteCells bs ++ Lib.strCells s by rw [strCells_bytes]; simp [Lib.byteCells]]
    exact own_of hown' hset hne'
  · exact hgrow.os.trans q1
  · exact hgrow.tape.trans q2
  · exact hgrow.output.trans q3
  · have := hgrow.size; simp [World.setCell]; omega
  · rw [hset k h2, hgrow.block k (by omega) (fun e => h3 e.symm), q5 k h2]
  · rcases hwh k hk with h1 | h1
    · exact .inl h1
    · exact .inr (by omega)
structure StrPost (w : World) (b : Nat) (v : Value) (w' : World) : Prop where
  blk : ∃ p, w'.heap[b]? = some (.cells #[p, v] TB (0, 0))
  os : w'.os = w.os
  tape : w'.tape = w.tape
  output : w'.output = w.output
  size : w.heap.size ≤ w'.heap.size
  block : ∀ k, k < w.heap.size → v.ownBlock ≠ some k → w'.heap[k]? = w.heap[k]?
theorem string_any {w : World} {b : Nat} {v : Value} {bs : List UInt8} (h : BldAt w b v bs) :
    Calls Try.prog 66 #[.pointer (some ⟨b, 0, none⟩)] w fun e w' => e = .returned (.string ⟨bs.toArray⟩) ∧ StrPost w b v w' := by
  obtain ⟨p, hp, hbk⟩ := h.blk
  have hbl : b < w.heap.size := (Array.getElem?_eq_some_iff.1 hbk).1
  have hown := h.own
  by_cases h0 : bs = []
  · subst h0
    have hUS : ∀ (W : World) (q : Option Addr), (Builtin.unsafeString_ #[132, 3] 9 #[.pointer q, .int .i64 0]).run Try.prog W = .ok (.string .empty) W := fun W q => Lib.run_unsafeString_none W _ _ _ q
    rcases hown.2 with ⟨rfl, _⟩ | ⟨g, cap, cur, rfl, hbg, hg, _, _, _, _⟩
    · have c1 : w.drew.cell? ⟨b, 1, none⟩ = some (.slice none 0 0) := by
        have : w.drew.heap[b]? = some (.cells #[p, .slice none 0 0] TB (0, 0)) := hbk
        rw [Lib.cell_of_heap this]; rfl
      have hSD : (Builtin.unsafeSliceData_ #[84] 132 #[.slice none 0 0]).run Try.prog w.drew = .ok (.pointer none) w.drew := rfl
      go_enter Try.func66, Try.ntmps66
      go_wp2
      go_region
      all_goals (go_wp2; go_ret; exact ⟨rfl, ⟨⟨p, hbk⟩, rfl, rfl, rfl, Nat.le_refl _, fun _ _ _ => rfl⟩⟩)
    · by_cases hc0 : cap = 0
      · subst hc0
        have c1 : w.drew.cell? ⟨b, 1, none⟩ = some (.slice (some ⟨g, 0, none⟩) 0 0) := by
          have : w.drew.heap[b]? = some (.cells #[p, .slice (some ⟨g, 0, none⟩) 0 0] TB (0, 0)) := hbk
          rw [Lib.cell_of_heap this]; rfl
        have hSD : (Builtin.unsafeSliceData_ #[84] 132 #[.slice (some ⟨g, 0, none⟩) 0 0]).run Try.prog w.drew = .ok (.pointer (some ⟨w.drew.heap.size, 0, none⟩)) (w.drew.alloc (.view ⟨g, 0, none⟩ TU)) :=
          Lib.run_unsafeSliceData_zero w.drew _ _ TU Try.underlying132 ⟨g, 0, none⟩ 0 (TU, cur.size) (by have hg' : w.drew.heap[g]? = some (.cells cur TU (0, 0)) := hg; simp [World.shape?, hg'])
        have c2 : (w.drew.alloc (.view ⟨g, 0, none⟩ TU)).cell? ⟨b, 1, none⟩ = some (.slice (some ⟨g, 0, none⟩) 0 0) := by
          have : (w.drew.alloc (.view ⟨g, 0, none⟩ TU)).heap[b]? = _ := (Lib.alloc_old w.drew _ b hbl).trans hbk
          rw [Lib.cell_of_heap this]; rfl
        have c3 : (w.alloc (.view ⟨g, 0, none⟩ TU)).drew.cell? ⟨b, 1, none⟩ = some (.slice (some ⟨g, 0, none⟩) 0 0) := c2
        have c4 : w.cell? ⟨b, 1, none⟩ = some (.slice (some ⟨g, 0, none⟩) 0 0) := c1
        go_enter Try.func66, Try.ntmps66
        go_wp2
        go_region
        all_goals (go_wp2; go_ret; exact ⟨rfl, ⟨⟨p, (Lib.alloc_old w _ b hbl).trans hbk⟩, rfl, rfl, rfl, by show w.heap.size ≤ (w.heap.push _).size; simp, fun k hk _ => Lib.alloc_old w _ k hk⟩⟩)
      · have c1 : w.drew.cell? ⟨b, 1, none⟩ = some (.slice (some ⟨g, 0, none⟩) 0 cap) := by
          have : w.drew.heap[b]? = some (.cells #[p, .slice (some ⟨g, 0, none⟩) 0 cap] TB (0, 0)) := hbk
          rw [Lib.cell_of_heap this]; rfl
        have hSD : (Builtin.unsafeSliceData_ #[84] 132 #[.slice (some ⟨g, 0, none⟩) 0 cap]).run Try.prog w.drew = .ok (.pointer (some ⟨g, 0, none⟩)) w.drew :=
          Lib.run_unsafeSliceData_row _ _ _ _ _ _ hc0
        clear hc0
        go_enter Try.func66, Try.ntmps66
        go_wp2
        go_region
        all_goals (go_wp2; go_ret; exact ⟨rfl, ⟨⟨p, hbk⟩, rfl, rfl, rfl, Nat.le_refl _, fun _ _ _ => rfl⟩⟩)
  · have hl0 : bs.length ≠ 0 := by simpa using h0
    obtain ⟨g, cap, cur, rfl, hbg, hg, hnc, hcm, hcs, htake⟩ : ∃ g cap cur, v = .slice (some ⟨g, 0, none⟩) bs.length cap ∧ 0 ≤ g ∧ w.heap[g]? = some (.cells cur TU (0, 0)) ∧ bs.length ≤ cap ∧ cap ≤ maxLen ∧ cur.size = cap * 1 ∧ cur.toList.take (bs.length * 1) = Lib.byteCells bs := by
      rcases hown.2 with ⟨_, hz⟩ | ⟨g, cap, cur, hv, r⟩
      · exact absurd hz hl0
      · exact ⟨g, cap, cur, hv, r⟩
    have c1 : w.drew.cell? ⟨b, 1, none⟩ = some (.slice (some ⟨g, 0, none⟩) bs.length cap) := by
      have : w.drew.heap[b]? = some (.cells #[p, .slice (some ⟨g, 0, none⟩) bs.length cap] TB (0, 0)) := hbk
      rw [Lib.cell_of_heap this]; rfl
    have hSD : (Builtin.unsafeSliceData_ #[84] 132 #[.slice (some ⟨g, 0, none⟩) bs.length cap]).run Try.prog w.drew = .ok (.pointer (some ⟨g, 0, none⟩)) w.drew :=
      Lib.run_unsafeSliceData_row _ _ _ _ _ _ (by omega)
    have hUS : (Builtin.unsafeString_ #[132, 3] 9 #[.pointer (some ⟨g, 0, none⟩), .int .i64 bs.length]).run Try.prog w.drew = .ok (.string ⟨bs.toArray⟩) (w.drew.freeze ⟨g, 0, none⟩ bs.length) := by
      refine Lib.run_unsafeString_row w.drew 132 3 9 TU Try.underlying132 (by kernel_rfl) g cur.size (by have hg' : w.drew.heap[g]? = some (.cells cur TU (0, 0)) := hg; simp [World.shape?, hg']) bs h0 (by omega) (by unfold maxLen at hcm; omega) ?_
      intro j x hx
      exact hown.cells (g := g) rfl j (.int .u8 x.toNat) (by simp [Lib.byteCells, hx])
    have hgb : g ≠ b := fun e => h.ne (by simp [Value.ownBlock, e])
    have hfz : ∀ k, k ≠ g → (w.drew.freeze ⟨g, 0, none⟩ bs.length).heap[k]? = w.heap[k]? := fun k hk => by
      unfold World.freeze
      rw [if_neg hl0]
      show (w.heap.modify g _)[k]? = _
      rw [Array.getElem?_modify, if_neg (Ne.symm hk)]
    have hsz : w.heap.size ≤ (w.drew.freeze ⟨g, 0, none⟩ bs.length).heap.size := by
      unfold World.freeze
      rw [if_neg hl0]
      show w.heap.size ≤ (w.heap.modify g _).size
      simp
    have hos : (w.drew.freeze ⟨g, 0, none⟩ bs.length).os = w.os ∧ (w.drew.freeze ⟨g, 0, none⟩ bs.length).tape = w.tape ∧ (w.drew.freeze ⟨g, 0, none⟩ bs.length).output = w.output := by
      unfold World.freeze
      rw [if_neg hl0]
      exact ⟨rfl, rfl, rfl⟩
    go_enter Try.func66, Try.ntmps66
    go_wp2
    go_region
    all_goals (go_wp2; go_ret; exact ⟨rfl, ⟨⟨p, (hfz b (Ne.symm hgb)).trans hbk⟩, hos.1, hos.2.1, hos.2.2, hsz, fun k _ hk => hfz k (fun e => hk (by simp [Value.ownBlock, e]))⟩⟩)
theorem reset_any {w : World} {b : Nat} {p v : Value} (hb : w.heap[b]? = some (.cells #[p, v] TB (0, 0))) :
    Calls Try.prog 74 #[.pointer (some ⟨b, 0, none⟩)] w fun e w' => e = .returned (.tuple #[]) ∧ w'.heap[b]? = some (.cells #[.pointer none, .slice none 0 0] TB (0, 0)) ∧ w'.os = w.os ∧ w'.tape = w.tape ∧ w'.output = w.output ∧ w'.heap.size = w.heap.size ∧ ∀ k, k ≠ b → w'.heap[k]? = w.heap[k]? := by
  have c0 : w.cell? ⟨b, 0, none⟩ = some p := by rw [Lib.cell_of_heap hb]; rfl
  have c1 : w.cell? ⟨b, 1, none⟩ = some v := by rw [Lib.cell_of_heap hb]; rfl
  have f0 : w.frozen? ⟨b, 0, none⟩ = false := Lib.frozen_of_heap hb 0
  have f1 : w.frozen? ⟨b, 1, none⟩ = false := Lib.frozen_of_heap hb 1
  go_enter Try.func74, Try.ntmps74
  go_wp2
  go_end0
  refine ⟨rfl, ?_, rfl, rfl, rfl, by simp [World.setCell], fun k hk => ?_⟩
  · simp only [World.setCell, Array.getElem?_modify, if_pos, hb]
    simp
  · simp only [World.setCell, Array.getElem?_modify]
    rw [if_neg (Ne.symm hk), if_neg (Ne.symm hk)]
def bldP (bs : List UInt8) : ObjP where
  holds := fun w g fp => ∃ v, BldAt w g v bs ∧ ∀ k, fp k ↔ (k = g ∨ v.ownBlock = some k)
  stable := fun w w' g fp ⟨v, h, hf⟩ hk => by
    obtain ⟨p, hp, hb⟩ := h.blk
    refine ⟨v, ⟨⟨p, hp, (hk g ((hf g).2 (.inl rfl))).trans hb⟩, ?_, h.ne⟩, hf⟩
    obtain ⟨f1, f2⟩ := h.own
    refine ⟨f1, ?_⟩
    rcases f2 with f2 | ⟨g', cap, cur, rfl, g1, g2, g3⟩
    · exact .inl f2
    · exact .inr ⟨g', cap, cur, rfl, g1, (hk g' ((hf g').2 (.inr rfl))).trans g2, g3⟩
def bldD : ObjP where
  holds := fun w g fp => (∃ p v, w.heap[g]? = some (.cells #[p, v] TB (0, 0))) ∧ ∀ k, fp k ↔ k = g
  stable := fun w w' g fp ⟨⟨p, v, h⟩, hf⟩ hk => ⟨⟨p, v, (hk g ((hf g).2 rfl)).trans h⟩, hf⟩
theorem bld_new (w : World) (g : Nat) (h : w.heap[g]? = some (.cells #[.pointer none, .slice none 0 0] TB (0, 0))) : (bldP []).holds w g (fun k => k = g) :=
  ⟨.slice none 0 0, ⟨⟨_, .inl rfl, h⟩, ⟨rfl, .inl ⟨rfl, rfl⟩⟩, by simp [Value.ownBlock]⟩, fun k => by simp [Value.ownBlock]⟩
theorem one_val {F : Nat → Prop} {w : World} {g : Nat} {vs : Array Value} (hlen : 1 = vs.size) (hv : ∀ (i : Nat) (x : OA) (u : Value), [OA.p][i]? = some x → vs[i]? = some u → x.rel F w g u) : vs = #[.pointer (some ⟨g, 0, none⟩)] := by
  apply Array.ext_getElem?
  intro i
  cases i with
  | zero =>
    have e : vs[0]'(by omega) = refP g := hv 0 .p (vs[0]'(by omega)) rfl (by simp)
    rw [Array.getElem?_eq_getElem (by omega), e]; rfl
  | succ i => rw [Array.getElem?_eq_none (by omega)]; simp
theorem two_vals {F : Nat → Prop} {w : World} {g : Nat} {vs : Array Value} {x : Value} (hlen : 2 = vs.size) (hv : ∀ (i : Nat) (y : OA) (u : Value), [OA.p, .c (.v x)][i]? = some y → vs[i]? = some u → y.rel F w g u) : vs = #[.pointer (some ⟨g, 0, none⟩), x] := by
  apply Array.ext_getElem?
  intro i
  match i with
  | 0 =>
    have e : vs[0]'(by omega) = refP g := hv 0 .p (vs[0]'(by omega)) rfl (by simp)
    rw [Array.getElem?_eq_getElem (by omega), e]; rfl
  | 1 =>
    have e : vs[1]'(by omega) = x := rc_val (hv 1 (.c (.v x)) (vs[1]'(by omega)) rfl (by simp))
    rw [Array.getElem?_eq_getElem (by omega), e]; rfl
  | i + 2 => rw [Array.getElem?_eq_none (by omega)]; simp
theorem bld_write (bs : List UInt8) (s : ByteArray) (hlen : bs.length + s.size ≤ 140737488355328) : OCon Try.prog gl 64 [.p, .c (STR s)] (bldP bs) (.tup [I s.size, .v .nilIface]) (bldP (bs ++ s.data.toList)) := by
  refine ⟨by kernel_rfl, fun w F fp g vs hF hgl ⟨v, h, hf⟩ hg hfp hlen' hv => ?_⟩
  rw [two_vals hlen' hv]
  refine (writeString_any h s hlen).mono fun e w' ⟨he, v', h', q1, q2, q3, q4, q5, q6⟩ => ⟨_, fun k => k = g ∨ v'.ownBlock = some k, he, ⟨q1, q2, q3, q4, fun k h1 h2 => q5 k h1 (fun e => h2 ((hf k).2 (.inl e))) (fun e => h2 ((hf k).2 (.inr e))), ⟨v', h', fun k => Iff.rfl⟩, .inl rfl, fun k hk => ?_⟩, rc_tup (us := [.int .i64 s.size, .nilIface])⟩
  rcases hk with rfl | hk
  · exact ⟨Nat.lt_of_lt_of_le (hfp _ hg).1 q4, .inl hg⟩
  · refine ⟨(World.ownsRow.lt h'.own k hk).2, ?_⟩
    rcases q6 k hk with h1 | h1
    · exact .inl ((hf k).2 (.inr h1))
    · exact .inr h1
theorem bld_string (bs : List UInt8) : OCon Try.prog gl 66 [.p] (bldP bs) (STR ⟨bs.toArray⟩) bldD := by
  refine ⟨by kernel_rfl, fun w F fp g vs hF hgl ⟨v, h, hf⟩ hg hfp hlen hv => ?_⟩
  rw [one_val hlen hv]
  refine (string_any h).mono fun e w' ⟨he, q⟩ => ⟨_, fun k => k = g, he, ⟨q.os, q.tape, q.output, q.size, fun k h1 h2 => q.block k h1 (fun e => h2 ((hf k).2 (.inr e))), ⟨?_, fun k => Iff.rfl⟩, rfl, fun k hk => ?_⟩, .v _⟩
  · obtain ⟨p, hp⟩ := q.blk
    exact ⟨p, v, hp⟩
  · cases hk; exact ⟨Nat.lt_of_lt_of_le (hfp _ hg).1 q.size, .inl hg⟩
theorem bld_reset : OCon Try.prog gl 74 [.p] bldD (.tup []) (bldP []) := by
  refine ⟨by kernel_rfl, fun w F fp g vs hF hgl ⟨⟨p, v, h⟩, hf⟩ hg hfp hlen hv => ?_⟩
  rw [one_val hlen hv]
  refine (reset_any h).mono fun e w' ⟨he, hb, q1, q2, q3, q4, q5⟩ => ⟨_, fun k => k = g, he, ⟨q1, q2, q3, by omega, fun k _ h2 => q5 k (fun e => h2 ((hf k).2 e)), bld_new w' g hb, rfl, fun k hk => ?_⟩, rc_tup (us := [])⟩
  cases hk; exact ⟨by have := (hfp _ hg).1; omega, .inl hg⟩
end Go.Proofs.Ythkjkhffljlidaa.Jo
