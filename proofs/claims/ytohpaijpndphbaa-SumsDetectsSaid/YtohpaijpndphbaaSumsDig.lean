/- The walks of Hex, Bytes, digits. -/
import Derived.Test.YtohpaijpndphbaaSumsCrc
import Derived.Test.YtohpaijpndphbaaKit
import Derived.Laws.IdiomStrings
namespace Go.Proofs.Ytohpaijpndphbaa.Sm
open Go.RowKit


/-- a row of bytes in block g of the world: the first cells are the list, none is frozen -/
def Row (w : World) (g : Nat) (l : List Int) : Prop := (∀ j, (h : j < l.length) → w.cell? ⟨g, j, none⟩ = some (.int .u8 l[j])) ∧ ∀ j, j < l.length → w.frozen? ⟨g, j, none⟩ = false

theorem Row.put {w : World} {g : Nat} {l : List Int} (h : Row w g l) (i : Nat) (v : Int) : Row (w.setCell ⟨g, i, none⟩ (.int .u8 v)) g (l.set i v) := by
  constructor
  · intro j hj
    have hj' : j < l.length := by simpa using hj
    by_cases e : i = j
    · subst e
      rw [World.cell?_setCell_same _ _ _ (h.1 i hj')]
      simp
    · rw [World.cell?_setCell_other _ _ _ _ (fun hh => e (congrArg Addr.off hh)), h.1 j hj']
      simp [e]
  · intro j hj
    rw [World.frozen?_setCell]
    exact h.2 j (by simpa using hj)

theorem Row.read {w : World} {g : Nat} {l : List Int} (h : Row w g l) (j : Nat) (hj : j < l.length) : w.cell? ⟨g, j, none⟩ = some (.int .u8 l[j]) := h.1 j hj

/-- string(b[:]) of such a row -/
theorem Row.back {w : World} {g : Nat} {l : List UInt8} (h : Row w g (l.map fun b => (b.toNat : Int))) (cap : Nat) :
    (convert 36 9 (.slice (some ⟨g, 0, none⟩) l.length cap)).run Try.prog w = .ok (.string ⟨l.toArray⟩) w :=
  run_convert_bytes_back w 36 9 5 ⟨g, 0, none⟩ cap l Try.underlying36 Try.underlying5 Try.underlying9 (fun j hj => by
    have := h.1 j (by simpa using hj)
    have e : (Addr.add ⟨g, 0, none⟩ j) = ⟨g, j, none⟩ := by
      unfold Addr.add
      split
      · subst j; rfl
      · simp
    rw [e]
    simpa using this)

def part (l : List UInt8) (k : Nat) : List Int := (List.range l.length).map fun j => if j < k then ((l.getD j 0).toNat : Int) else 0
theorem part_len (l : List UInt8) (k : Nat) : (part l k).length = l.length := by simp [part]
theorem part_set (l : List UInt8) (k : Nat) (h : k < l.length) : (part l k).set k (l[k].toNat : Int) = part l (k + 1) := by
  apply List.ext_getElem
  · simp [part]
  · intro i h1 h2
    simp only [List.getElem_set, part, List.getElem_map, List.getElem_range]
    have hi : i < l.length := by simpa [part] using h2
    by_cases e : k = i
    · subst e; simp [hi]
    · simp only [if_neg e]
      by_cases hl : i < k
      · rw [if_pos hl, if_pos (by omega)]
      · rw [if_neg hl, if_neg (by omega)]
theorem part_all (l : List UInt8) : part l l.length = l.map fun b => (b.toNat : Int) := by
  apply List.ext_getElem
  · simp [part]
  · intro i h1 h2
    have hi : i < l.length := by simpa [part] using h1
    simp [part, hi]
theorem part_zero (l : List UInt8) : part l 0 = List.replicate l.length 0 := by
  apply List.ext_getElem
  · simp [part]
  · intro i h1 h2
    simp [part]

theorem row_alloc (w : World) (C : Array Value) (t : TypeId) (l : List Int) (h : C.toList = l.map (Value.int .u8)) : Row (w.alloc (.cells C t)) w.heap.size l := by
  have hsz : C.size = l.length := by rw [← Array.length_toList, h]; simp
  constructor
  · intro j hj
    rw [World.cell?_alloc_mark, ← Array.getElem?_toList, h]
    simp [hj]
  · intro j hj
    rw [World.frozen?_alloc_mark]; simp

set_option maxRecDepth 100000 in
set_option maxHeartbeats 400000 in
theorem hex_any (n : BitVec 64) (w : World) :
    Calls Try.prog 17 #[.int .u64 n.toNat] w fun e w' => e = .returned (.string ⟨(digits n.toNat 16).toArray⟩) ∧ Below w.heap.size w w' := by
  go_enter Try.func17, Try.ntmps17
  go_wp2
  go_loopw [5] (fun i wr => ∃ k : Nat, k ≤ 16 ∧ i = .int .i64 k ∧ Below w.heap.size w wr ∧ Row wr w.heap.size (part (digits n.toNat 16) k)) (fun i _ => 16 - (intOf i).toNat)
  case atStart => exact ⟨0, by omega, rfl, (Below.refl _ _).alloc (Nat.le_refl _) _, row_alloc _ _ _ _ (by rw [part_zero, digits_len]; rfl)⟩
  case round =>
    obtain ⟨k, hk, rfl, hb, hr⟩ := hrel
    have HR := Lib.hid hr; clear hr
    by_cases hlt : k < 16
    · have hl : k < (part (digits n.toNat 16) k).length := by rw [part_len, digits_len]; exact hlt
      have hc := HR.out.1 k hl
      have hf := HR.out.2 k hl
      have hset := part_set (digits n.toNat 16) k (by rw [digits_len]; exact hlt)
      rw [digits_get _ _ _ hlt] at hset
      have hn := nib n.toNat k n.isLt hlt
      have hd : n.toNat / 16 ^ (15 - k) % 16 < 16 := Nat.mod_lt _ (by omega)
      have ht := tbl_at (n.toNat / 16 ^ (15 - k) % 16) hd
      generalize (part (digits n.toNat 16) k)[k] = c0 at *
      have HS := Lib.hid hset; clear hset
      have hd0 : (0 : Int) ≤ ((n.toNat / 16 ^ (15 - k) % 16 : Nat) : Int) := by omega
      have hd1 : ((n.toNat / 16 ^ (15 - k) % 16 : Nat) : Int) < 16 := by omega
      generalize n.toNat / 16 ^ (15 - k) % 16 = d at *
      have HT := Lib.hid ht; clear ht hl
      go_wp2
      go_roundw
      case rel =>
        rw [HT.out]
        exact ⟨k + 1, by omega, by go_num, hb.setCell (Nat.le_refl _) _, by rw [← HS.out]; exact HR.out.put k _⟩
      case measure => simp [intOf]; omega
    · obtain rfl : k = 16 := by omega
      have hr := HR.out
      rw [show part (digits n.toNat 16) 16 = part (digits n.toNat 16) (digits n.toNat 16).length from by rw [digits_len], part_all] at hr
      have hconv := hr.back 16
      rw [digits_len] at hconv
      go_wp2
      go_ret
      exact ⟨rfl, hb⟩


abbrev byteEnc (b : UInt8) : List Value := [.int .u8 (b.toNat : Int)]
theorem info_u8 : (Try.prog.info? 5).map (fun i => (i.zero, i.size, i.bytes)) = some (some (.int .u8 0), 1, 1) := by kernel_rfl
theorem T_u8 : Kit.SlTy Try.prog 36 5 1 1 byteEnc where
  und := Try.underlying36
  info := by obtain ⟨i, h1, h2, h3, h4⟩ := info_parts info_u8; exact ⟨i, _, h1, h2, h3, h4, rfl⟩
  pos := by decide
  len := fun _ => rfl
  one := fun x u h => by simp at h; subst h; rfl

theorem own_conv {w : World} {B : Nat} {v : Value} {l : List UInt8} (h : Kit.Own 5 1 byteEnc w B v l) :
    (convert 36 9 v).run Try.prog w = .ok (.string ⟨l.toArray⟩) w := by
  obtain ⟨ad, cap, rfl, hc, h⟩ := h.sl (fun _ => rfl)
  rcases h with rfl | ⟨b, off, rfl, hlt, h⟩
  · cases ad with
    | none =>
      rw [List.length_nil, run_convert_bytes_nil w 36 5 Try.underlying36 Try.underlying5 0 cap 9 Try.underlying9]
      rfl
    | some ad =>
      exact run_convert_bytes_back w 36 9 5 ad cap [] Try.underlying36 Try.underlying5 Try.underlying9 (fun j hj => absurd hj (by simp))
  · refine run_convert_bytes_back w 36 9 5 ⟨b, off, none⟩ cap l Try.underlying36 Try.underlying5 Try.underlying9 (fun j hj => ?_)
    rw [Kit.addr_add]
    have := h j 0 l[j] (by simp [hj]) (by omega)
    simpa using this

set_option maxRecDepth 100000 in
set_option maxHeartbeats 400000 in
theorem bytes_any (n : BitVec 64) (w : World) :
    Calls Try.prog 31 #[.int .u64 n.toNat] w fun e w' => e = .returned (.string ⟨(bytes8 n.toNat).toArray⟩) ∧ Below w.heap.size w w' := by
  go_enter Try.func31, Try.ntmps31
  go_wp2
  go_loopw [3, 4] (fun v i wr => ∃ k : Nat, k ≤ 8 ∧ i = .int .i64 k ∧ Below w.heap.size w wr ∧ Kit.Own 5 1 byteEnc wr w.heap.size v ((bytes8 n.toNat).take k)) (fun _ i _ => 8 - (intOf i).toNat)
  case atStart => exact ⟨0, by omega, rfl, Below.refl _ _, Kit.Own.nil _ _⟩
  case round =>
    obtain ⟨k, hk, rfl, hb, hr⟩ := hrel
    have HR := Lib.hid hr; clear hr
    by_cases hlt : k < 8
    · have ht := take_bytes8 n.toNat k hlt
      have hbt := byte_at n.toNat k hlt
      generalize UInt8.ofNat (n.toNat / 256 ^ (7 - k)) = c at ht hbt
      have HT := Lib.hid ht; clear ht
      have HB := Lib.hid hbt; clear hbt
      have HL := Lib.hid (show ((bytes8 n.toNat).take k).length ≤ 8 from by rw [List.length_take]; omega)
      have hsz := hb.size
      go_wp2_with (at_builtin; refine Kit.wp_append1 T_u8 (by rfl) _ _ (by rfl) wr w.heap.size _ _ (by rfl) HR.out c _ _ (by rfl) ?c1 ?c2 ?c3 hsz ?_)
      case c1 => simpa using HB.out
      case c2 => have := HL.out; unfold maxLen; omega
      case c3 => have := HL.out; omega
      intro v' w' hown hbel _ _
      rw [← HT.out] at hown
      have HO := Lib.hid hown; clear hown
      go_wp2
      go_roundw
      case rel => exact ⟨k + 1, by omega, by go_num, hb.trans hbel, HO.out⟩
      case measure => simp [intOf]; omega
    · obtain rfl : k = 8 := by omega
      have hconv := own_conv HR.out
      rw [List.take_of_length_le (by rw [bytes8_len]; omega)] at hconv
      go_wp2
      go_ret
      exact ⟨rfl, hb⟩
set_option maxRecDepth 100000 in
set_option maxHeartbeats 400000 in
theorem bytesOf_any (n : BitVec 64) (w : World) :
    Calls Try.prog 27 #[.int .u64 n.toNat] w fun e w' => e = .returned (.string ⟨(bytes8 n.toNat).toArray⟩) ∧ Below w.heap.size w w' := by
  go_enter Try.func27, Try.ntmps27
  go_wp2
  go_loopw [3, 4] (fun v i wr => ∃ k : Nat, k ≤ 8 ∧ i = .int .i64 k ∧ Below w.heap.size w wr ∧ Kit.Own 5 1 byteEnc wr w.heap.size v ((bytes8 n.toNat).take k)) (fun _ i _ => 8 - (intOf i).toNat)
  case atStart => exact ⟨0, by omega, rfl, Below.refl _ _, Kit.Own.nil _ _⟩
  case round =>
    obtain ⟨k, hk, rfl, hb, hr⟩ := hrel
    have HR := Lib.hid hr; clear hr
    by_cases hlt : k < 8
    · have ht := take_bytes8 n.toNat k hlt
      have hbt := byte_at n.toNat k hlt
      generalize UInt8.ofNat (n.toNat / 256 ^ (7 - k)) = c at ht hbt
      have HT := Lib.hid ht; clear ht
      have HB := Lib.hid hbt; clear hbt
      have HL := Lib.hid (show ((bytes8 n.toNat).take k).length ≤ 8 from by rw [List.length_take]; omega)
      have hsz := hb.size
      go_wp2_with (at_builtin; refine Kit.wp_append1 T_u8 (by rfl) _ _ (by rfl) wr w.heap.size _ _ (by rfl) HR.out c _ _ (by rfl) ?c1 ?c2 ?c3 hsz ?_)
      case c1 => simpa using HB.out
      case c2 => have := HL.out; unfold maxLen; omega
      case c3 => have := HL.out; omega
      intro v' w' hown hbel _ _
      rw [← HT.out] at hown
      have HO := Lib.hid hown; clear hown
      go_wp2
      go_roundw
      case rel => exact ⟨k + 1, by omega, by go_num, hb.trans hbel, HO.out⟩
      case measure => simp [intOf]; omega
    · obtain rfl : k = 8 := by omega
      have hconv := own_conv HR.out
      rw [List.take_of_length_le (by rw [bytes8_len]; omega)] at hconv
      go_wp2
      go_ret
      exact ⟨rfl, hb⟩

set_option maxRecDepth 100000 in
set_option maxHeartbeats 400000 in
theorem digits_any (n : BitVec 64) (m : Nat) (hm : m ≤ 16) (w : World) :
    Calls Try.prog 29 #[.int .u64 n.toNat, .int .i64 m] w fun e w' => e = .returned (.string ⟨(digits n.toNat m).toArray⟩) ∧ Below w.heap.size w w' := by
  go_enter Try.func29, Try.ntmps29
  go_wp2
  go_loopw [6, 7] (fun v i wr => ∃ k : Nat, k ≤ m ∧ i = .int .i64 ((m : Int) - 1 - k) ∧ Below w.heap.size w wr ∧ Kit.Own 5 1 byteEnc wr w.heap.size v ((digits n.toNat m).take k)) (fun _ i _ => (intOf i + 1).toNat)
  case atStart => exact ⟨0, by omega, by simp, Below.refl _ _, Kit.Own.nil _ _⟩
  case round =>
    obtain ⟨k, hk, rfl, hb, hr⟩ := hrel
    have HR := Lib.hid hr; clear hr
    by_cases hlt : k < m
    · have HT := Lib.hid (take_digits n.toNat m k hlt)
      have HL := Lib.hid (show ((digits n.toNat m).take k).length ≤ m from by rw [List.length_take, digits_len]; omega)
      have hd := nib2 n.toNat (m - 1 - k)
      have hd' : n.toNat / 16 ^ (m - 1 - k) % 16 < 16 := Nat.mod_lt _ (by omega)
      have ht := tbl_at _ hd'
      generalize n.toNat / 16 ^ (m - 1 - k) % 16 = d at *
      have HTB := Lib.hid ht; clear ht
      have hsz := hb.size
      have he : ((m : Int) - 1 - k) = ((m - 1 - k : Nat) : Int) := by omega
      rw [he]
      have hk2 : m - 1 - k ≤ 15 := by omega
      have Hm : Hid ((m : Int) - 1 - (k + 1 : Nat) = ((m - 1 - k : Nat) : Int) - 1) := by unfold Hid; omega
      clear he
      generalize m - 1 - k = q at *
      have hd0 : (0 : Int) ≤ (d : Int) := by omega
      have hd1 : (d : Int) < 16 := by omega
      have Hm2 : Hid ((((m : Int) - 1 - k) = (q : Int))) := by unfold Hid; have := Hm.out; omega
      go_wp2_with (at_builtin; refine Kit.wp_append1 T_u8 (by rfl) _ _ (by rfl) wr w.heap.size _ _ (by rfl) HR.out (hexDigit d) _ _ (by rfl) ?c1 ?c2 ?c3 hsz ?_)
      case c1 => rw [HTB.out]
      case c2 => have := HL.out; unfold maxLen; omega
      case c3 => have := HL.out; omega
      intro v' w' hown hbel _ _
      rw [← HT.out] at hown
      have HO := Lib.hid hown; clear hown
      go_wp2
      go_roundw
      case rel => exact ⟨k + 1, by omega, by rw [Hm.out], hb.trans hbel, HO.out⟩
      case measure => simp [intOf]
    · obtain rfl : k = m := by omega
      have hconv := own_conv HR.out
      rw [List.take_of_length_le (by rw [digits_len]; omega)] at hconv
      go_wp2
      go_ret
      exact ⟨rfl, hb⟩
end Go.Proofs.Ytohpaijpndphbaa.Sm
