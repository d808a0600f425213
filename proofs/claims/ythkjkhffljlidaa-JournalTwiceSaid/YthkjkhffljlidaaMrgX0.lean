/- JA JW JP JR JR2 JG SumsPlain: texts laid together. -/
import Derived.Test.YthkjkhffljlidaaMrgI0
import Derived.Test.YthkjkhffljlidaaMrgE3
import Derived.Test.YthkjkhffljlidaaMrgE4
import Derived.Test.YthkjkhffljlidaaMrgE2
import Derived.WalkKit
set_option maxRecDepth 100000
set_option maxHeartbeats 64000000
/- Walks of the journal: names. -/
namespace Go.Proofs.Ythkjkhffljlidaa.Jo
set_option linter.unusedVariables false
set_option linter.unusedSimpArgs false
open Go.RowKit Go.Proofs.Ythkjkhffljlidaa.Ev
abbrev I (n : Int) : CV := .v (.int .i64 n)
abbrev A (n : Int) : AV := .c (.v (.int .i64 n))
abbrev U (n : Int) : CV := .v (.int .u64 n)
abbrev B8 (n : Int) : CV := .v (.int .u8 n)
abbrev BO (b : Bool) : CV := .v (.bool b)
abbrev T : CV := .v (.bool true)
abbrev STR (s : ByteArray) : CV := .v (.string s)
def stC (s : ByteArray) : List CV := [STR s]
instance : EncL stC 1 := ⟨fun _ => rfl, by decide, fun _ => rfl⟩
abbrev LT (l : List ByteArray) : CV := .lst 1 (l.flatMap stC)
def grC (l : List ByteArray) : List CV := [LT l]
instance : EncL grC 1 := ⟨fun _ => rfl, by decide, fun _ => rfl⟩
abbrev LG (l : List (List ByteArray)) : CV := .lst 1 (l.flatMap grC)
def u64C (n : Int) : List CV := [U n]
instance : EncL u64C 1 := ⟨fun _ => rfl, by decide, fun _ => rfl⟩
instance : StrTy Try.prog 9 := ⟨Try.underlying9⟩
theorem con_plain {P : Program} {gl : List (Nat × List CV)} {f : FuncId} {vals : List Value} {r : Value} (hcall : callableB P f = true) (h : ∀ w, Calls P f vals.toArray w fun e w' => e = .returned r ∧ Below w.heap.size w w') : Con P gl f (vals.map .v) (.v r) := by
  refine ⟨hcall, fun w F vs hF hgl hlen hv => ?_⟩
  have : vs = vals.toArray := by
    apply Array.ext_getElem?
    intro i
    by_cases hi : i < vals.length
    · have hia : i < vs.size := by rw [← hlen]; simpa using hi
      have := rc_val (hv i (.v vals[i]) vs[i] (by simp [hi]) (by simp [hia]))
      simp [hia, hi, this]
    · rw [Array.getElem?_eq_none (by rw [← hlen]; simp; omega), Array.getElem?_eq_none (by simp; omega)]
  subst this
  exact (h w).mono fun e w' ⟨he, hb⟩ => ⟨r, he, hb, .v r⟩
theorem rc_tup {F : Nat → Prop} {w : World} {us : List Value} : RC F w (.tup (us.map .v)) (.tuple us.toArray) :=
  .tup (by simp) (fun i x u hx hu => by
    rw [List.getElem?_map, Option.map_eq_some_iff] at hx
    obtain ⟨y, hy, rfl⟩ := hx
    have : y = u := by simpa [hy] using hu
    subst this; exact .v _)
theorem con_plain2 {P : Program} {gl : List (Nat × List CV)} {f : FuncId} {vals us : List Value} (hcall : callableB P f = true) (h : ∀ w, Calls P f vals.toArray w fun e w' => e = .returned (.tuple us.toArray) ∧ Below w.heap.size w w') : Con P gl f (vals.map .v) (.tup (us.map .v)) := by
  refine ⟨hcall, fun w F vs hF hgl hlen hv => ?_⟩
  obtain ⟨_, h1⟩ := con_plain (gl := gl) hcall h
  exact (h1 w F vs hF hgl hlen hv).mono fun e w' ⟨v, he, hb, hr⟩ => by
    cases hr
    exact ⟨_, he, hb, rc_tup⟩
end Go.Proofs.Ythkjkhffljlidaa.Jo
/- Walks of the journal: numbers and strings as bytes: Uint and Text in both. -/
namespace Go.Proofs.Ythkjkhffljlidaa.Jo
set_option linter.unusedVariables false
set_option linter.unusedSimpArgs false
open Go.RowKit Go.Proofs.Ythkjkhffljlidaa.Ev
variable {gl : List (Nat × List CV)}
instance : BytesT Try.prog 84 := ⟨⟨_, Try.underlying84, Try.underlying5⟩⟩
def uvarL (n : Nat) : List UInt8 := if n < 128 then [UInt8.ofNat n] else UInt8.ofNat (128 + n % 128) :: uvarL (n / 128)
termination_by n
decreasing_by omega
theorem uvar_lo {n : Nat} (h : n < 128) : uvarL n = [UInt8.ofNat n] := by unfold uvarL; rw [if_pos h]
theorem uvar_hi {n : Nat} (h : ¬ n < 128) : uvarL n = UInt8.ofNat (128 + n % 128) :: uvarL (n / 128) := by rw [uvarL, if_neg h]
def uvarS (n : Nat) : ByteArray := ⟨(uvarL n).toArray⟩
theorem w8 (m : Nat) : IntKind.u8.wrap (m : Int) = ((m % 256 : Nat) : Int) := by
  simp [IntKind.wrap, IntKind.bits, IntKind.signed]
theorem or_fin : ∀ a : Fin 256, bits .or .u8 (a.val : Int) 128 = ((128 + a.val % 128 : Nat) : Int) := by decide +kernel
theorem or8 (m : Nat) : bits .or .u8 ((m % 256 : Nat) : Int) 128 = (((UInt8.ofNat (128 + m % 128)).toNat : Nat) : Int) := by
  have h := or_fin ⟨m % 256, by omega⟩
  simp only at h
  rw [h]
  have : m % 256 % 128 = m % 128 := by omega
  rw [this]
  simp
  omega
theorem sh7 (m : Nat) : (m : Int) / 2 ^ (7 : Int).toNat = ((m / 128 : Nat) : Int) := by
  show (m : Int) / 2 ^ 7 = _
  omega
theorem lo8 {m : Nat} (h : m < 128) : ((m % 256 : Nat) : Int) = (((UInt8.ofNat m).toNat : Nat) : Int) := by
  simp
theorem uint_con (n : Nat) (hn : n < 2 ^ 64) : Con Try.prog gl 79 [U n] (STR (uvarS n)) := by
  refine con_of Try.func79 rfl (by kernel_rfl) rfl ?_
  simp only [Try.ntmps79, Try.results79, argEnv, ofC, of1, List.map]
  repeat' (first
 | ((with_reducible apply aw_seq))
 | ((with_reducible apply aw_region))
 | ((with_reducible apply aw_block))
 | ((with_reducible apply thn_normal))
 | ((with_reducible apply ao_nil))
 | ((with_reducible apply r_assign); exact rfl; exact rfl)
 )
  refine aw_nilvec 3 5 1 rfl rfl ?_
  refine aw_loopG (G := Nat × List UInt8) (fun ((m, acc) : Nat × List UInt8) => uvarL n = acc ++ uvarL m ∧ m < 2 ^ 64 ∧ acc.length ≤ 9 ∧ 128 ^ acc.length * m ≤ n) (fun ((m, acc) : Nat × List UInt8) => m) (fun ((m, acc) : Nat × List UInt8) => [(0, .c (U m)), (3, .vec 0 acc.length)]) (fun ((m, acc) : Nat × List UInt8) => [(0, some (.vec 5 1 (acc.flatMap u8C)))]) 1 (n, []) ?_ (by refine weak_mk rfl ?_ ?_ <;> repeat (first | exact envW_nil | exact heapW_nil | refine envW_cons rfl rfl ?_ | refine heapW_cons rfl rfl rfl ?_)) rfl ?_
  · exact ⟨rfl, hn, Nat.zero_le _, by simp⟩
  rintro ⟨m, acc⟩ hI
  try dsimp only at hI
  try dsimp only
  obtain ⟨h1, h2, h3, h4⟩ := hI
  by_cases hm : 128 ≤ m
  · have hor := or8 m
    have hsh := sh7 m
    repeat' (first
 | (rw [hor])
 | (rw [hsh])
 | ((with_reducible apply (r_conv (b := ((m % 256 : Nat) : Int)))); exact rfl; exact (w8 m); exact rfl)
 | ((with_reducible apply r_or); exact rfl; exact rfl; exact rfl)
 | ((with_reducible apply r_shr); exact rfl; exact rfl; exact (by decide); exact (by decide); exact rfl)
 | ((with_reducible apply r_litq); exact rfl; exact rfl; exact rfl; exact rfl; exact rfl; exact rfl; exact rfl)
 | ((with_reducible apply (r_appendl (enc := u8C) (l2 := [UInt8.ofNat (128 + m % 128)]))); exact rfl; exact rfl; exact inferInstance; exact rfl; exact rfl; exact (by show acc.length + 1 < _; omega); exact (by show (acc.length + 1) * _ ≤ _; omega); exact rfl)
 | ((with_reducible apply aw_seq))
 | ((with_reducible apply aw_region))
 | ((with_reducible apply aw_block))
 | ((with_reducible apply thn_normal))
 | ((with_reducible apply inb_normal))
 | ((with_reducible apply aw_skip))
 | ((with_reducible apply ao_nil))
 | ((with_reducible apply r_move); exact rfl; exact rfl)
 | ((with_reducible apply r_assign); exact rfl; exact rfl)
 | ((with_reducible apply r_geq); exact rfl; exact rfl; exact rfl)
 | (((with_reducible apply aw_cond); exact rfl) <;> intro hg <;> (first | (exact absurd hg (by decide)) | ((try simp only [decide_eq_true_eq, decide_eq_false_iff_not, Bool.not_eq_true', Bool.not_eq_false', Bool.not_true, Bool.not_false, Bool.not_not, Int.not_lt, Int.not_le, Nat.not_lt, Nat.not_le, gt_iff_lt, ge_iff_le, List.cons.injEq, and_true] at hg); first | (exact absurd trivial hg) | (exfalso; omega) | (have hT : True := hg; clear hT hg) | skip)))
 )
    have e : acc.length + [UInt8.ofNat (128 + m % 128)].length = (acc ++ [UInt8.ofNat (128 + m % 128)]).length := by simp
    rw [e]
    refine ⟨(m / 128, acc ++ [UInt8.ofNat (128 + m % 128)]), ?_, ?_, by refine weak_mk rfl ?_ ?_ <;> repeat (first | exact envW_nil | exact heapW_nil | refine envW_cons rfl rfl ?_ | refine heapW_cons rfl rfl rfl ?_)⟩
    · show m / 128 < m; omega
    · have hb : acc.length + 1 ≤ 9 := by
        rcases Nat.lt_or_ge acc.length 9 with h | h
        · exact h
        · have a1 : 128 ^ 9 ≤ 128 ^ acc.length := Nat.pow_le_pow_right (by omega) h
          have a2 : 128 ^ acc.length * 128 ≤ 128 ^ acc.length * m := Nat.mul_le_mul_left _ hm
          omega
      refine ⟨?_, by show m / 128 < _; omega, by show (acc ++ [_]).length ≤ 9; simpa using hb, ?_⟩
      · show uvarL n = (acc ++ [_]) ++ uvarL (m / 128)
        rw [h1, uvar_hi (by omega)]; simp
      · show 128 ^ (acc ++ [_]).length * (m / 128) ≤ n
        rw [List.length_append, List.length_singleton, Nat.pow_succ, Nat.mul_assoc]
        exact Nat.le_trans (Nat.mul_le_mul_left _ (by omega)) h4
  · have hlo := lo8 (m := m) (by omega)
    have e : uvarS n = ⟨(acc ++ [UInt8.ofNat m]).toArray⟩ := by unfold uvarS; rw [h1, uvar_lo (by omega)]
    repeat' (first
 | (rw [hlo])
 | ((with_reducible apply (r_conv (b := ((m % 256 : Nat) : Int)))); exact rfl; exact (w8 m); exact rfl)
 | ((with_reducible apply r_litq); exact rfl; exact rfl; exact rfl; exact rfl; exact rfl; exact rfl; exact rfl)
 | ((with_reducible apply (r_appendl (enc := u8C) (l2 := [UInt8.ofNat m]))); exact rfl; exact rfl; exact inferInstance; exact rfl; exact rfl; exact (by show acc.length + 1 < _; omega); exact (by show (acc.length + 1) * _ ≤ _; omega); exact rfl)
 | ((with_reducible apply (r_strOfV (acc ++ [UInt8.ofNat m]))); exact rfl; exact rfl; exact (by simp); exact (by simp); exact rfl)
 | ((with_reducible apply aw_seq))
 | ((with_reducible apply aw_region))
 | ((with_reducible apply thn_normal))
 | ((with_reducible apply thn_exit))
 | ((with_reducible apply inb_exit))
 | ((with_reducible apply aw_exit))
 | ((with_reducible apply aw_ret))
 | ((with_reducible apply ao_nil))
 | ((with_reducible apply r_move); exact rfl; exact rfl)
 | ((with_reducible apply r_assign); exact rfl; exact rfl)
 | ((with_reducible apply r_geq); exact rfl; exact rfl; exact rfl)
 | (((with_reducible apply aw_cond); exact rfl) <;> intro hg <;> (first | (exact absurd hg (by decide)) | ((try simp only [decide_eq_true_eq, decide_eq_false_iff_not, Bool.not_eq_true', Bool.not_eq_false', Bool.not_true, Bool.not_false, Bool.not_not, Int.not_lt, Int.not_le, Nat.not_lt, Nat.not_le, gt_iff_lt, ge_iff_le, List.cons.injEq, and_true] at hg); first | (exact absurd trivial hg) | (exfalso; omega) | (have hT : True := hg; clear hT hg) | skip)))
 )
    rw [e]
    exact ret1 (.tmp rfl cl_c)
end Go.Proofs.Ythkjkhffljlidaa.Jo
/- The journal, plain: numbers and strings read. -/
namespace Go.Proofs.Ythkjkhffljlidaa.Jo
set_option linter.unusedVariables false
set_option linter.unusedSimpArgs false
open Go.RowKit Go.Proofs.Ythkjkhffljlidaa.Ev
def byt (s : ByteArray) (k : Nat) : Nat := (s.data.toList.getD k 0).toNat
theorem byt_lt (s : ByteArray) (k : Nat) : byt s k < 256 := UInt8.toNat_lt _
def vgo (s : ByteArray) (at0 n i : Nat) : Nat × Nat × Int :=
  if i < 10 then
    if s.size ≤ at0 + i then (0, 0, 3)
    else if i = 9 ∧ 1 < byt s (at0 + i) then (0, 0, 5)
    else if 128 ≤ byt s (at0 + i) then vgo s at0 (n + byt s (at0 + i) % 128 * 128 ^ i) (i + 1)
    else if byt s (at0 + i) = 0 ∧ 0 < i then (0, 0, 5)
    else (n + byt s (at0 + i) % 128 * 128 ^ i, at0 + i + 1, 0)
  else (0, 0, 5)
termination_by 10 - i
def vnum (s : ByteArray) (at0 : Nat) : Nat × Nat × Int := vgo s at0 0 0
theorem vgo_short {s : ByteArray} {at0 n i : Nat} (hi : i ≤ 9) (h : s.size ≤ at0 + i) : vgo s at0 n i = (0, 0, 3) := by
  rw [vgo, if_pos (by omega), if_pos h]
theorem vgo_big {s : ByteArray} {at0 n i : Nat} (h : ¬ s.size ≤ at0 + i) (h9 : i = 9) (hc : 1 < byt s (at0 + i)) : vgo s at0 n i = (0, 0, 5) := by
  rw [vgo, if_pos (by omega), if_neg h, if_pos ⟨h9, hc⟩]
theorem vgo_next {s : ByteArray} {at0 n i : Nat} (hi : i ≤ 9) (h : ¬ s.size ≤ at0 + i) (hb : ¬ (i = 9 ∧ 1 < byt s (at0 + i))) (hc : 128 ≤ byt s (at0 + i)) : vgo s at0 n i = vgo s at0 (n + byt s (at0 + i) % 128 * 128 ^ i) (i + 1) := by
  rw [vgo, if_pos (by omega), if_neg h, if_neg hb, if_pos hc]
theorem vgo_zero {s : ByteArray} {at0 n i : Nat} (hi : i ≤ 9) (h : ¬ s.size ≤ at0 + i) (hb : ¬ (i = 9 ∧ 1 < byt s (at0 + i))) (hc : byt s (at0 + i) = 0) (h0 : 0 < i) : vgo s at0 n i = (0, 0, 5) := by
  rw [vgo, if_pos (by omega), if_neg h, if_neg hb, if_neg (by omega), if_pos ⟨hc, h0⟩]
theorem vgo_end {s : ByteArray} {at0 n i : Nat} (hi : i ≤ 9) (h : ¬ s.size ≤ at0 + i) (hb : ¬ (i = 9 ∧ 1 < byt s (at0 + i))) (hc : ¬ 128 ≤ byt s (at0 + i)) (h0 : ¬ (byt s (at0 + i) = 0 ∧ 0 < i)) : vgo s at0 n i = (n + byt s (at0 + i) % 128 * 128 ^ i, at0 + i + 1, 0) := by
  rw [vgo, if_pos (by omega), if_neg h, if_neg hb, if_neg hc, if_neg h0]
theorem vgo_bd (s : ByteArray) (at0 : Nat) : ∀ (k i n : Nat), 10 - i = k → i ≤ 10 → n < 128 ^ i → (vgo s at0 n i).1 < 2 ^ 64 ∧ ((vgo s at0 n i).2.2 = 0 → at0 + i < (vgo s at0 n i).2.1 ∧ (vgo s at0 n i).2.1 ≤ s.size) ∧ (vgo s at0 n i).2.1 ≤ at0 + 10 ∧ ((vgo s at0 n i).2.2 = 0 ∨ (vgo s at0 n i).2.2 = 3 ∨ (vgo s at0 n i).2.2 = 5) := by
  intro k
  induction k with
  | zero =>
    intro i n hk hi hn
    have : i = 10 := by omega
    subst this
    rw [vgo, if_neg (by omega)]
    exact ⟨by decide, fun h => absurd h (by decide), by show 0 ≤ _; omega, .inr (.inr rfl)⟩
  | succ k ih =>
    intro i n hk hi hn
    have h9 : i ≤ 9 := by omega
    by_cases h : s.size ≤ at0 + i
    · rw [vgo_short h9 h]; exact ⟨by decide, fun h => absurd h (by decide), by show 0 ≤ _; omega, .inr (.inl rfl)⟩
    by_cases hb : i = 9 ∧ 1 < byt s (at0 + i)
    · rw [vgo_big h hb.1 hb.2]; exact ⟨by decide, fun h => absurd h (by decide), by show 0 ≤ _; omega, .inr (.inr rfl)⟩
    have hp : 128 ^ (i + 1) = 128 ^ i * 128 := Nat.pow_succ ..
    have hm : byt s (at0 + i) % 128 * 128 ^ i ≤ 127 * 128 ^ i := Nat.mul_le_mul_right _ (by omega)
    have hn' : n + byt s (at0 + i) % 128 * 128 ^ i < 128 ^ (i + 1) := by omega
    by_cases hc : 128 ≤ byt s (at0 + i)
    · rw [vgo_next h9 h hb hc]
      obtain ⟨a, b, c, d⟩ := ih (i + 1) _ (by omega) (by omega) hn'
      exact ⟨a, fun e => ⟨by have := (b e).1; omega, (b e).2⟩, c, d⟩
    by_cases hz : byt s (at0 + i) = 0 ∧ 0 < i
    · rw [vgo_zero h9 h hb hz.1 hz.2]; exact ⟨by decide, fun h => absurd h (by decide), by show 0 ≤ _; omega, .inr (.inr rfl)⟩
    · rw [vgo_end h9 h hb hc hz]
      refine ⟨?_, fun _ => ⟨by show _ < at0 + i + 1; omega, by show at0 + i + 1 ≤ _; omega⟩, by show at0 + i + 1 ≤ _; omega, .inl rfl⟩
      show n + byt s (at0 + i) % 128 * 128 ^ i < 2 ^ 64
      by_cases h8 : i ≤ 8
      · have : 128 ^ (i + 1) ≤ 128 ^ 9 := Nat.pow_le_pow_right (by omega) (by omega)
        have e : (128 : Nat) ^ 9 = 2 ^ 63 := by decide
        omega
      · have : i = 9 := by omega
        subst this
        have e : (128 : Nat) ^ 9 = 2 ^ 63 := by decide
        have hle : byt s (at0 + 9) ≤ 1 := by
          rcases Nat.lt_or_ge 1 (byt s (at0 + 9)) with h' | h'
          · exact absurd ⟨rfl, h'⟩ hb
          · exact h'
        rw [e] at hn ⊢
        have : byt s (at0 + 9) % 128 * 2 ^ 63 ≤ 1 * 2 ^ 63 := Nat.mul_le_mul_right _ (by omega)
        omega
theorem vnum_bd (s : ByteArray) (at0 : Nat) : (vnum s at0).1 < 2 ^ 64 ∧ ((vnum s at0).2.2 = 0 → at0 < (vnum s at0).2.1 ∧ (vnum s at0).2.1 ≤ s.size) ∧ (vnum s at0).2.1 ≤ at0 + 10 ∧ ((vnum s at0).2.2 = 0 ∨ (vnum s at0).2.2 = 3 ∨ (vnum s at0).2.2 = 5) :=
  vgo_bd s at0 10 0 0 rfl (by omega) (by decide)
theorem and_fin : ∀ a : Fin 256, bits .and .u8 (a.val : Int) 127 = ((a.val % 128 : Nat) : Int) := by decide +kernel
theorem and127 {c : Nat} (h : c < 256) : bits .and .u8 (c : Int) 127 = ((c % 128 : Nat) : Int) := and_fin ⟨c, h⟩
theorem w64 {m : Nat} (h : m < 18446744073709551616) : IntKind.u64.wrap (m : Int) = (m : Int) := by
  simp [IntKind.wrap, IntKind.bits, IntKind.signed]
  omega
theorem lt7 {c i : Nat} (hi : i ≤ 9) (hc : c < 128) (h9 : i = 9 → c ≤ 1) : c * 128 ^ i < 18446744073709551616 := by
  by_cases h8 : i ≤ 8
  · have h1 : 128 ^ i ≤ 128 ^ 8 := Nat.pow_le_pow_right (by omega) h8
    have h2 : c * 128 ^ i ≤ 127 * 128 ^ 8 := Nat.mul_le_mul (by omega) h1
    have h3 : (127 : Nat) * 128 ^ 8 < 18446744073709551616 := by decide
    exact Nat.lt_of_le_of_lt h2 h3
  · have : i = 9 := by omega
    subst this
    have h2 : c * 128 ^ 9 ≤ 1 * 128 ^ 9 := Nat.mul_le_mul_right _ (h9 rfl)
    have h3 : (1 : Nat) * 128 ^ 9 < 18446744073709551616 := by decide
    exact Nat.lt_of_le_of_lt h2 h3
theorem shl7 {c i : Nat} (hi : i ≤ 9) (hc : c < 128) (h9 : i = 9 → c ≤ 1) : IntKind.u64.wrap ((c : Int) * 2 ^ (7 * (i : Int)).toNat) = ((c * 128 ^ i : Nat) : Int) := by
  have e : (7 * (i : Int)).toNat = 7 * i := by omega
  have hp : (128 : Nat) ^ i = 2 ^ (7 * i) := by rw [show (128 : Nat) = 2 ^ 7 by decide, ← Nat.pow_mul]
  have hlt := lt7 hi hc h9
  rw [e, show ((2 : Int) ^ (7 * i)) = ((2 ^ (7 * i) : Nat) : Int) by push_cast; rfl, ← hp, ← Int.natCast_mul]
  exact w64 hlt
theorem or7 {n c i : Nat} (hi : i ≤ 9) (hc : c < 128) (h9 : i = 9 → c ≤ 1) (hn : n < 128 ^ i) : bits .or .u64 (n : Int) ((c * 128 ^ i : Nat) : Int) = ((n + c * 128 ^ i : Nat) : Int) := by
  have hp : (128 : Nat) ^ i = 2 ^ (7 * i) := by rw [show (128 : Nat) = 2 ^ 7 by decide, ← Nat.pow_mul]
  have hle : (128 : Nat) ^ i ≤ 128 ^ 9 := Nat.pow_le_pow_right (by omega) hi
  have h99 : (128 : Nat) ^ 9 < 18446744073709551616 := by decide
  have hlt := lt7 hi hc h9
  rw [bits_or_u64_nat _ _ (by omega) hlt]
  congr 1
  rw [hp] at hn ⊢
  rw [Nat.mul_comm c, Nat.add_comm, Nat.two_pow_add_eq_or_of_lt hn c, Nat.or_comm]
def rtext (s : ByteArray) (at0 : Nat) : ByteArray × Nat × Int :=
  if (vnum s at0).2.2 ≠ 0 then (.empty, at0, (vnum s at0).2.2)
  else if 16384 < (vnum s at0).1 then (.empty, at0, 4)
  else if s.size - (vnum s at0).2.1 < (vnum s at0).1 then (.empty, at0, 3)
  else (s.extract (vnum s at0).2.1 ((vnum s at0).2.1 + (vnum s at0).1), (vnum s at0).2.1 + (vnum s at0).1, 0)
theorem rtext_bd {s : ByteArray} {at0 : Nat} : ((rtext s at0).2.2 = 0 → at0 < (rtext s at0).2.1 ∧ (rtext s at0).2.1 ≤ s.size ∧ (rtext s at0).1.size ≤ 16384) ∧ ((rtext s at0).2.2 ≠ 0 → (rtext s at0).2.1 = at0) := by
  obtain ⟨_, b, _, _⟩ := vnum_bd s at0
  unfold rtext
  split
  · rename_i h; exact ⟨fun e => absurd e h, fun _ => rfl⟩
  rename_i h
  have h : (vnum s at0).2.2 = 0 := Decidable.not_not.1 h
  obtain ⟨b1, b2⟩ := b h
  split
  · exact ⟨fun e => absurd (show (4 : Int) = 0 from e) (by decide), fun _ => rfl⟩
  split
  · exact ⟨fun e => absurd (show (3 : Int) = 0 from e) (by decide), fun _ => rfl⟩
  · refine ⟨fun _ => ⟨by show _ < _ + _; omega, by show _ + _ ≤ _; omega, ?_⟩, fun e => absurd rfl e⟩
    show (s.extract _ _).size ≤ _
    rw [ByteArray.size_extract]
    omega
end Go.Proofs.Ythkjkhffljlidaa.Jo
/- The journal: a reader of strings, as an object of a walk. -/
namespace Go.Proofs.Ythkjkhffljlidaa.Jo
set_option linter.unusedVariables false
set_option linter.unusedSimpArgs false
open Go.RowKit Go.Proofs.Ythkjkhffljlidaa.Ev
variable {gl : List (Nat × List CV)}
abbrev TR : Nat := 143
abbrev rdP (s : ByteArray) (a : Nat) (e : Int) : ObjP := boxP TR [.string s, .int .i64 a, .int .i64 e]
instance : PtrT Try.prog 134 := ⟨⟨_, Try.underlying134⟩⟩
section
variable {P : Program} {X : List Oper → St → Prop} {rest : List Oper} {d : Nat} {ty : TypeId} {pos : String} {af : Array Edge} {n : Nat} {env : List (Nat × AV)} {heap : List (Nat × Option AB)} {nx : Nat} {gl : List (Nat × List CV)}
theorem r_index_n [W : Walk P X] {x y : Operand} {t : TypeId} {s : ByteArray} {kk : IntKind} {idx : Int} [I : StrTy P t] (k : Nat) (hx : St.ev ⟨n, env, heap, nx, gl⟩ x = some (.c (.v (.string s)))) (hy : St.ev ⟨n, env, heap, nx, gl⟩ y = some (.c (.v (.int kk idx)))) (hk : idx = (k : Int)) (hlt : k < s.size) (hd : Nat.blt d n = true) (h : X rest ⟨n, (d, .c (.v (.int .u8 ((byt s k : Nat) : Int)))) :: env, heap, nx, gl⟩) : X (⟨some d, .index t x y, ty, pos, af, none⟩ :: rest) ⟨n, env, heap, nx, gl⟩ :=
  r_index_s k hx hy hk hlt hd h
end
theorem number_rd (s : ByteArray) (a : Nat) (e : Int) (at0 : Nat) (hs : s.size ≤ 1000000000000) (hat : at0 ≤ 1000000000000) : OCon Try.prog gl 92 [.p, .c (I at0)] (rdP s a e) (.tup [U (vnum s at0).1, I (vnum s at0).2.1, I (vnum s at0).2.2]) (rdP s a e) := by
  refine ocon_of Try.func92 rfl (by kernel_rfl) rfl (by intro x hx h e; subst e; first | (simp at hx; done) | (intro g; simp at hx; subst hx; rfl)) ?_
  intro fr hfr
  simp only [Try.ntmps92, Try.results92, argEnvO, avOf, of1, List.map]
  repeat' (first
 | ((with_reducible apply aw_seq))
 | ((with_reducible apply aw_region))
 | ((with_reducible apply aw_block))
 | ((with_reducible apply thn_normal))
 | ((with_reducible apply ao_nil))
 | ((with_reducible apply r_assign); exact rfl; exact rfl)
 )
  refine aw_loopG (G := Nat × Nat) (fun ((i, n) : Nat × Nat) => i ≤ 9 ∧ n < 128 ^ i ∧ vnum s at0 = vgo s at0 n i) (fun ((i, n) : Nat × Nat) => 10 - i) (fun ((i, n) : Nat × Nat) => [(0, .ptr 0 0), (1, A at0), (7, .c (U n)), (8, A i)]) (fun ((i, n) : Nat × Nat) => [(1, fr), (0, some (.obj (rdP s a e)))]) 2 (0, 0) ?_ (by refine weak_mkF hfr rfl rfl rfl ?_ ?_ <;> repeat (first | exact envW_nil | exact heapW_nil | refine envW_cons rfl rfl ?_ | refine heapW_cons rfl rfl rfl ?_)) rfl ?_
  · exact ⟨Nat.zero_le _, by decide, rfl⟩
  rintro ⟨i, n⟩ hI
  try dsimp only at hI
  try dsimp only
  obtain ⟨h1, h2, h3⟩ := hI
  by_cases hsh : s.size ≤ at0 + i
  · rw [h3, vgo_short h1 hsh]
    repeat' (first
 | ((with_reducible apply r_load_o); exact rfl; exact rfl; exact boxP_load rfl; exact rfl)
 | ((with_reducible apply r_nilp); exact rfl; exact rfl)
 | ((with_reducible apply r_len_s); exact rfl; exact rfl)
 | ((with_reducible apply aw_seq))
 | ((with_reducible apply aw_region))
 | ((with_reducible apply aw_block))
 | ((with_reducible apply thn_normal))
 | ((with_reducible apply thn_ret))
 | ((with_reducible apply inb_ret))
 | ((with_reducible apply aw_ret))
 | ((with_reducible apply ao_nil))
 | ((with_reducible apply r_move); exact rfl; exact rfl)
 | ((with_reducible apply r_assign); exact rfl; exact rfl)
 | ((with_reducible apply r_field_p); exact rfl; exact rfl)
 | ((with_reducible apply r_geq); exact rfl; exact rfl; exact rfl)
 | ((with_reducible apply r_add); exact rfl; exact rfl; exact (by first | assumption | (unfold fits; omega)); exact rfl)
 | (((with_reducible apply aw_cond); exact rfl) <;> intro hg <;> (first | (exact absurd hg (by decide)) | ((try simp only [decide_eq_true_eq, decide_eq_false_iff_not, Bool.not_eq_true', Bool.not_eq_false', Bool.not_true, Bool.not_false, Bool.not_not, Int.not_lt, Int.not_le, Nat.not_lt, Nat.not_le, gt_iff_lt, ge_iff_le, List.cons.injEq, and_true] at hg); first | (exact absurd trivial hg) | (exfalso; omega) | (have hT : True := hg; clear hT hg) | skip)))
 )
    exact ⟨ret2 (.cons (.tmp rfl cl_c) (.cons (.tmp rfl cl_c) (.cons (.tmp rfl cl_c) .nil))), rfl, rfl⟩
  have hc256 := byt_lt s (at0 + i)
  by_cases hb : i = 9 ∧ 1 < byt s (at0 + i)
  · rw [h3, vgo_big hsh hb.1 hb.2]
    obtain ⟨hb1, hb2⟩ := hb
    repeat' (first
 | ((with_reducible apply r_load_o); exact rfl; exact rfl; exact boxP_load rfl; exact rfl)
 | ((with_reducible apply r_nilp); exact rfl; exact rfl)
 | ((with_reducible apply r_len_s); exact rfl; exact rfl)
 | ((with_reducible apply (r_index_n (at0 + i))); exact rfl; exact rfl; exact (by push_cast; rfl); exact (by omega); exact rfl)
 | ((with_reducible apply aw_seq))
 | ((with_reducible apply aw_region))
 | ((with_reducible apply aw_block))
 | ((with_reducible apply thn_normal))
 | ((with_reducible apply thn_ret))
 | ((with_reducible apply inb_ret))
 | ((with_reducible apply aw_skip))
 | ((with_reducible apply aw_ret))
 | ((with_reducible apply ao_nil))
 | ((with_reducible apply r_move); exact rfl; exact rfl)
 | ((with_reducible apply r_assign); exact rfl; exact rfl)
 | ((with_reducible apply r_field_p); exact rfl; exact rfl)
 | ((with_reducible apply r_gtr); exact rfl; exact rfl; exact rfl)
 | ((with_reducible apply r_geq); exact rfl; exact rfl; exact rfl)
 | ((with_reducible apply r_eql); exact rfl; exact rfl; exact rfl)
 | ((with_reducible apply r_add); exact rfl; exact rfl; exact (by first | assumption | (unfold fits; omega)); exact rfl)
 | ((with_reducible apply r_pick_t); exact rfl; exact rfl; exact rfl)
 | (((with_reducible apply r_guard); exact rfl; exact rfl; exact rfl; exact rfl) <;> intro hg <;> (first | (exact absurd hg (by decide)) | ((try simp only [decide_eq_true_eq, decide_eq_false_iff_not, Bool.not_eq_true', Bool.not_eq_false', Bool.not_true, Bool.not_false, Bool.not_not, Int.not_lt, Int.not_le, Nat.not_lt, Nat.not_le, gt_iff_lt, ge_iff_le, List.cons.injEq, and_true] at hg); first | (exact absurd trivial hg) | (exfalso; omega) | (have hT : True := hg; clear hT hg) | skip)))
 | (((with_reducible apply aw_cond); exact rfl) <;> intro hg <;> (first | (exact absurd hg (by decide)) | ((try simp only [decide_eq_true_eq, decide_eq_false_iff_not, Bool.not_eq_true', Bool.not_eq_false', Bool.not_true, Bool.not_false, Bool.not_not, Int.not_lt, Int.not_le, Nat.not_lt, Nat.not_le, gt_iff_lt, ge_iff_le, List.cons.injEq, and_true] at hg); first | (exact absurd trivial hg) | (exfalso; omega) | (have hT : True := hg; clear hT hg) | skip)))
 )
    exact ⟨ret2 (.cons (.tmp rfl cl_c) (.cons (.tmp rfl cl_c) (.cons (.tmp rfl cl_c) .nil))), rfl, rfl⟩
  have h9 : i = 9 → byt s (at0 + i) % 128 ≤ 1 := fun h => by
    rcases Nat.lt_or_ge 1 (byt s (at0 + i)) with h' | h'
    · exact absurd ⟨h, h'⟩ hb
    · omega
  have hbb : i = 9 → byt s (at0 + i) ≤ 1 := fun h => by
    rcases Nat.lt_or_ge 1 (byt s (at0 + i)) with h' | h'
    · exact absurd ⟨h, h'⟩ hb
    · omega
  have ha := and127 hc256
  have hsl := shl7 (c := byt s (at0 + i) % 128) h1 (by omega) h9
  have hor := or7 (c := byt s (at0 + i) % 128) h1 (by omega) h9 h2
  have hw := w64 (m := byt s (at0 + i) % 128) (by omega)
  have hn' : n + byt s (at0 + i) % 128 * 128 ^ i < 128 ^ (i + 1) := by
    have hp : 128 ^ (i + 1) = 128 ^ i * 128 := Nat.pow_succ ..
    have hm : byt s (at0 + i) % 128 * 128 ^ i ≤ 127 * 128 ^ i := Nat.mul_le_mul_right _ (by omega)
    omega
  by_cases hc : 128 ≤ byt s (at0 + i)
  · skip
    repeat' (first
 | ((with_reducible apply r_load_o); exact rfl; exact rfl; exact boxP_load rfl; exact rfl)
 | ((with_reducible apply r_nilp); exact rfl; exact rfl)
 | ((with_reducible apply r_len_s); exact rfl; exact rfl)
 | ((with_reducible apply (r_index_n (at0 + i))); exact rfl; exact rfl; exact (by push_cast; rfl); exact (by omega); exact rfl)
 | ((with_reducible apply r_andv); exact rfl; exact rfl; exact ha; exact rfl)
 | ((with_reducible apply r_conv); exact rfl; exact hw; exact rfl)
 | ((with_reducible apply r_shlv); exact rfl; exact rfl; exact (by omega); exact (by show 7 * (i : Int) < 64; omega); exact hsl; exact rfl)
 | ((with_reducible apply r_orv); exact rfl; exact rfl; exact hor; exact rfl)
 | ((with_reducible apply aw_seq))
 | ((with_reducible apply aw_region))
 | ((with_reducible apply aw_block))
 | ((with_reducible apply thn_normal))
 | ((with_reducible apply thn_exit))
 | ((with_reducible apply inb_exit))
 | ((with_reducible apply aw_skip))
 | ((with_reducible apply aw_exit))
 | ((with_reducible apply ao_nil))
 | ((with_reducible apply r_move); exact rfl; exact rfl)
 | ((with_reducible apply r_assign); exact rfl; exact rfl)
 | ((with_reducible apply r_field_p); exact rfl; exact rfl)
 | ((with_reducible apply r_geq); exact rfl; exact rfl; exact rfl)
 | ((with_reducible apply r_eql); exact rfl; exact rfl; exact rfl)
 | ((with_reducible apply r_add); exact rfl; exact rfl; exact (by first | assumption | (unfold fits; omega)); exact rfl)
 | ((with_reducible apply r_mul); exact rfl; exact rfl; exact (by first | assumption | (unfold fits; omega)); exact rfl)
 | ((with_reducible apply r_pick_f); exact rfl; exact rfl; exact rfl)
 | (((with_reducible apply r_guard); exact rfl; exact rfl; exact rfl; exact rfl) <;> intro hg <;> (first | (exact absurd hg (by decide)) | ((try simp only [decide_eq_true_eq, decide_eq_false_iff_not, Bool.not_eq_true', Bool.not_eq_false', Bool.not_true, Bool.not_false, Bool.not_not, Int.not_lt, Int.not_le, Nat.not_lt, Nat.not_le, gt_iff_lt, ge_iff_le, List.cons.injEq, and_true] at hg); first | (exact absurd trivial hg) | (exfalso; omega) | (have hT : True := hg; clear hT hg) | skip)))
 | (((with_reducible apply aw_cond); exact rfl) <;> intro hg <;> (first | (exact absurd hg (by decide)) | ((try simp only [decide_eq_true_eq, decide_eq_false_iff_not, Bool.not_eq_true', Bool.not_eq_false', Bool.not_true, Bool.not_false, Bool.not_not, Int.not_lt, Int.not_le, Nat.not_lt, Nat.not_le, gt_iff_lt, ge_iff_le, List.cons.injEq, and_true] at hg); first | (exact absurd trivial hg) | (exfalso; omega) | (have hT : True := hg; clear hT hg) | skip)))
 )
    refine ⟨(i + 1, n + byt s (at0 + i) % 128 * 128 ^ i), ?_, ?_, by refine weak_mkF hfr rfl rfl rfl ?_ ?_ <;> repeat (first | exact envW_nil | exact heapW_nil | refine envW_cons rfl rfl ?_ | refine heapW_cons rfl rfl rfl ?_)⟩
    · show 10 - (i + 1) < 10 - i; omega
    · refine ⟨?_, hn', ?_⟩
      · show i + 1 ≤ 9
        rcases Nat.lt_or_ge i 9 with h | h
        · omega
        · have := hbb (by omega); omega
      · rw [h3, vgo_next h1 hsh hb hc]
  by_cases hz : byt s (at0 + i) = 0 ∧ 0 < i
  · rw [h3, vgo_zero h1 hsh hb hz.1 hz.2]
    obtain ⟨hz1, hz2⟩ := hz
    repeat' (first
 | ((with_reducible apply r_load_o); exact rfl; exact rfl; exact boxP_load rfl; exact rfl)
 | ((with_reducible apply r_nilp); exact rfl; exact rfl)
 | ((with_reducible apply r_len_s); exact rfl; exact rfl)
 | ((with_reducible apply (r_index_n (at0 + i))); exact rfl; exact rfl; exact (by push_cast; rfl); exact (by omega); exact rfl)
 | ((with_reducible apply r_andv); exact rfl; exact rfl; exact ha; exact rfl)
 | ((with_reducible apply r_conv); exact rfl; exact hw; exact rfl)
 | ((with_reducible apply r_shlv); exact rfl; exact rfl; exact (by omega); exact (by show 7 * (i : Int) < 64; omega); exact hsl; exact rfl)
 | ((with_reducible apply r_orv); exact rfl; exact rfl; exact hor; exact rfl)
 | ((with_reducible apply aw_seq))
 | ((with_reducible apply aw_region))
 | ((with_reducible apply aw_block))
 | ((with_reducible apply thn_normal))
 | ((with_reducible apply thn_ret))
 | ((with_reducible apply inb_ret))
 | ((with_reducible apply aw_skip))
 | ((with_reducible apply aw_ret))
 | ((with_reducible apply ao_nil))
 | ((with_reducible apply r_move); exact rfl; exact rfl)
 | ((with_reducible apply r_assign); exact rfl; exact rfl)
 | ((with_reducible apply r_field_p); exact rfl; exact rfl)
 | ((with_reducible apply r_gtr); exact rfl; exact rfl; exact rfl)
 | ((with_reducible apply r_geq); exact rfl; exact rfl; exact rfl)
 | ((with_reducible apply r_eql); exact rfl; exact rfl; exact rfl)
 | ((with_reducible apply r_add); exact rfl; exact rfl; exact (by first | assumption | (unfold fits; omega)); exact rfl)
 | ((with_reducible apply r_mul); exact rfl; exact rfl; exact (by first | assumption | (unfold fits; omega)); exact rfl)
 | ((with_reducible apply r_pick_t); exact rfl; exact rfl; exact rfl)
 | ((with_reducible apply r_pick_f); exact rfl; exact rfl; exact rfl)
 | (((with_reducible apply r_guard); exact rfl; exact rfl; exact rfl; exact rfl) <;> intro hg <;> (first | (exact absurd hg (by decide)) | ((try simp only [decide_eq_true_eq, decide_eq_false_iff_not, Bool.not_eq_true', Bool.not_eq_false', Bool.not_true, Bool.not_false, Bool.not_not, Int.not_lt, Int.not_le, Nat.not_lt, Nat.not_le, gt_iff_lt, ge_iff_le, List.cons.injEq, and_true] at hg); first | (exact absurd trivial hg) | (exfalso; omega) | (have hT : True := hg; clear hT hg) | skip)))
 | (((with_reducible apply aw_cond); exact rfl) <;> intro hg <;> (first | (exact absurd hg (by decide)) | ((try simp only [decide_eq_true_eq, decide_eq_false_iff_not, Bool.not_eq_true', Bool.not_eq_false', Bool.not_true, Bool.not_false, Bool.not_not, Int.not_lt, Int.not_le, Nat.not_lt, Nat.not_le, gt_iff_lt, ge_iff_le, List.cons.injEq, and_true] at hg); first | (exact absurd trivial hg) | (exfalso; omega) | (have hT : True := hg; clear hT hg) | skip)))
 )
    all_goals exact ⟨ret2 (.cons (.tmp rfl cl_c) (.cons (.tmp rfl cl_c) (.cons (.tmp rfl cl_c) .nil))), rfl, rfl⟩
  · rw [h3, vgo_end h1 hsh hb hc hz]
    by_cases hz1 : byt s (at0 + i) = 0
    all_goals
      have hi0 : byt s (at0 + i) = 0 → i = 0 := fun h => by
        rcases Nat.eq_zero_or_pos i with h' | h'
        · exact h'
        · exact absurd ⟨h, h'⟩ hz
      repeat' (first
 | ((with_reducible apply r_load_o); exact rfl; exact rfl; exact boxP_load rfl; exact rfl)
 | ((with_reducible apply r_nilp); exact rfl; exact rfl)
 | ((with_reducible apply r_len_s); exact rfl; exact rfl)
 | ((with_reducible apply (r_index_n (at0 + i))); exact rfl; exact rfl; exact (by push_cast; rfl); exact (by omega); exact rfl)
 | ((with_reducible apply r_andv); exact rfl; exact rfl; exact ha; exact rfl)
 | ((with_reducible apply r_conv); exact rfl; exact hw; exact rfl)
 | ((with_reducible apply r_shlv); exact rfl; exact rfl; exact (by omega); exact (by show 7 * (i : Int) < 64; omega); exact hsl; exact rfl)
 | ((with_reducible apply r_orv); exact rfl; exact rfl; exact hor; exact rfl)
 | ((with_reducible apply aw_seq))
 | ((with_reducible apply aw_region))
 | ((with_reducible apply aw_block))
 | ((with_reducible apply thn_normal))
 | ((with_reducible apply thn_ret))
 | ((with_reducible apply inb_ret))
 | ((with_reducible apply aw_skip))
 | ((with_reducible apply aw_ret))
 | ((with_reducible apply ao_nil))
 | ((with_reducible apply r_move); exact rfl; exact rfl)
 | ((with_reducible apply r_assign); exact rfl; exact rfl)
 | ((with_reducible apply r_field_p); exact rfl; exact rfl)
 | ((with_reducible apply r_gtr); exact rfl; exact rfl; exact rfl)
 | ((with_reducible apply r_geq); exact rfl; exact rfl; exact rfl)
 | ((with_reducible apply r_eql); exact rfl; exact rfl; exact rfl)
 | ((with_reducible apply r_add); exact rfl; exact rfl; exact (by first | assumption | (unfold fits; omega)); exact rfl)
 | ((with_reducible apply r_mul); exact rfl; exact rfl; exact (by first | assumption | (unfold fits; omega)); exact rfl)
 | ((with_reducible apply r_pick_t); exact rfl; exact rfl; exact rfl)
 | ((with_reducible apply r_pick_f); exact rfl; exact rfl; exact rfl)
 | (((with_reducible apply r_guard); exact rfl; exact rfl; exact rfl; exact rfl) <;> intro hg <;> (first | (exact absurd hg (by decide)) | ((try simp only [decide_eq_true_eq, decide_eq_false_iff_not, Bool.not_eq_true', Bool.not_eq_false', Bool.not_true, Bool.not_false, Bool.not_not, Int.not_lt, Int.not_le, Nat.not_lt, Nat.not_le, gt_iff_lt, ge_iff_le, List.cons.injEq, and_true] at hg); first | (exact absurd trivial hg) | (exfalso; omega) | (have hT : True := hg; clear hT hg) | skip)))
 | (((with_reducible apply aw_cond); exact rfl) <;> intro hg <;> (first | (exact absurd hg (by decide)) | ((try simp only [decide_eq_true_eq, decide_eq_false_iff_not, Bool.not_eq_true', Bool.not_eq_false', Bool.not_true, Bool.not_false, Bool.not_not, Int.not_lt, Int.not_le, Nat.not_lt, Nat.not_le, gt_iff_lt, ge_iff_le, List.cons.injEq, and_true] at hg); first | (exact absurd trivial hg) | (exfalso; omega) | (have hT : True := hg; clear hT hg) | skip)))
 )
      all_goals exact ⟨ret2 (.cons (.tmp rfl cl_c) (.cons (.tmp rfl (Or.inl (by push_cast; rfl))) (.cons (.tmp rfl cl_c) .nil))), rfl, rfl⟩
end Go.Proofs.Ythkjkhffljlidaa.Jo
/- The journal: a reader of strings: Text, Left, Err. -/
namespace Go.Proofs.Ythkjkhffljlidaa.Jo
set_option linter.unusedVariables false
set_option linter.unusedSimpArgs false
open Go.RowKit Go.Proofs.Ythkjkhffljlidaa.Ev
variable {gl : List (Nat × List CV)}
def cnum (s : ByteArray) (at0 : Nat) : Nat × Nat × Int :=
  if (vnum s at0).2.2 ≠ 0 then (0, 0, (vnum s at0).2.2) else if 16384 < (vnum s at0).1 then (0, 0, 4) else (vnum s at0)
theorem counted_rd (s : ByteArray) (a : Nat) (e : Int) (at0 : Nat) (hs : s.size ≤ 1000000000000) (hat : at0 ≤ 1000000000000) : OCon Try.prog gl 90 [.p, .c (I at0), .c (I 16384)] (rdP s a e) (.tup [U (cnum s at0).1, I (cnum s at0).2.1, I (cnum s at0).2.2]) (rdP s a e) := by
  have c0 := number_rd (gl := gl) s a e at0 hs hat
  obtain ⟨b1, b2, b3, b4⟩ := vnum_bd s at0
  unfold cnum
  generalize vnum s at0 = v at c0 b1 b2 b3 b4
  obtain ⟨m, q, er⟩ := v
  dsimp only at *
  have hw := w64 (m := 16384) (by omega)
  refine ocon_of Try.func90 rfl (by kernel_rfl) rfl (by intro x hx h e; subst e; first | (simp at hx; done) | (intro g; simp at hx; subst hx; rfl)) ?_
  intro fr hfr
  simp only [Try.ntmps90, Try.results90, argEnvO, avOf, of1, List.map]
  by_cases h1 : er = 0
  · rw [if_neg (by simp [h1])]
    by_cases h2 : 16384 < m
    · rw [if_pos h2]
      repeat' (first
 | ((with_reducible apply (r_callO 0)); exact c0; exact rfl; exact rfl; exact rfl; exact rfl)
 | ((with_reducible apply r_conv); exact rfl; exact hw; exact rfl)
 | ((with_reducible apply aw_seq))
 | ((with_reducible apply aw_region))
 | ((with_reducible apply thn_normal))
 | ((with_reducible apply thn_ret))
 | ((with_reducible apply aw_skip))
 | ((with_reducible apply aw_ret))
 | ((with_reducible apply ao_nil))
 | ((with_reducible apply r_move); exact rfl; exact rfl)
 | ((with_reducible apply r_assign); exact rfl; exact rfl)
 | ((with_reducible apply r_lss); exact rfl; exact rfl; exact rfl)
 | ((with_reducible apply r_gtr); exact rfl; exact rfl; exact rfl)
 | ((with_reducible apply r_neq); exact rfl; exact rfl; exact rfl)
 | ((with_reducible apply r_pick_f); exact rfl; exact rfl; exact rfl)
 | ((with_reducible apply r_extract); exact rfl; exact rfl; exact rfl)
 | (((with_reducible apply r_guard); exact rfl; exact rfl; exact rfl; exact rfl) <;> intro hg <;> (first | (exact absurd hg (by decide)) | ((try simp only [decide_eq_true_eq, decide_eq_false_iff_not, Bool.not_eq_true', Bool.not_eq_false', Bool.not_true, Bool.not_false, Bool.not_not, Int.not_lt, Int.not_le, Nat.not_lt, Nat.not_le, gt_iff_lt, ge_iff_le, List.cons.injEq, and_true] at hg); first | (exact absurd trivial hg) | (exfalso; omega) | (have hT : True := hg; clear hT hg) | skip)))
 | (((with_reducible apply aw_cond); exact rfl) <;> intro hg <;> (first | (exact absurd hg (by decide)) | ((try simp only [decide_eq_true_eq, decide_eq_false_iff_not, Bool.not_eq_true', Bool.not_eq_false', Bool.not_true, Bool.not_false, Bool.not_not, Int.not_lt, Int.not_le, Nat.not_lt, Nat.not_le, gt_iff_lt, ge_iff_le, List.cons.injEq, and_true] at hg); first | (exact absurd trivial hg) | (exfalso; omega) | (have hT : True := hg; clear hT hg) | skip)))
 )
      all_goals exact ⟨ret2 (.cons (.tmp rfl cl_c) (.cons (.tmp rfl cl_c) (.cons (.tmp rfl cl_c) .nil))), rfl, rfl⟩
    · rw [if_neg h2]
      subst h1
      repeat' (first
 | ((with_reducible apply (r_callO 0)); exact c0; exact rfl; exact rfl; exact rfl; exact rfl)
 | ((with_reducible apply r_conv); exact rfl; exact hw; exact rfl)
 | ((with_reducible apply aw_seq))
 | ((with_reducible apply aw_region))
 | ((with_reducible apply thn_normal))
 | ((with_reducible apply aw_skip))
 | ((with_reducible apply aw_ret))
 | ((with_reducible apply ao_nil))
 | ((with_reducible apply r_move); exact rfl; exact rfl)
 | ((with_reducible apply r_assign); exact rfl; exact rfl)
 | ((with_reducible apply r_lss); exact rfl; exact rfl; exact rfl)
 | ((with_reducible apply r_gtr); exact rfl; exact rfl; exact rfl)
 | ((with_reducible apply r_neq); exact rfl; exact rfl; exact rfl)
 | ((with_reducible apply r_pick_f); exact rfl; exact rfl; exact rfl)
 | ((with_reducible apply r_extract); exact rfl; exact rfl; exact rfl)
 | (((with_reducible apply r_guard); exact rfl; exact rfl; exact rfl; exact rfl) <;> intro hg <;> (first | (exact absurd hg (by decide)) | ((try simp only [decide_eq_true_eq, decide_eq_false_iff_not, Bool.not_eq_true', Bool.not_eq_false', Bool.not_true, Bool.not_false, Bool.not_not, Int.not_lt, Int.not_le, Nat.not_lt, Nat.not_le, gt_iff_lt, ge_iff_le, List.cons.injEq, and_true] at hg); first | (exact absurd trivial hg) | (exfalso; omega) | (have hT : True := hg; clear hT hg) | skip)))
 | (((with_reducible apply aw_cond); exact rfl) <;> intro hg <;> (first | (exact absurd hg (by decide)) | ((try simp only [decide_eq_true_eq, decide_eq_false_iff_not, Bool.not_eq_true', Bool.not_eq_false', Bool.not_true, Bool.not_false, Bool.not_not, Int.not_lt, Int.not_le, Nat.not_lt, Nat.not_le, gt_iff_lt, ge_iff_le, List.cons.injEq, and_true] at hg); first | (exact absurd trivial hg) | (exfalso; omega) | (have hT : True := hg; clear hT hg) | skip)))
 )
      all_goals exact ⟨ret2 (.cons (.tmp rfl cl_c) (.cons (.tmp rfl cl_c) (.cons (.tmp rfl cl_c) .nil))), rfl, rfl⟩
  · rw [if_pos h1]
    repeat' (first
 | ((with_reducible apply (r_callO 0)); exact c0; exact rfl; exact rfl; exact rfl; exact rfl)
 | ((with_reducible apply aw_seq))
 | ((with_reducible apply aw_region))
 | ((with_reducible apply thn_normal))
 | ((with_reducible apply thn_ret))
 | ((with_reducible apply aw_ret))
 | ((with_reducible apply ao_nil))
 | ((with_reducible apply r_move); exact rfl; exact rfl)
 | ((with_reducible apply r_assign); exact rfl; exact rfl)
 | ((with_reducible apply r_neq); exact rfl; exact rfl; exact rfl)
 | ((with_reducible apply r_extract); exact rfl; exact rfl; exact rfl)
 | (((with_reducible apply aw_cond); exact rfl) <;> intro hg <;> (first | (exact absurd hg (by decide)) | ((try simp only [decide_eq_true_eq, decide_eq_false_iff_not, Bool.not_eq_true', Bool.not_eq_false', Bool.not_true, Bool.not_false, Bool.not_not, Int.not_lt, Int.not_le, Nat.not_lt, Nat.not_le, gt_iff_lt, ge_iff_le, List.cons.injEq, and_true] at hg); first | (exact absurd trivial hg) | (exfalso; omega) | (have hT : True := hg; clear hT hg) | skip)))
 )
    all_goals exact ⟨ret2 (.cons (.tmp rfl cl_c) (.cons (.tmp rfl cl_c) (.cons (.tmp rfl cl_c) .nil))), rfl, rfl⟩
theorem stopped_rd (s : ByteArray) (a : Nat) : OCon Try.prog gl 89 [.p] (rdP s a 0) (BO false) (rdP s a 0) := by
  refine ocon_of Try.func89 rfl (by kernel_rfl) rfl (by intro x hx h e; subst e; first | (simp at hx; done) | (intro g; simp at hx; subst hx; rfl)) ?_
  intro fr hfr
  simp only [Try.ntmps89, Try.results89, argEnvO, avOf, of1, List.map]
  repeat' (first
 | ((with_reducible apply r_load_o); exact rfl; exact rfl; exact boxP_load rfl; exact rfl)
 | ((with_reducible apply r_nilp); exact rfl; exact rfl)
 | ((with_reducible apply r_eqnilp); exact rfl; exact rfl; exact rfl)
 | ((with_reducible apply aw_seq))
 | ((with_reducible apply aw_region))
 | ((with_reducible apply thn_normal))
 | ((with_reducible apply aw_ret))
 | ((with_reducible apply ao_nil))
 | ((with_reducible apply r_move); exact rfl; exact rfl)
 | ((with_reducible apply r_assign); exact rfl; exact rfl)
 | ((with_reducible apply r_field_p); exact rfl; exact rfl)
 | ((with_reducible apply r_neq); exact rfl; exact rfl; exact rfl)
 | ((with_reducible apply r_pick_f); exact rfl; exact rfl; exact rfl)
 | (((with_reducible apply r_guard); exact rfl; exact rfl; exact rfl; exact rfl) <;> intro hg <;> (first | (exact absurd hg (by decide)) | ((try simp only [decide_eq_true_eq, decide_eq_false_iff_not, Bool.not_eq_true', Bool.not_eq_false', Bool.not_true, Bool.not_false, Bool.not_not, Int.not_lt, Int.not_le, Nat.not_lt, Nat.not_le, gt_iff_lt, ge_iff_le, List.cons.injEq, and_true] at hg); first | (exact absurd trivial hg) | (exfalso; omega) | (have hT : True := hg; clear hT hg) | skip)))
 )
  all_goals exact ⟨ret_b rfl (by simp), rfl, rfl⟩
theorem done_ok (s : ByteArray) (a q : Nat) : OCon Try.prog gl 91 [.p, .c (I q), .c (I 0)] (rdP s a 0) (.tup []) (rdP s q 0) := by
  refine ocon_of Try.func91 rfl (by kernel_rfl) rfl (by intro x hx h e; subst e; first | (simp at hx; done) | (intro g; simp at hx; subst hx; rfl)) ?_
  intro fr hfr
  simp only [Try.ntmps91, Try.results91, argEnvO, avOf, of1, List.map]
  repeat' (first
 | ((with_reducible apply (r_store_o (rdP s q 0))); exact rfl; exact rfl; exact rfl; exact rfl; exact rfl; exact boxP_store (.int .i64 q) rfl)
 | ((with_reducible apply r_nilp); exact rfl; exact rfl)
 | ((with_reducible apply aw_seq))
 | ((with_reducible apply aw_region))
 | ((with_reducible apply thn_normal))
 | ((with_reducible apply aw_skip))
 | ((with_reducible apply ao_nil))
 | ((with_reducible apply r_move); exact rfl; exact rfl)
 | ((with_reducible apply r_field_p); exact rfl; exact rfl)
 | ((with_reducible apply r_neq); exact rfl; exact rfl; exact rfl)
 | (((with_reducible apply aw_cond); exact rfl) <;> intro hg <;> (first | (exact absurd hg (by decide)) | ((try simp only [decide_eq_true_eq, decide_eq_false_iff_not, Bool.not_eq_true', Bool.not_eq_false', Bool.not_true, Bool.not_false, Bool.not_not, Int.not_lt, Int.not_le, Nat.not_lt, Nat.not_le, gt_iff_lt, ge_iff_le, List.cons.injEq, and_true] at hg); first | (exact absurd trivial hg) | (exfalso; omega) | (have hT : True := hg; clear hT hg) | skip)))
 )
  all_goals first | exact ⟨⟨.inr rfl, .inr ⟨by decide, [], rfl, .nil⟩⟩, rfl, rfl⟩ | exact ⟨⟨.inl rfl, .inr ⟨by decide, [], rfl, .nil⟩⟩, rfl, rfl⟩
theorem done_err (s : ByteArray) (a : Nat) (q e : Int) (he : e ≠ 0) : OCon Try.prog gl 91 [.p, .c (I q), .c (I e)] (rdP s a 0) (.tup []) (rdP s a e) := by
  refine ocon_of Try.func91 rfl (by kernel_rfl) rfl (by intro x hx h e; subst e; first | (simp at hx; done) | (intro g; simp at hx; subst hx; rfl)) ?_
  intro fr hfr
  simp only [Try.ntmps91, Try.results91, argEnvO, avOf, of1, List.map]
  repeat' (first
 | ((with_reducible apply (r_store_o (rdP s a e))); exact rfl; exact rfl; exact rfl; exact rfl; exact rfl; exact boxP_store (.int .i64 e) rfl)
 | ((with_reducible apply r_nilp); exact rfl; exact rfl)
 | ((with_reducible apply aw_seq))
 | ((with_reducible apply aw_region))
 | ((with_reducible apply thn_normal))
 | ((with_reducible apply thn_ret))
 | ((with_reducible apply aw_ret))
 | ((with_reducible apply ao_nil))
 | ((with_reducible apply r_move); exact rfl; exact rfl)
 | ((with_reducible apply r_field_p); exact rfl; exact rfl)
 | ((with_reducible apply r_neq); exact rfl; exact rfl; exact rfl)
 | (((with_reducible apply aw_cond); exact rfl) <;> intro hg <;> (first | (exact absurd hg (by decide)) | ((try simp only [decide_eq_true_eq, decide_eq_false_iff_not, Bool.not_eq_true', Bool.not_eq_false', Bool.not_true, Bool.not_false, Bool.not_not, Int.not_lt, Int.not_le, Nat.not_lt, Nat.not_le, gt_iff_lt, ge_iff_le, List.cons.injEq, and_true] at hg); first | (exact absurd trivial hg) | (exfalso; omega) | (have hT : True := hg; clear hT hg) | skip)))
 )
  all_goals first | exact ⟨⟨.inr rfl, .inr ⟨by decide, [], rfl, .nil⟩⟩, rfl, rfl⟩ | exact ⟨⟨.inl rfl, .inr ⟨by decide, [], rfl, .nil⟩⟩, rfl, rfl⟩
theorem left_rd (s : ByteArray) (a : Nat) (e : Int) (hs : s.size ≤ 1000000000000) (ha : a ≤ 1000000000000) : OCon Try.prog gl 83 [.p] (rdP s a e) (I ((s.size : Int) - a)) (rdP s a e) := by
  refine ocon_of Try.func83 rfl (by kernel_rfl) rfl (by intro x hx h e; subst e; first | (simp at hx; done) | (intro g; simp at hx; subst hx; rfl)) ?_
  intro fr hfr
  simp only [Try.ntmps83, Try.results83, argEnvO, avOf, of1, List.map]
  repeat' (first
 | ((with_reducible apply r_load_o); exact rfl; exact rfl; exact boxP_load rfl; exact rfl)
 | ((with_reducible apply r_nilp); exact rfl; exact rfl)
 | ((with_reducible apply r_eqnilp); exact rfl; exact rfl; exact rfl)
 | ((with_reducible apply r_len_s); exact rfl; exact rfl)
 | ((with_reducible apply aw_seq))
 | ((with_reducible apply aw_region))
 | ((with_reducible apply thn_normal))
 | ((with_reducible apply aw_skip))
 | ((with_reducible apply aw_ret))
 | ((with_reducible apply ao_nil))
 | ((with_reducible apply r_move); exact rfl; exact rfl)
 | ((with_reducible apply r_assign); exact rfl; exact rfl)
 | ((with_reducible apply r_field_p); exact rfl; exact rfl)
 | ((with_reducible apply r_sub); exact rfl; exact rfl; exact (by first | assumption | (unfold fits; omega)); exact rfl)
 | (((with_reducible apply aw_cond); exact rfl) <;> intro hg <;> (first | (exact absurd hg (by decide)) | ((try simp only [decide_eq_true_eq, decide_eq_false_iff_not, Bool.not_eq_true', Bool.not_eq_false', Bool.not_true, Bool.not_false, Bool.not_not, Int.not_lt, Int.not_le, Nat.not_lt, Nat.not_le, gt_iff_lt, ge_iff_le, List.cons.injEq, and_true] at hg); first | (exact absurd trivial hg) | (exfalso; omega) | (have hT : True := hg; clear hT hg) | skip)))
 | (refine aw_drawq ?_ ?_; (kernel_rfl))
 | ((with_reducible apply ds_nil))
 )
  all_goals exact ⟨ret1 (.tmp rfl cl_c), rfl, rfl⟩
theorem err_rd (s : ByteArray) (a : Nat) (e : Int) : OCon Try.prog gl 85 [.p] (rdP s a e) (I e) (rdP s a e) := by
  refine ocon_of Try.func85 rfl (by kernel_rfl) rfl (by intro x hx h e; subst e; first | (simp at hx; done) | (intro g; simp at hx; subst hx; rfl)) ?_
  intro fr hfr
  simp only [Try.ntmps85, Try.results85, argEnvO, avOf, of1, List.map]
  repeat' (first
 | ((with_reducible apply r_load_o); exact rfl; exact rfl; exact boxP_load rfl; exact rfl)
 | ((with_reducible apply r_nilp); exact rfl; exact rfl)
 | ((with_reducible apply r_eqnilp); exact rfl; exact rfl; exact rfl)
 | ((with_reducible apply aw_seq))
 | ((with_reducible apply aw_region))
 | ((with_reducible apply thn_normal))
 | ((with_reducible apply aw_skip))
 | ((with_reducible apply aw_ret))
 | ((with_reducible apply ao_nil))
 | ((with_reducible apply r_move); exact rfl; exact rfl)
 | ((with_reducible apply r_assign); exact rfl; exact rfl)
 | ((with_reducible apply r_field_p); exact rfl; exact rfl)
 | (((with_reducible apply aw_cond); exact rfl) <;> intro hg <;> (first | (exact absurd hg (by decide)) | ((try simp only [decide_eq_true_eq, decide_eq_false_iff_not, Bool.not_eq_true', Bool.not_eq_false', Bool.not_true, Bool.not_false, Bool.not_not, Int.not_lt, Int.not_le, Nat.not_lt, Nat.not_le, gt_iff_lt, ge_iff_le, List.cons.injEq, and_true] at hg); first | (exact absurd trivial hg) | (exfalso; omega) | (have hT : True := hg; clear hT hg) | skip)))
 )
  all_goals exact ⟨ret1 (.tmp rfl cl_c), rfl, rfl⟩
theorem text_rd (s : ByteArray) (a : Nat) (hs : s.size ≤ 1000000000000) (ha : a ≤ s.size) : OCon Try.prog gl 84 [.p, .c (I 16384)] (rdP s a 0) (STR (rtext s a).1) (rdP s (rtext s a).2.1 (rtext s a).2.2) := by
  have c0 := counted_rd (gl := gl) s a 0 a hs (by omega)
  have c1 := stopped_rd (gl := gl) s a
  obtain ⟨b1, b2, b3, b4⟩ := vnum_bd s a
  unfold cnum at c0
  unfold rtext
  generalize vnum s a = v at c0 b1 b2 b3 b4
  obtain ⟨m, q, er⟩ := v
  dsimp only at *
  by_cases h1 : er = 0
  · subst h1
    rw [if_neg (by simp)] at c0 ⊢
    obtain ⟨b5, b6⟩ := b2 rfl
    by_cases h2 : 16384 < m
    · rw [if_pos h2] at c0 ⊢
      have c2 := done_err (gl := gl) s a 0 4 (by decide)
      refine ocon_of Try.func84 rfl (by kernel_rfl) rfl (by intro x hx h e; subst e; first | (simp at hx; done) | (intro g; simp at hx; subst hx; rfl)) ?_
      intro fr hfr
      simp only [Try.ntmps84, Try.results84, argEnvO, avOf, of1, List.map]
      repeat' (first
 | ((with_reducible apply (r_callO 0)); (first | exact c0 | exact c1 | exact c2); exact rfl; exact rfl; exact rfl; exact rfl)
 | ((with_reducible apply r_load_o); exact rfl; exact rfl; exact boxP_load rfl; exact rfl)
 | ((with_reducible apply r_nilp); exact rfl; exact rfl)
 | ((with_reducible apply r_len_s); exact rfl; exact rfl)
 | ((with_reducible apply aw_seq))
 | ((with_reducible apply aw_region))
 | ((with_reducible apply thn_normal))
 | ((with_reducible apply thn_ret))
 | ((with_reducible apply aw_skip))
 | ((with_reducible apply aw_ret))
 | ((with_reducible apply ao_nil))
 | ((with_reducible apply r_move); exact rfl; exact rfl)
 | ((with_reducible apply r_assign); exact rfl; exact rfl)
 | ((with_reducible apply r_field_p); exact rfl; exact rfl)
 | ((with_reducible apply r_eql); exact rfl; exact rfl; exact rfl)
 | ((with_reducible apply r_neq); exact rfl; exact rfl; exact rfl)
 | ((with_reducible apply r_pick_f); exact rfl; exact rfl; exact rfl)
 | ((with_reducible apply r_extract); exact rfl; exact rfl; exact rfl)
 | (((with_reducible apply r_guard); exact rfl; exact rfl; exact rfl; exact rfl) <;> intro hg <;> (first | (exact absurd hg (by decide)) | ((try simp only [decide_eq_true_eq, decide_eq_false_iff_not, Bool.not_eq_true', Bool.not_eq_false', Bool.not_true, Bool.not_false, Bool.not_not, Int.not_lt, Int.not_le, Nat.not_lt, Nat.not_le, gt_iff_lt, ge_iff_le, List.cons.injEq, and_true] at hg); first | (exact absurd trivial hg) | (exfalso; omega) | (have hT : True := hg; clear hT hg) | skip)))
 | (((with_reducible apply aw_cond); exact rfl) <;> intro hg <;> (first | (exact absurd hg (by decide)) | ((try simp only [decide_eq_true_eq, decide_eq_false_iff_not, Bool.not_eq_true', Bool.not_eq_false', Bool.not_true, Bool.not_false, Bool.not_not, Int.not_lt, Int.not_le, Nat.not_lt, Nat.not_le, gt_iff_lt, ge_iff_le, List.cons.injEq, and_true] at hg); first | (exact absurd trivial hg) | (exfalso; omega) | (have hT : True := hg; clear hT hg) | skip)))
 )
      all_goals exact ⟨ret1 (.tmp rfl cl_c), rfl, rfl⟩
    · rw [if_neg h2] at c0 ⊢
      dsimp only at c0
      have hw : IntKind.u64.wrap ((s.size : Int) - (q : Int)) = ((s.size - q : Nat) : Int) := by
        rw [show ((s.size : Int) - (q : Int)) = ((s.size - q : Nat) : Int) by omega]
        exact w64 (by omega)
      by_cases h3 : s.size - q < m
      · rw [if_pos h3]
        have c2 := done_err (gl := gl) s a 0 3 (by decide)
        refine ocon_of Try.func84 rfl (by kernel_rfl) rfl (by intro x hx h e; subst e; first | (simp at hx; done) | (intro g; simp at hx; subst hx; rfl)) ?_
        intro fr hfr
        simp only [Try.ntmps84, Try.results84, argEnvO, avOf, of1, List.map]
        repeat' (first
 | ((with_reducible apply (r_callO 0)); (first | exact c0 | exact c1 | exact c2); exact rfl; exact rfl; exact rfl; exact rfl)
 | ((with_reducible apply r_load_o); exact rfl; exact rfl; exact boxP_load rfl; exact rfl)
 | ((with_reducible apply r_nilp); exact rfl; exact rfl)
 | ((with_reducible apply r_len_s); exact rfl; exact rfl)
 | ((with_reducible apply r_conv); exact rfl; exact hw; exact rfl)
 | ((with_reducible apply aw_seq))
 | ((with_reducible apply aw_region))
 | ((with_reducible apply thn_normal))
 | ((with_reducible apply thn_ret))
 | ((with_reducible apply aw_skip))
 | ((with_reducible apply aw_ret))
 | ((with_reducible apply ao_nil))
 | ((with_reducible apply r_move); exact rfl; exact rfl)
 | ((with_reducible apply r_assign); exact rfl; exact rfl)
 | ((with_reducible apply r_field_p); exact rfl; exact rfl)
 | ((with_reducible apply r_gtr); exact rfl; exact rfl; exact rfl)
 | ((with_reducible apply r_eql); exact rfl; exact rfl; exact rfl)
 | ((with_reducible apply r_neq); exact rfl; exact rfl; exact rfl)
 | ((with_reducible apply r_sub); exact rfl; exact rfl; exact (by first | assumption | (unfold fits; omega)); exact rfl)
 | ((with_reducible apply r_pick_t); exact rfl; exact rfl; exact rfl)
 | ((with_reducible apply r_extract); exact rfl; exact rfl; exact rfl)
 | (((with_reducible apply r_guard); exact rfl; exact rfl; exact rfl; exact rfl) <;> intro hg <;> (first | (exact absurd hg (by decide)) | ((try simp only [decide_eq_true_eq, decide_eq_false_iff_not, Bool.not_eq_true', Bool.not_eq_false', Bool.not_true, Bool.not_false, Bool.not_not, Int.not_lt, Int.not_le, Nat.not_lt, Nat.not_le, gt_iff_lt, ge_iff_le, List.cons.injEq, and_true] at hg); first | (exact absurd trivial hg) | (exfalso; omega) | (have hT : True := hg; clear hT hg) | skip)))
 | (((with_reducible apply aw_cond); exact rfl) <;> intro hg <;> (first | (exact absurd hg (by decide)) | ((try simp only [decide_eq_true_eq, decide_eq_false_iff_not, Bool.not_eq_true', Bool.not_eq_false', Bool.not_true, Bool.not_false, Bool.not_not, Int.not_lt, Int.not_le, Nat.not_lt, Nat.not_le, gt_iff_lt, ge_iff_le, List.cons.injEq, and_true] at hg); first | (exact absurd trivial hg) | (exfalso; omega) | (have hT : True := hg; clear hT hg) | skip)))
 )
        all_goals exact ⟨ret1 (.tmp rfl cl_c), rfl, rfl⟩
      · rw [if_neg h3]
        have c2 := done_ok (gl := gl) s a (q + m)
        have hm : IntKind.i64.wrap (m : Int) = (m : Int) := by simp [IntKind.wrap, IntKind.bits, IntKind.signed]; omega
        have e2 : (q : Int) + (m : Int) = ((q + m : Nat) : Int) := by push_cast; rfl
        refine ocon_of Try.func84 rfl (by kernel_rfl) rfl (by intro x hx h e; subst e; first | (simp at hx; done) | (intro g; simp at hx; subst hx; rfl)) ?_
        intro fr hfr
        simp only [Try.ntmps84, Try.results84, argEnvO, avOf, of1, List.map]
        repeat' (first
 | (rw [e2])
 | ((with_reducible apply (r_callO 0)); (first | exact c0 | exact c1 | exact c2); exact rfl; exact rfl; exact rfl; exact rfl)
 | ((with_reducible apply r_load_o); exact rfl; exact rfl; exact boxP_load rfl; exact rfl)
 | ((with_reducible apply r_nilp); exact rfl; exact rfl)
 | ((with_reducible apply r_len_s); exact rfl; exact rfl)
 | ((with_reducible apply (r_conv (k2 := .u64))); exact rfl; exact hw; exact rfl)
 | ((with_reducible apply (r_conv (k2 := .i64))); exact rfl; exact hm; exact rfl)
 | ((with_reducible apply (r_cutBoth q (q + m))); exact rfl; exact rfl; exact rfl; exact rfl; exact rfl; exact (by omega); exact (by omega); exact rfl)
 | ((with_reducible apply aw_seq))
 | ((with_reducible apply aw_region))
 | ((with_reducible apply thn_normal))
 | ((with_reducible apply aw_skip))
 | ((with_reducible apply aw_ret))
 | ((with_reducible apply ao_nil))
 | ((with_reducible apply r_move); exact rfl; exact rfl)
 | ((with_reducible apply r_assign); exact rfl; exact rfl)
 | ((with_reducible apply r_field_p); exact rfl; exact rfl)
 | ((with_reducible apply r_gtr); exact rfl; exact rfl; exact rfl)
 | ((with_reducible apply r_eql); exact rfl; exact rfl; exact rfl)
 | ((with_reducible apply r_neq); exact rfl; exact rfl; exact rfl)
 | ((with_reducible apply r_add); exact rfl; exact rfl; exact (by first | assumption | (unfold fits; omega)); exact rfl)
 | ((with_reducible apply r_sub); exact rfl; exact rfl; exact (by first | assumption | (unfold fits; omega)); exact rfl)
 | ((with_reducible apply r_pick_t); exact rfl; exact rfl; exact rfl)
 | ((with_reducible apply r_extract); exact rfl; exact rfl; exact rfl)
 | (((with_reducible apply r_guard); exact rfl; exact rfl; exact rfl; exact rfl) <;> intro hg <;> (first | (exact absurd hg (by decide)) | ((try simp only [decide_eq_true_eq, decide_eq_false_iff_not, Bool.not_eq_true', Bool.not_eq_false', Bool.not_true, Bool.not_false, Bool.not_not, Int.not_lt, Int.not_le, Nat.not_lt, Nat.not_le, gt_iff_lt, ge_iff_le, List.cons.injEq, and_true] at hg); first | (exact absurd trivial hg) | (exfalso; omega) | (have hT : True := hg; clear hT hg) | skip)))
 | (((with_reducible apply aw_cond); exact rfl) <;> intro hg <;> (first | (exact absurd hg (by decide)) | ((try simp only [decide_eq_true_eq, decide_eq_false_iff_not, Bool.not_eq_true', Bool.not_eq_false', Bool.not_true, Bool.not_false, Bool.not_not, Int.not_lt, Int.not_le, Nat.not_lt, Nat.not_le, gt_iff_lt, ge_iff_le, List.cons.injEq, and_true] at hg); first | (exact absurd trivial hg) | (exfalso; omega) | (have hT : True := hg; clear hT hg) | skip)))
 )
        all_goals exact ⟨ret1 (.tmp rfl cl_c), rfl, rfl⟩
  · rw [if_pos h1] at c0 ⊢
    have c2 := done_err (gl := gl) s a 0 er h1
    refine ocon_of Try.func84 rfl (by kernel_rfl) rfl (by intro x hx h e; subst e; first | (simp at hx; done) | (intro g; simp at hx; subst hx; rfl)) ?_
    intro fr hfr
    simp only [Try.ntmps84, Try.results84, argEnvO, avOf, of1, List.map]
    repeat' (first
 | ((with_reducible apply (r_callO 0)); (first | exact c0 | exact c1 | exact c2); exact rfl; exact rfl; exact rfl; exact rfl)
 | ((with_reducible apply r_load_o); exact rfl; exact rfl; exact boxP_load rfl; exact rfl)
 | ((with_reducible apply r_nilp); exact rfl; exact rfl)
 | ((with_reducible apply r_len_s); exact rfl; exact rfl)
 | ((with_reducible apply aw_seq))
 | ((with_reducible apply aw_region))
 | ((with_reducible apply thn_normal))
 | ((with_reducible apply thn_ret))
 | ((with_reducible apply aw_skip))
 | ((with_reducible apply aw_ret))
 | ((with_reducible apply ao_nil))
 | ((with_reducible apply r_move); exact rfl; exact rfl)
 | ((with_reducible apply r_assign); exact rfl; exact rfl)
 | ((with_reducible apply r_field_p); exact rfl; exact rfl)
 | ((with_reducible apply r_eql); exact rfl; exact rfl; exact rfl)
 | ((with_reducible apply r_neq); exact rfl; exact rfl; exact rfl)
 | ((with_reducible apply r_pick_f); exact rfl; exact rfl; exact rfl)
 | ((with_reducible apply r_extract); exact rfl; exact rfl; exact rfl)
 | (((with_reducible apply r_guard); exact rfl; exact rfl; exact rfl; exact rfl) <;> intro hg <;> (first | (exact absurd hg (by decide)) | ((try simp only [decide_eq_true_eq, decide_eq_false_iff_not, Bool.not_eq_true', Bool.not_eq_false', Bool.not_true, Bool.not_false, Bool.not_not, Int.not_lt, Int.not_le, Nat.not_lt, Nat.not_le, gt_iff_lt, ge_iff_le, List.cons.injEq, and_true] at hg); first | (exact absurd trivial hg) | (exfalso; omega) | (have hT : True := hg; clear hT hg) | skip)))
 | (((with_reducible apply aw_cond); exact rfl) <;> intro hg <;> (first | (exact absurd hg (by decide)) | ((try simp only [decide_eq_true_eq, decide_eq_false_iff_not, Bool.not_eq_true', Bool.not_eq_false', Bool.not_true, Bool.not_false, Bool.not_not, Int.not_lt, Int.not_le, Nat.not_lt, Nat.not_le, gt_iff_lt, ge_iff_le, List.cons.injEq, and_true] at hg); first | (exact absurd trivial hg) | (exfalso; omega) | (have hT : True := hg; clear hT hg) | skip)))
 )
    all_goals exact ⟨ret1 (.tmp rfl cl_c), rfl, rfl⟩
end Go.Proofs.Ythkjkhffljlidaa.Jo
/- The journal: the records of a stream. -/
namespace Go.Proofs.Ythkjkhffljlidaa.Jo
set_option linter.unusedVariables false
set_option linter.unusedSimpArgs false
open Go.RowKit Go.Proofs.Ythkjkhffljlidaa.Ev
variable {gl : List (Nat × List CV)}
def grpGo (s : ByteArray) (at0 : Nat) (acc : List ByteArray) : Option (List ByteArray) :=
  if at0 < s.size then
    if (rtext s at0).2.2 ≠ 0 ∨ acc.length = 32 then none
    else if h : at0 < (rtext s at0).2.1 then grpGo s (rtext s at0).2.1 (acc ++ [(rtext s at0).1]) else none
  else if acc = [] then none else some acc
termination_by s.size - at0
decreasing_by omega
def grp (s : ByteArray) : Option (List ByteArray) := grpGo s 0 []
theorem grp_bad {s : ByteArray} {a : Nat} {acc : List ByteArray} (h : a < s.size) (he : (rtext s a).2.2 ≠ 0 ∨ acc.length = 32) : grpGo s a acc = none := by
  rw [grpGo, if_pos h, if_pos he]
theorem grp_next {s : ByteArray} {a : Nat} {acc : List ByteArray} (h : a < s.size) (he : (rtext s a).2.2 = 0) (hl : acc.length ≠ 32) : grpGo s a acc = grpGo s (rtext s a).2.1 (acc ++ [(rtext s a).1]) := by
  rw [grpGo, if_pos h, if_neg (by rintro (h1 | h1) <;> contradiction), dif_pos ((rtext_bd (s := s) (at0 := a)).1 he).1]
theorem grp_end {s : ByteArray} {a : Nat} {acc : List ByteArray} (h : ¬ a < s.size) : grpGo s a acc = if acc = [] then none else some acc := by
  rw [grpGo, if_neg h]
def grpV : Option (List ByteArray) → CV
  | some l => .tup [LT l, BO true]
  | none => .tup [LT [], BO false]
theorem group_con (s : ByteArray) (hs : s.size ≤ 1000000000000) : Con Try.prog gl 73 [STR s] (grpV (grp s)) := by
  unfold grp
  refine con_of Try.func73 rfl (by kernel_rfl) rfl ?_
  simp only [Try.ntmps73, Try.results73, argEnv, ofC, of1, List.map]
  repeat' (first
 | ((with_reducible apply (r_in Try.func82 rfl Try.results82 (by kernel_rfl) Try.ntmps82)); exact rfl; exact rfl; exact rfl; exact rfl)
 | ((with_reducible apply back_ret); exact rfl)
 | ((with_reducible apply aw_seq))
 | ((with_reducible apply aw_region))
 | ((with_reducible apply aw_block))
 | ((with_reducible apply thn_normal))
 | ((with_reducible apply aw_ret))
 | ((with_reducible apply ao_nil))
 | ((with_reducible apply r_move); exact rfl; exact rfl)
 | ((with_reducible apply r_assign); exact rfl; exact rfl)
 | ((with_reducible apply r_box_a); exact rfl; exact rfl)
 | ((with_reducible apply r_build); exact rfl; exact rfl; exact rfl)
 )
  refine aw_boxObj 0 (t := TR) (vs := [.string s, .int .i64 0, .int .i64 0]) (p := rdP s 0 0) rfl (boxP_new TR _) ?_
  refine aw_nilvec 5 9 1 rfl rfl ?_
  refine aw_loopG (G := Nat × List ByteArray) (fun ((a, acc) : Nat × List ByteArray) => a ≤ s.size ∧ acc.length ≤ 32 ∧ grpGo s 0 [] = grpGo s a acc) (fun ((a, acc) : Nat × List ByteArray) => s.size - a) (fun ((a, acc) : Nat × List ByteArray) => [(4, .ptr 0 0), (5, .vec 1 acc.length)]) (fun ((a, acc) : Nat × List ByteArray) => [(0, some (.obj (rdP s a 0))), (1, some (.vec 9 1 (acc.flatMap stC)))]) 2 (0, []) ?_ (by refine weak_mk rfl ?_ ?_ <;> repeat (first | exact envW_nil | exact heapW_nil | refine envW_cons rfl rfl ?_ | refine heapW_cons rfl rfl rfl ?_)) rfl ?_
  · exact ⟨Nat.zero_le _, Nat.zero_le _, rfl⟩
  rintro ⟨a, acc⟩ hI
  try dsimp only at hI
  try dsimp only
  obtain ⟨h1, h2, h3⟩ := hI
  have c0 := left_rd (gl := gl) s a 0 hs (by omega)
  by_cases ha : a < s.size
  · have c1 := text_rd (gl := gl) s a hs (by omega)
    have hbd := rtext_bd (s := s) (at0 := a)
    have hbad := grp_bad (acc := acc) ha
    have hnext := grp_next (acc := acc) ha
    generalize rtext s a = v at c1 hbd hbad hnext
    obtain ⟨x, q, e⟩ := v
    dsimp only at c1 hbd hbad hnext
    have c2 := err_rd (gl := gl) s q e
    by_cases he : e = 0
    · subst he
      by_cases h32 : acc.length = 32
      · rw [h3, hbad (.inr h32)]
        repeat' (first
 | ((with_reducible apply (r_callO 0)); (first | exact c0 | exact c1 | exact c2); exact rfl; exact rfl; exact rfl; exact rfl)
 | ((with_reducible apply aw_seq))
 | ((with_reducible apply aw_region))
 | ((with_reducible apply aw_block))
 | ((with_reducible apply thn_normal))
 | ((with_reducible apply thn_ret))
 | ((with_reducible apply inb_ret))
 | ((with_reducible apply aw_skip))
 | ((with_reducible apply aw_ret))
 | ((with_reducible apply ao_nil))
 | ((with_reducible apply r_move); exact rfl; exact rfl)
 | ((with_reducible apply r_assign); exact rfl; exact rfl)
 | ((with_reducible apply r_gtr); exact rfl; exact rfl; exact rfl)
 | ((with_reducible apply r_eql); exact rfl; exact rfl; exact rfl)
 | ((with_reducible apply r_neq); exact rfl; exact rfl; exact rfl)
 | ((with_reducible apply r_pick_f); exact rfl; exact rfl; exact rfl)
 | ((with_reducible apply r_len_v); exact rfl; exact rfl; (first | (exact flat_len EncL.len _) | (rw [flat_len EncL.len]; first | assumption | omega | (congr 1; omega))); exact rfl)
 | (((with_reducible apply r_guard); exact rfl; exact rfl; exact rfl; exact rfl) <;> intro hg <;> (first | (exact absurd hg (by decide)) | ((try simp only [decide_eq_true_eq, decide_eq_false_iff_not, Bool.not_eq_true', Bool.not_eq_false', Bool.not_true, Bool.not_false, Bool.not_not, Int.not_lt, Int.not_le, Nat.not_lt, Nat.not_le, gt_iff_lt, ge_iff_le, List.cons.injEq, and_true] at hg); first | (exact absurd trivial hg) | (exfalso; omega) | (have hT : True := hg; clear hT hg) | skip)))
 | (((with_reducible apply aw_cond); exact rfl) <;> intro hg <;> (first | (exact absurd hg (by decide)) | ((try simp only [decide_eq_true_eq, decide_eq_false_iff_not, Bool.not_eq_true', Bool.not_eq_false', Bool.not_true, Bool.not_false, Bool.not_not, Int.not_lt, Int.not_le, Nat.not_lt, Nat.not_le, gt_iff_lt, ge_iff_le, List.cons.injEq, and_true] at hg); first | (exact absurd trivial hg) | (exfalso; omega) | (have hT : True := hg; clear hT hg) | skip)))
 )
        all_goals exact ret2 (.cons (.tmp rfl cl_none) (.cons (.tmp rfl cl_c) .nil))
      · rw [hnext rfl h32] at h3
        obtain ⟨b1, b2, b3⟩ := hbd.1 rfl
        repeat' (first
 | ((with_reducible apply (r_callO 0)); (first | exact c0 | exact c1 | exact c2); exact rfl; exact rfl; exact rfl; exact rfl)
 | ((with_reducible apply r_litq); exact rfl; exact rfl; exact rfl; exact rfl; exact rfl; exact rfl; exact rfl)
 | ((with_reducible apply (r_appendl (enc := stC) (l2 := [x]))); exact rfl; exact rfl; exact inferInstance; exact rfl; exact rfl; exact (by show acc.length + 1 < _; omega); exact (by show (acc.length + 1) * _ ≤ _; omega); exact rfl)
 | ((with_reducible apply aw_seq))
 | ((with_reducible apply aw_region))
 | ((with_reducible apply aw_block))
 | ((with_reducible apply thn_normal))
 | ((with_reducible apply inb_normal))
 | ((with_reducible apply aw_skip))
 | ((with_reducible apply ao_nil))
 | ((with_reducible apply r_move); exact rfl; exact rfl)
 | ((with_reducible apply r_assign); exact rfl; exact rfl)
 | ((with_reducible apply r_gtr); exact rfl; exact rfl; exact rfl)
 | ((with_reducible apply r_eql); exact rfl; exact rfl; exact rfl)
 | ((with_reducible apply r_neq); exact rfl; exact rfl; exact rfl)
 | ((with_reducible apply r_pick_f); exact rfl; exact rfl; exact rfl)
 | ((with_reducible apply r_len_v); exact rfl; exact rfl; (first | (exact flat_len EncL.len _) | (rw [flat_len EncL.len]; first | assumption | omega | (congr 1; omega))); exact rfl)
 | (((with_reducible apply r_guard); exact rfl; exact rfl; exact rfl; exact rfl) <;> intro hg <;> (first | (exact absurd hg (by decide)) | ((try simp only [decide_eq_true_eq, decide_eq_false_iff_not, Bool.not_eq_true', Bool.not_eq_false', Bool.not_true, Bool.not_false, Bool.not_not, Int.not_lt, Int.not_le, Nat.not_lt, Nat.not_le, gt_iff_lt, ge_iff_le, List.cons.injEq, and_true] at hg); first | (exact absurd trivial hg) | (exfalso; omega) | (have hT : True := hg; clear hT hg) | skip)))
 | (((with_reducible apply aw_cond); exact rfl) <;> intro hg <;> (first | (exact absurd hg (by decide)) | ((try simp only [decide_eq_true_eq, decide_eq_false_iff_not, Bool.not_eq_true', Bool.not_eq_false', Bool.not_true, Bool.not_false, Bool.not_not, Int.not_lt, Int.not_le, Nat.not_lt, Nat.not_le, gt_iff_lt, ge_iff_le, List.cons.injEq, and_true] at hg); first | (exact absurd trivial hg) | (exfalso; omega) | (have hT : True := hg; clear hT hg) | skip)))
 )
        rw [show acc.length + [x].length = (acc ++ [x]).length by simp]
        refine ⟨(q, acc ++ [x]), ?_, ?_, by refine weak_mk rfl ?_ ?_ <;> repeat (first | exact envW_nil | exact heapW_nil | refine envW_cons rfl rfl ?_ | refine heapW_cons rfl rfl rfl ?_)⟩
        · show s.size - q < s.size - a; omega
        · exact ⟨b2, by show (acc ++ [x]).length ≤ 32; simp; omega, h3⟩
    · rw [h3, hbad (.inl he)]
      repeat' (first
 | ((with_reducible apply (r_callO 0)); (first | exact c0 | exact c1 | exact c2); exact rfl; exact rfl; exact rfl; exact rfl)
 | ((with_reducible apply aw_seq))
 | ((with_reducible apply aw_region))
 | ((with_reducible apply aw_block))
 | ((with_reducible apply thn_normal))
 | ((with_reducible apply thn_ret))
 | ((with_reducible apply inb_ret))
 | ((with_reducible apply aw_skip))
 | ((with_reducible apply aw_ret))
 | ((with_reducible apply ao_nil))
 | ((with_reducible apply r_move); exact rfl; exact rfl)
 | ((with_reducible apply r_assign); exact rfl; exact rfl)
 | ((with_reducible apply r_gtr); exact rfl; exact rfl; exact rfl)
 | ((with_reducible apply r_neq); exact rfl; exact rfl; exact rfl)
 | ((with_reducible apply r_pick_t); exact rfl; exact rfl; exact rfl)
 | (((with_reducible apply r_guard); exact rfl; exact rfl; exact rfl; exact rfl) <;> intro hg <;> (first | (exact absurd hg (by decide)) | ((try simp only [decide_eq_true_eq, decide_eq_false_iff_not, Bool.not_eq_true', Bool.not_eq_false', Bool.not_true, Bool.not_false, Bool.not_not, Int.not_lt, Int.not_le, Nat.not_lt, Nat.not_le, gt_iff_lt, ge_iff_le, List.cons.injEq, and_true] at hg); first | (exact absurd trivial hg) | (exfalso; omega) | (have hT : True := hg; clear hT hg) | skip)))
 | (((with_reducible apply aw_cond); exact rfl) <;> intro hg <;> (first | (exact absurd hg (by decide)) | ((try simp only [decide_eq_true_eq, decide_eq_false_iff_not, Bool.not_eq_true', Bool.not_eq_false', Bool.not_true, Bool.not_false, Bool.not_not, Int.not_lt, Int.not_le, Nat.not_lt, Nat.not_le, gt_iff_lt, ge_iff_le, List.cons.injEq, and_true] at hg); first | (exact absurd trivial hg) | (exfalso; omega) | (have hT : True := hg; clear hT hg) | skip)))
 )
      all_goals exact ret2 (.cons (.tmp rfl cl_none) (.cons (.tmp rfl cl_c) .nil))
  · rw [h3, grp_end ha]
    by_cases hn : acc = []
    · rw [if_pos hn]
      subst hn
      repeat' (first
 | ((with_reducible apply (r_callO 0)); exact c0; exact rfl; exact rfl; exact rfl; exact rfl)
 | ((with_reducible apply aw_seq))
 | ((with_reducible apply aw_region))
 | ((with_reducible apply thn_normal))
 | ((with_reducible apply thn_exit))
 | ((with_reducible apply inb_exit))
 | ((with_reducible apply aw_exit))
 | ((with_reducible apply aw_ret))
 | ((with_reducible apply ao_nil))
 | ((with_reducible apply r_move); exact rfl; exact rfl)
 | ((with_reducible apply r_assign); exact rfl; exact rfl)
 | ((with_reducible apply r_gtr); exact rfl; exact rfl; exact rfl)
 | ((with_reducible apply r_len_v); exact rfl; exact rfl; (first | (exact flat_len EncL.len _) | (rw [flat_len EncL.len]; first | assumption | omega | (congr 1; omega))); exact rfl)
 | (((with_reducible apply aw_cond); exact rfl) <;> intro hg <;> (first | (exact absurd hg (by decide)) | ((try simp only [decide_eq_true_eq, decide_eq_false_iff_not, Bool.not_eq_true', Bool.not_eq_false', Bool.not_true, Bool.not_false, Bool.not_not, Int.not_lt, Int.not_le, Nat.not_lt, Nat.not_le, gt_iff_lt, ge_iff_le, List.cons.injEq, and_true] at hg); first | (exact absurd trivial hg) | (exfalso; omega) | (have hT : True := hg; clear hT hg) | skip)))
 )
      all_goals exact ret2 (.cons (.tmp rfl (cl_vec rfl rfl)) (.cons (.tmp rfl cl_c) .nil))
    · rw [if_neg hn]
      have hpos : 0 < acc.length := List.length_pos_iff.2 hn
      have hd : decide ((acc.length : Int) > 0) = true := by simpa using hpos
      repeat' (first
 | (rw [hd])
 | ((with_reducible apply (r_callO 0)); exact c0; exact rfl; exact rfl; exact rfl; exact rfl)
 | ((with_reducible apply aw_seq))
 | ((with_reducible apply aw_region))
 | ((with_reducible apply thn_normal))
 | ((with_reducible apply thn_exit))
 | ((with_reducible apply inb_exit))
 | ((with_reducible apply aw_exit))
 | ((with_reducible apply aw_ret))
 | ((with_reducible apply ao_nil))
 | ((with_reducible apply r_move); exact rfl; exact rfl)
 | ((with_reducible apply r_assign); exact rfl; exact rfl)
 | ((with_reducible apply r_gtr); exact rfl; exact rfl; exact rfl)
 | ((with_reducible apply r_len_v); exact rfl; exact rfl; (first | (exact flat_len EncL.len _) | (rw [flat_len EncL.len]; first | assumption | omega | (congr 1; omega))); exact rfl)
 | (((with_reducible apply aw_cond); exact rfl) <;> intro hg <;> (first | (exact absurd hg (by decide)) | ((try simp only [decide_eq_true_eq, decide_eq_false_iff_not, Bool.not_eq_true', Bool.not_eq_false', Bool.not_true, Bool.not_false, Bool.not_not, Int.not_lt, Int.not_le, Nat.not_lt, Nat.not_le, gt_iff_lt, ge_iff_le, List.cons.injEq, and_true] at hg); first | (exact absurd trivial hg) | (exfalso; omega) | (have hT : True := hg; clear hT hg) | skip)))
 )
      all_goals exact ret2 (.cons (.tmp rfl (cl_vec rfl (flat_len EncL.len _))) (.cons (.tmp rfl cl_c) .nil))
end Go.Proofs.Ythkjkhffljlidaa.Jo
/- Plain Lean functions for package sums (checksums, hashes, digits), no program in sight. -/
namespace Go.Proofs.Ythkjkhffljlidaa.Sm
set_option linter.unusedVariables false
set_option linter.unusedSimpArgs false
def crcBit (r : BitVec 32) : BitVec 32 := if r.toNat % 2 = 1 then (r >>> 1) ^^^ 0xedb88320#32 else r >>> 1
def crcBits : Nat → BitVec 32 → BitVec 32
  | 0, r => r
  | k + 1, r => crcBit (crcBits k r)
def crcByte (r : BitVec 32) (c : UInt8) : BitVec 32 := crcBits 8 (r ^^^ BitVec.ofNat 32 c.toNat)
def crcReg (l : List UInt8) : BitVec 32 := l.foldl crcByte 0xffffffff#32
def crc (l : List UInt8) : BitVec 32 := ~~~ crcReg l
def hashByte (n : BitVec 64) (c : UInt8) : BitVec 64 := (n ^^^ BitVec.ofNat 64 c.toNat) * 0x100000001b3#64
def hash (l : List UInt8) : BitVec 64 := l.foldl hashByte 0xcbf29ce484222325#64
def hexDigit (d : Nat) : UInt8 := UInt8.ofNat (if d < 10 then 48 + d else 87 + d)
def digits (n : Nat) (many : Nat) : List UInt8 := (List.range many).map fun i => hexDigit (n / 16 ^ (many - 1 - i) % 16)
def bytes8 (n : Nat) : List UInt8 := (List.range 8).map fun i => UInt8.ofNat (n / 256 ^ (7 - i))
def hexVal (c : Nat) : Option Nat := if 48 ≤ c ∧ c ≤ 57 then some (c - 48) else if 97 ≤ c ∧ c ≤ 102 then some (c - 87) else none
def parse : List UInt8 → Nat → Option Nat
  | [], n => some n
  | c :: l, n => match hexVal c.toNat with
    | none => none
    | some d => parse l (n * 16 + d)
def number (l : List UInt8) : Nat × Int := if l.length < 16 then (0, 3) else if 16 < l.length then (0, 4) else match parse l 0 with | none => (0, 5) | some n => (n, 0)
theorem take_snoc (s : ByteArray) (k : Nat) (h : k < s.size) : s.data.toList.take (k + 1) = s.data.toList.take k ++ [s[k]] := by
  rw [List.take_succ_eq_append_getElem (by simpa using h)]; rfl
theorem hash_snoc (l : List UInt8) (c : UInt8) : hash (l ++ [c]) = hashByte (hash l) c := by simp [hash]
theorem bits_xor64 (x y : BitVec 64) : bits .xor .u64 (x.toNat : Int) (y.toNat : Int) = ((x ^^^ y).toNat : Int) := by
  rw [u64_xor_nat _ _ x.isLt y.isLt, BitVec.toNat_xor]
theorem byte32 (c : UInt8) : (BitVec.ofNat 32 c.toNat).toNat = c.toNat := by
  have := c.toNat_lt
  rw [BitVec.toNat_ofNat]; omega
theorem byte64 (c : UInt8) : (BitVec.ofNat 64 c.toNat).toNat = c.toNat := by
  have := c.toNat_lt
  rw [BitVec.toNat_ofNat]; omega
theorem xor_byte64 (x : BitVec 64) (c : UInt8) : bits .xor .u64 (x.toNat : Int) (c.toNat : Int) = ((x ^^^ BitVec.ofNat 64 c.toNat).toNat : Int) := by
  rw [← bits_xor64, byte64]
theorem wrap_byte64 (c : UInt8) : IntKind.u64.wrap (c.toNat : Int) = (c.toNat : Int) := by
  have := c.toNat_lt
  simp [IntKind.wrap, IntKind.bits, IntKind.signed]; omega
theorem wrap_nat64 (n : Nat) : IntKind.u64.wrap (n : Int) = ((n % 18446744073709551616 : Nat) : Int) := by
  simp [IntKind.wrap, IntKind.bits, IntKind.signed]
theorem hash_step (n : BitVec 64) (c : UInt8) : IntKind.u64.wrap (bits .xor .u64 (n.toNat : Int) (c.toNat : Int) * 1099511628211) = ((hashByte n c).toNat : Int) := by
  rw [xor_byte64, hashByte, BitVec.toNat_mul]
  generalize (n ^^^ BitVec.ofNat 64 c.toNat).toNat = x
  rw [show ((x : Int) * 1099511628211) = ((x * 1099511628211 : Nat) : Int) from by omega, wrap_nat64]
  rfl
theorem nib (x k : Nat) (hx : x < 2 ^ 64) (hk : k < 16) : bits .and .u64 ((x : Int) / 2 ^ (60 - 4 * k)) 15 = ((x / 16 ^ (15 - k) % 16 : Nat) : Int) := by
  have e1 : (16 : Nat) ^ (15 - k) = 2 ^ (60 - 4 * k) := by
    rw [show (16 : Nat) = 2 ^ 4 from rfl, ← Nat.pow_mul, show 4 * (15 - k) = 60 - 4 * k from by omega]
  have e2 : ((x : Int) / 2 ^ (60 - 4 * k)) = ((x / 16 ^ (15 - k) : Nat) : Int) := by
    rw [e1]; push_cast; rfl
  rw [e2]
  have hl : x / 16 ^ (15 - k) < 18446744073709551616 := Nat.lt_of_le_of_lt (Nat.div_le_self _ _) hx
  have := u64_and_nat (x / 16 ^ (15 - k)) 15 hl (by omega)
  rw [nat_mask4] at this
  exact this
theorem tbl_at : ∀ d, (hd : d < 16) → (({ data := #[48, 49, 50, 51, 52, 53, 54, 55, 56, 57, 97, 98, 99, 100, 101, 102] } : ByteArray)[d]'hd).toNat = (hexDigit d).toNat := by decide
theorem digits_get (n many i : Nat) (h : i < many) : (digits n many)[i]'(by simp [digits]; omega) = hexDigit (n / 16 ^ (many - 1 - i) % 16) := by simp [digits]
theorem digits_len (n many : Nat) : (digits n many).length = many := by simp [digits]
theorem bytes8_len (n : Nat) : (bytes8 n).length = 8 := by simp [bytes8]
theorem bytes8_get (n i : Nat) (h : i < 8) : (bytes8 n)[i]'(by simp [bytes8]; omega) = UInt8.ofNat (n / 256 ^ (7 - i)) := by simp [bytes8]
theorem take_bytes8 (n k : Nat) (h : k < 8) : (bytes8 n).take (k + 1) = (bytes8 n).take k ++ [UInt8.ofNat (n / 256 ^ (7 - k))] := by
  rw [List.take_succ_eq_append_getElem (by rw [bytes8_len]; exact h), bytes8_get n k h]
theorem take_digits (n many k : Nat) (h : k < many) : (digits n many).take (k + 1) = (digits n many).take k ++ [hexDigit (n / 16 ^ (many - 1 - k) % 16)] := by
  rw [List.take_succ_eq_append_getElem (by rw [digits_len]; exact h), digits_get n many k h]
theorem byte_at (x k : Nat) (hk : k < 8) : ((x : Int) / 2 ^ (56 - 8 * k) % 256) = ((UInt8.ofNat (x / 256 ^ (7 - k))).toNat : Int) := by
  have e1 : (256 : Nat) ^ (7 - k) = 2 ^ (56 - 8 * k) := by
    rw [show (256 : Nat) = 2 ^ 8 from rfl, ← Nat.pow_mul, show 8 * (7 - k) = 56 - 8 * k from by omega]
  have e2 : ((x : Int) / 2 ^ (56 - 8 * k)) = ((x / 256 ^ (7 - k) : Nat) : Int) := by
    rw [e1]; push_cast; rfl
  rw [e2, UInt8.toNat_ofNat']
  omega
theorem nib2 (x k : Nat) : ((x : Int) / 2 ^ (4 * k)).tmod 16 = ((x / 16 ^ k % 16 : Nat) : Int) := by
  have e1 : (16 : Nat) ^ k = 2 ^ (4 * k) := by
    rw [show (16 : Nat) = 2 ^ 4 from rfl, ← Nat.pow_mul]
  have e2 : ((x : Int) / 2 ^ (4 * k)) = ((x / 16 ^ k : Nat) : Int) := by
    rw [e1]; push_cast; rfl
  rw [e2]
  generalize x / 16 ^ k = y
  rw [Int.tmod_eq_emod_of_nonneg (by omega)]; omega
theorem app_size (l : List UInt8) (b : ByteArray) : ((⟨l.toArray⟩ : ByteArray) ++ b).size = l.length + b.size := by
  rw [ByteArray.size_append]; rfl
theorem ba_eq {a b : ByteArray} (h : a.data.toList = b.data.toList) : a = b := by
  cases a; cases b; simp at h; rw [h]
theorem size_list (s : ByteArray) : s.size = s.data.toList.length := rfl
theorem hexVal_lt {c d : Nat} (h : hexVal c = some d) : d < 16 := by
  unfold hexVal at h
  split at h
  · simp at h; omega
  · split at h
    · simp at h; omega
    · simp at h
theorem parse_snoc : ∀ (l : List UInt8) (c : UInt8) (n : Nat), parse (l ++ [c]) n = (parse l n).bind fun m => (hexVal c.toNat).map fun d => m * 16 + d
  | [], c, n => by
    simp only [List.nil_append, parse, Option.bind_some]
    cases hexVal c.toNat <;> rfl
  | b :: l, c, n => by
    simp only [List.cons_append, parse]
    cases hexVal b.toNat with
    | none => rfl
    | some d => exact parse_snoc l c _
theorem parse_lt : ∀ (l : List UInt8) (n m : Nat), parse l n = some m → m < (n + 1) * 16 ^ l.length
  | [], n, m, h => by simp [parse] at h; simp; omega
  | c :: l, n, m, h => by
    simp only [parse] at h
    cases hd : hexVal c.toNat with
    | none => rw [hd] at h; simp at h
    | some d =>
      rw [hd] at h
      have := parse_lt l _ m h
      have hl := hexVal_lt hd
      have : (n * 16 + d + 1) * 16 ^ l.length ≤ ((n + 1) * 16) * 16 ^ l.length := Nat.mul_le_mul_right _ (by omega)
      rw [List.length_cons, Nat.pow_succ, Nat.mul_comm (16 ^ l.length) 16, ← Nat.mul_assoc]
      omega
theorem parse_none : ∀ (l l' : List UInt8) (n : Nat), parse l n = none → parse (l ++ l') n = none
  | [], _, _, h => by simp [parse] at h
  | c :: l, l', n, h => by
    simp only [List.cons_append, parse] at h ⊢
    cases hd : hexVal c.toNat with
    | none => rfl
    | some d => rw [hd] at h; exact parse_none l l' _ h
theorem num_ok (l : List UInt8) (n : Nat) (hl : l.length = 16) (h : parse l 0 = some n) : number l = (n, 0) := by
  unfold number; rw [if_neg (by omega), if_neg (by omega), h]
theorem num_bad (l : List UInt8) (k : Nat) (n : Nat) (hl : l.length = 16) (hk : k < l.length) (h : parse (l.take k) 0 = some n) (hx : hexVal l[k].toNat = none) : number l = (0, 5) := by
  have e : parse l 0 = none := by
    have := parse_none (l.take (k + 1)) (l.drop (k + 1)) 0 (by rw [List.take_succ_eq_append_getElem hk, parse_snoc, h, hx]; rfl)
    rwa [List.take_append_drop] at this
  unfold number; rw [if_neg (by omega), if_neg (by omega), e]
theorem hexVal_lt128 {c d : Nat} (h : hexVal c = some d) : c < 128 := by
  rcases Nat.lt_or_ge c 128 with h' | h'
  · exact h'
  · unfold hexVal at h; rw [if_neg (by omega), if_neg (by omega)] at h; simp at h
theorem hexVal_high {c : Nat} (h : 128 ≤ c) : hexVal c = none := by
  unfold hexVal; rw [if_neg (by omega), if_neg (by omega)]
def tblNat (j : Nat) : Nat := if j < 10 then 48 + j else 87 + j
theorem tbl_nat : ∀ j, (h : j < 16) → (({ data := #[48, 49, 50, 51, 52, 53, 54, 55, 56, 57, 97, 98, 99, 100, 101, 102] } : ByteArray)[j]'h).toNat = tblNat j := by decide
theorem hexVal_hit (k : Nat) (h : k < 16) : hexVal (tblNat k) = some k := by
  unfold hexVal tblNat
  by_cases h1 : k < 10
  · rw [if_pos h1, if_pos (by omega)]; congr 1; omega
  · rw [if_neg h1, if_neg (by omega), if_pos (by omega)]; congr 1; omega
theorem hexVal_miss (c : Nat) (h : ∀ j, j < 16 → tblNat j ≠ c) : hexVal c = none := by
  unfold hexVal
  have h1 := h (c - 48)
  have h2 := h (c - 87)
  unfold tblNat at h1 h2
  rw [if_neg, if_neg]
  · intro hc
    have := h2 (by omega)
    rw [if_neg (by omega)] at this; omega
  · intro hc
    have := h1 (by omega)
    rw [if_pos (by omega)] at this; omega
theorem num_short (l : List UInt8) (hl : l.length < 16) : number l = (0, 3) := by unfold number; rw [if_pos hl]
theorem num_long (l : List UInt8) (hl : 16 < l.length) : number l = (0, 4) := by unfold number; rw [if_neg (by omega), if_pos hl]
#print axioms hash_step
end Go.Proofs.Ythkjkhffljlidaa.Sm
