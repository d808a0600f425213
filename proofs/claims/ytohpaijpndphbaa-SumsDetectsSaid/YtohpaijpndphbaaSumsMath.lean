/- The plain laws of checksums, hashes and digits: inverses, exclusive or, detection. -/
import Derived.Test.YtohpaijpndphbaaSumsPlain
namespace Go.Proofs.Ytohpaijpndphbaa.Sm

theorem hexVal_hexDigit (d : Nat) (h : d < 16) : hexVal (hexDigit d).toNat = some d := by
  have : ∀ d, d < 16 → hexVal (hexDigit d).toNat = some d := by decide
  exact this d h
theorem hexDigit_hexVal (c : UInt8) (d : Nat) (h : hexVal c.toNat = some d) : hexDigit d = c := by
  have : ∀ c : Fin 256, ∀ d, hexVal (UInt8.ofFin c).toNat = some d → hexDigit d = UInt8.ofFin c := by
    intro c d hd
    have h16 := hexVal_lt hd
    have h2 : ∀ c : Fin 256, ∀ d : Fin 16, hexVal (UInt8.ofFin c).toNat = some d.val → hexDigit d.val = UInt8.ofFin c := by decide +kernel
    exact h2 c ⟨d, h16⟩ hd
  exact this c.toFin d h

theorem digits_succ (n many : Nat) : digits n (many + 1) = digits (n / 16) many ++ [hexDigit (n % 16)] := by
  apply List.ext_getElem
  · simp [digits]
  · intro i h1 h2
    have hi : i < many + 1 := by simpa [digits] using h1
    simp only [digits, List.getElem_map, List.getElem_range]
    by_cases e : i < many
    · rw [List.getElem_append_left (by simpa using e)]
      simp only [List.getElem_map, List.getElem_range]
      rw [show many + 1 - 1 - i = (many - 1 - i) + 1 from by omega, Nat.pow_succ, Nat.mul_comm, ← Nat.div_div_eq_div_mul]
    · obtain rfl : i = many := by omega
      simp

theorem parse_digits : ∀ (many n : Nat), n < 16 ^ many → parse (digits n many) 0 = some n
  | 0, n, h => by simp at h; subst h; rfl
  | many + 1, n, h => by
    rw [digits_succ, parse_snoc, parse_digits many (n / 16) (by rw [Nat.pow_succ] at h; omega)]
    simp only [Option.bind_some]
    rw [hexVal_hexDigit _ (Nat.mod_lt _ (by omega))]
    simp only [Option.map_some]
    congr 1; omega

theorem parse_split : ∀ (l : List UInt8) (c : UInt8) (m : Nat), parse (l ++ [c]) 0 = some m → ∃ n d, parse l 0 = some n ∧ hexVal c.toNat = some d ∧ m = n * 16 + d := by
  intro l c m h
  rw [parse_snoc] at h
  cases hp : parse l 0 with
  | none => rw [hp] at h; simp at h
  | some n =>
    rw [hp] at h
    cases hd : hexVal c.toNat with
    | none => rw [hd] at h; simp at h
    | some d => rw [hd] at h; simp at h; exact ⟨n, d, rfl, rfl, h.symm⟩

theorem digits_parse : ∀ (k : Nat) (l : List UInt8) (m : Nat), l.length = k → parse l 0 = some m → digits m k = l
  | 0, l, m, hl, _ => by have : l = [] := List.eq_nil_of_length_eq_zero hl; subst this; rfl
  | k + 1, l, m, hl, h => by
    have hne : l ≠ [] := by intro e; subst e; simp at hl
    obtain ⟨l', c, rfl⟩ : ∃ l' c, l = l' ++ [c] := ⟨l.dropLast, l.getLast hne, (List.dropLast_concat_getLast hne).symm⟩
    obtain ⟨n, d, h1, h2, rfl⟩ := parse_split l' c m h
    have hd := hexVal_lt h2
    rw [digits_succ, show (n * 16 + d) / 16 = n from by omega, show (n * 16 + d) % 16 = d from by omega, digits_parse k l' n (by simpa using hl) h1, hexDigit_hexVal c d h2]

theorem digits_inj (k m n : Nat) (hm : m < 16 ^ k) (hn : n < 16 ^ k) (h : digits m k = digits n k) : m = n := by
  have h1 := parse_digits k m hm
  have h2 := parse_digits k n hn
  rw [h, h2] at h1
  simpa using h1.symm

theorem number_hex (n : BitVec 64) : number (digits n.toNat 16) = (n.toNat, 0) :=
  num_ok _ _ (digits_len _ _) (parse_digits 16 _ (by have := n.isLt; exact this))

theorem number_cases (l : List UInt8) : (∃ c : Int, number l = (0, c) ∧ c ≠ 0) ∨ ∃ n : BitVec 64, number l = (n.toNat, 0) ∧ digits n.toNat 16 = l := by
  unfold number
  by_cases h1 : l.length < 16
  · rw [if_pos h1]; exact Or.inl ⟨3, rfl, by decide⟩
  · rw [if_neg h1]
    by_cases h2 : 16 < l.length
    · rw [if_pos h2]; exact Or.inl ⟨4, rfl, by decide⟩
    · rw [if_neg h2]
      cases hp : parse l 0 with
      | none => exact Or.inl ⟨5, rfl, by decide⟩
      | some n =>
        have hl : l.length = 16 := by omega
        have hlt := parse_lt l 0 n hp
        rw [hl] at hlt
        have hn : n < 2 ^ 64 := by have e : (0 + 1) * 16 ^ 16 = 2 ^ 64 := by decide
                                   omega
        refine Or.inr ⟨BitVec.ofNat 64 n, ?_, ?_⟩ <;> rw [BitVec.toNat_ofNat, Nat.mod_eq_of_lt hn]
        exact digits_parse 16 l n hl hp

theorem check_len (l : List UInt8) : (checkOf l).length = 8 := digits_len _ _
theorem seal_len (l : List UInt8) : (sealOf l).length = l.length + 8 := by unfold sealOf; rw [List.length_append, check_len]

theorem open_app (l t : List UInt8) (ht : t.length = 8) : openOf (l ++ t) = if t = checkOf l then (l, 0) else ([], 16) := by
  unfold openOf
  have hl : (l ++ t).length - 8 = l.length := by rw [List.length_append]; omega
  rw [if_neg (by rw [List.length_append]; omega), hl, List.take_left, List.drop_left]

theorem open_seal (l : List UInt8) : openOf (sealOf l) = (l, 0) := by
  unfold sealOf
  rw [open_app l _ (check_len l), if_pos rfl]

theorem open_cases (l : List UInt8) : (∃ c : Int, openOf l = ([], c) ∧ c ≠ 0) ∨ ∃ b, openOf l = (b, 0) ∧ sealOf b = l ∧ b.length ≤ l.length := by
  unfold openOf
  by_cases h1 : l.length < 8
  · rw [if_pos h1]; exact Or.inl ⟨3, rfl, by decide⟩
  · rw [if_neg h1]
    by_cases h2 : l.drop (l.length - 8) = checkOf (l.take (l.length - 8))
    · rw [if_pos h2]
      exact Or.inr ⟨_, rfl, (seal_eq_iff l).2 h2, by rw [List.length_take]; omega⟩
    · rw [if_neg h2]; exact Or.inl ⟨16, rfl, by decide⟩

/-! exclusive or -/

theorem low_xor (x y : BitVec 32) : (x ^^^ y).toNat % 2 = (x.toNat % 2 + y.toNat % 2) % 2 := by
  rw [BitVec.toNat_xor]
  have h := Nat.xor_mod_two_pow (a := x.toNat) (b := y.toNat) (n := 1)
  simp only [Nat.pow_one] at h
  rw [h]
  rcases Nat.mod_two_eq_zero_or_one x.toNat with hx | hx <;> rcases Nat.mod_two_eq_zero_or_one y.toNat with hy | hy <;> rw [hx, hy] <;> rfl

theorem crcBit_xor (x y : BitVec 32) : crcBit (x ^^^ y) = crcBit x ^^^ crcBit y := by
  unfold crcBit
  rw [low_xor, BitVec.ushiftRight_xor_distrib]
  rcases Nat.mod_two_eq_zero_or_one x.toNat with hx | hx <;> rcases Nat.mod_two_eq_zero_or_one y.toNat with hy | hy
  · rw [hx, hy]; rfl
  · rw [hx, hy, if_pos (by decide), if_neg (by decide), if_pos (by decide), BitVec.xor_assoc]
  · rw [hx, hy, if_pos (by decide), if_pos (by decide), if_neg (by decide), BitVec.xor_assoc, BitVec.xor_assoc, BitVec.xor_comm _ (y >>> 1)]
  · rw [hx, hy, if_neg (by decide), if_pos rfl, if_pos rfl]
    rw [BitVec.xor_assoc (x >>> 1), ← BitVec.xor_assoc 0xedb88320#32, BitVec.xor_comm 0xedb88320#32 (y >>> 1), BitVec.xor_assoc (y >>> 1), BitVec.xor_self, BitVec.xor_zero]

theorem crcBits_xor : ∀ (k : Nat) (x y : BitVec 32), crcBits k (x ^^^ y) = crcBits k x ^^^ crcBits k y
  | 0, _, _ => rfl
  | k + 1, x, y => by simp only [crcBits]; rw [crcBits_xor k, crcBit_xor]

theorem ofNat_xor (a b : UInt8) : BitVec.ofNat 32 (a ^^^ b).toNat = BitVec.ofNat 32 a.toNat ^^^ BitVec.ofNat 32 b.toNat := by
  apply BitVec.eq_of_toNat_eq
  rw [byte32, BitVec.toNat_xor, byte32, byte32, UInt8.toNat_xor]

theorem xor3_swap (a b c d : BitVec 32) : (a ^^^ b) ^^^ (c ^^^ d) = (a ^^^ c) ^^^ (b ^^^ d) := by
  rw [BitVec.xor_assoc, ← BitVec.xor_assoc b, BitVec.xor_comm b c, BitVec.xor_assoc c, ← BitVec.xor_assoc a]

theorem crcByte_xor (x y : BitVec 32) (a b : UInt8) : crcByte (x ^^^ y) (a ^^^ b) = crcByte x a ^^^ crcByte y b := by
  unfold crcByte
  rw [ofNat_xor, xor3_swap, crcBits_xor]

theorem fold_xor3 : ∀ (a b c x : List UInt8) (p q r : BitVec 32), a.length = b.length → a.length = c.length → x.length = a.length →
    (∀ i (h : i < x.length), ∀ (ha : i < a.length) (hb : i < b.length) (hc : i < c.length), x[i] = a[i] ^^^ b[i] ^^^ c[i]) →
    x.foldl crcByte (p ^^^ q ^^^ r) = a.foldl crcByte p ^^^ b.foldl crcByte q ^^^ c.foldl crcByte r
  | [], [], [], [], _, _, _, _, _, _, _ => rfl
  | a :: as, b :: bs, c :: cs, x :: xs, p, q, r, h1, h2, h3, h => by
    simp only [List.foldl_cons]
    have h0 := h 0 (by simp) (by simp) (by simp) (by simp)
    simp only [List.getElem_cons_zero] at h0
    rw [h0, crcByte_xor, crcByte_xor]
    refine fold_xor3 as bs cs xs _ _ _ (by simpa using h1) (by simpa using h2) (by simpa using h3) ?_
    intro i hx ha hb hc
    have := h (i + 1) (by simpa using hx) (by simpa using ha) (by simpa using hb) (by simpa using hc)
    simpa using this
  | [], _ :: _, _, _, _, _, _, h1, _, _, _ => by simp at h1
  | _ :: _, [], _, _, _, _, _, h1, _, _, _ => by simp at h1
  | [], _, _ :: _, _, _, _, _, _, h2, _, _ => by simp at h2
  | _ :: _, _, [], _, _, _, _, _, h2, _, _ => by simp at h2
  | [], _, _, _ :: _, _, _, _, _, _, h3, _ => by simp at h3
  | _ :: _, _, _, [], _, _, _, _, _, h3, _ => by simp at h3

theorem crc_xor3 (a b c x : List UInt8) (h1 : a.length = b.length) (h2 : a.length = c.length) (h3 : x.length = a.length)
    (h : ∀ i (h : i < x.length), ∀ (ha : i < a.length) (hb : i < b.length) (hc : i < c.length), x[i] = a[i] ^^^ b[i] ^^^ c[i]) :
    crc x = crc a ^^^ crc b ^^^ crc c := by
  unfold crc crcReg
  have e := fold_xor3 a b c x 0xffffffff#32 0xffffffff#32 0xffffffff#32 h1 h2 h3 h
  rw [show (0xffffffff#32 ^^^ 0xffffffff#32 ^^^ 0xffffffff#32 : BitVec 32) = 0xffffffff#32 from by decide] at e
  rw [e]
  generalize a.foldl crcByte 0xffffffff#32 = p
  generalize b.foldl crcByte 0xffffffff#32 = q
  generalize c.foldl crcByte 0xffffffff#32 = r
  rw [← BitVec.xor_allOnes, ← BitVec.xor_allOnes, ← BitVec.xor_allOnes, ← BitVec.xor_allOnes]
  rw [xor3_swap p, BitVec.xor_self, BitVec.xor_zero, BitVec.xor_assoc]

/-! hash -/
theorem hashByte_inj (n : BitVec 64) (c d : UInt8) (h : hashByte n c = hashByte n d) : c = d := by
  unfold hashByte at h
  have hinv : (0x100000001b3#64 : BitVec 64) * 0xce965057aff6957b#64 = 1#64 := by decide
  have h2 := congrArg (· * (0xce965057aff6957b#64 : BitVec 64)) h
  simp only [BitVec.mul_assoc, hinv, BitVec.mul_one] at h2
  have h3 := congrArg (n ^^^ ·) h2
  simp only [← BitVec.xor_assoc, BitVec.xor_self, BitVec.zero_xor] at h3
  have h4 := congrArg BitVec.toNat h3
  rw [byte64, byte64] at h4
  exact UInt8.toNat_inj.1 h4

/-! detection -/
theorem crcBit_zero (x : BitVec 32) (h : crcBit x = 0#32) : x = 0#32 := by
  unfold crcBit at h
  have hlt := x.isLt
  split at h
  · rename_i h1
    have e : x >>> 1 = 0xedb88320#32 := by
      have := congrArg (· ^^^ 0xedb88320#32) h
      simp only [BitVec.xor_assoc, BitVec.xor_self, BitVec.xor_zero, BitVec.zero_xor] at this
      exact this
    have := congrArg BitVec.toNat e
    rw [BitVec.toNat_ushiftRight, Nat.shiftRight_succ, Nat.shiftRight_zero] at this
    have h2 : (0xedb88320#32 : BitVec 32).toNat = 3988292384 := rfl
    omega
  · rename_i h1
    have := congrArg BitVec.toNat h
    rw [BitVec.toNat_ushiftRight, Nat.shiftRight_succ, Nat.shiftRight_zero] at this
    have h2 : (0#32 : BitVec 32).toNat = 0 := rfl
    apply BitVec.eq_of_toNat_eq
    omega

theorem crcBits_zero : ∀ (k : Nat) (x : BitVec 32), crcBits k x = 0#32 → x = 0#32
  | 0, _, h => h
  | k + 1, x, h => crcBits_zero k x (crcBit_zero _ h)

theorem crcBits_add (j : Nat) : ∀ (k : Nat) (x : BitVec 32), crcBits k (crcBits j x) = crcBits (j + k) x
  | 0, _ => rfl
  | k + 1, x => by
    show crcBit (crcBits k (crcBits j x)) = crcBit (crcBits (j + k) x)
    rw [crcBits_add j k x]

theorem crcBits_shift : ∀ (k : Nat) (y : Nat), k ≤ 32 → y < 2 ^ (32 - k) → crcBits k (BitVec.ofNat 32 (y * 2 ^ k)) = BitVec.ofNat 32 y
  | 0, y, _, _ => by simp [crcBits]
  | k + 1, y, hk, hy => by
    have e : y * 2 ^ (k + 1) = (y * 2) * 2 ^ k := by rw [Nat.pow_succ, Nat.mul_assoc, Nat.mul_comm 2]
    have h1 : 2 ^ (32 - k) = 2 * 2 ^ (32 - (k + 1)) := by rw [show 32 - k = (32 - (k + 1)) + 1 from by omega, Nat.pow_succ, Nat.mul_comm]
    show crcBit (crcBits k _) = _
    rw [e, crcBits_shift k (y * 2) (by omega) (by omega)]
    have h2 : 2 ^ (32 - (k + 1)) ≤ 2 ^ 31 := Nat.pow_le_pow_right (by omega) (by omega)
    have hy2 : y * 2 < 2 ^ 32 := by omega
    unfold crcBit
    rw [BitVec.toNat_ofNat, Nat.mod_eq_of_lt hy2, if_neg (by omega)]
    apply BitVec.eq_of_toNat_eq
    rw [BitVec.toNat_ushiftRight, BitVec.toNat_ofNat, BitVec.toNat_ofNat, Nat.mod_eq_of_lt hy2, Nat.mod_eq_of_lt (by omega), Nat.shiftRight_succ, Nat.shiftRight_zero]
    omega

def comb : List UInt8 → Nat
  | [] => 0
  | d :: ds => d.toNat + comb ds * 256

theorem comb_lt : ∀ ds : List UInt8, comb ds < 2 ^ (8 * ds.length)
  | [] => by simp [comb]
  | d :: ds => by
    have := comb_lt ds
    have := d.toNat_lt
    simp only [comb, List.length_cons]
    rw [show 8 * (ds.length + 1) = 8 * ds.length + 8 from by omega, Nat.pow_add]
    have : (comb ds + 1) * 256 ≤ 2 ^ (8 * ds.length) * 2 ^ 8 := Nat.mul_le_mul_right _ (by omega)
    omega

theorem comb_zero : ∀ ds : List UInt8, comb ds = 0 → ∀ d ∈ ds, d = 0
  | [], _, d, hd => by simp at hd
  | e :: ds, h, d, hd => by
    simp only [comb] at h
    rcases List.mem_cons.1 hd with rfl | hd
    · exact UInt8.toNat_inj.1 (by show d.toNat = 0; omega)
    · exact comb_zero ds (by omega) d hd

theorem add_as_xor (d c : Nat) (hd : d < 256) : BitVec.ofNat 32 (d + c * 256) = BitVec.ofNat 32 d ^^^ BitVec.ofNat 32 (c * 256) := by
  have e : d + c * 256 = d ^^^ (c * 256) := by
    have := Nat.two_pow_add_eq_or_of_lt (i := 8) (b := d) hd c
    rw [Nat.mul_comm c 256, Nat.add_comm, show (256 : Nat) = 2 ^ 8 from rfl, this]
    apply Nat.eq_of_testBit_eq
    intro j
    rw [Nat.testBit_or, Nat.testBit_xor, Nat.testBit_two_pow_mul]
    by_cases hj : 8 ≤ j
    · have : d.testBit j = false := Nat.testBit_lt_two_pow (Nat.lt_of_lt_of_le hd (Nat.pow_le_pow_right (by omega) hj : 2 ^ 8 ≤ 2 ^ j))
      simp [hj, this]
    · simp [hj]
  rw [e]
  apply BitVec.eq_of_toNat_eq
  rw [BitVec.toNat_xor, BitVec.toNat_ofNat, BitVec.toNat_ofNat, BitVec.toNat_ofNat, Nat.xor_mod_two_pow]

theorem fold_delta : ∀ (ds : List UInt8) (x : BitVec 32), ds.length ≤ 4 → ds.foldl (fun r d => crcBits 8 (r ^^^ BitVec.ofNat 32 d.toNat)) x = crcBits (8 * ds.length) (x ^^^ BitVec.ofNat 32 (comb ds))
  | [], x, _ => by simp [comb, crcBits]
  | d :: ds, x, h => by
    simp only [List.foldl_cons]
    have hl : ds.length ≤ 3 := by simpa using h
    rw [fold_delta ds _ (by omega)]
    have hc : comb ds < 2 ^ (32 - 8) := Nat.lt_of_lt_of_le (comb_lt ds) (Nat.pow_le_pow_right (by omega) (by omega))
    have e1 := crcBits_shift 8 (comb ds) (by omega) hc
    rw [← e1, ← crcBits_xor, crcBits_add]
    simp only [comb, List.length_cons]
    rw [add_as_xor d.toNat (comb ds) d.toNat_lt, BitVec.xor_assoc, show 8 + 8 * ds.length = 8 * (ds.length + 1) from by omega]

theorem fold_diff : ∀ (a ds : List UInt8) (x y : BitVec 32), a.length = ds.length →
    (List.zipWith (· ^^^ ·) a ds).foldl crcByte (x ^^^ y) = a.foldl crcByte x ^^^ ds.foldl (fun r d => crcBits 8 (r ^^^ BitVec.ofNat 32 d.toNat)) y
  | [], [], _, _, _ => rfl
  | a :: as, d :: ds, x, y, h => by
    simp only [List.zipWith_cons_cons, List.foldl_cons]
    rw [crcByte_xor]
    exact fold_diff as ds _ _ (by simpa using h)
  | [], _ :: _, _, _, h => by simp at h
  | _ :: _, [], _, _, h => by simp at h

theorem fold_same : ∀ (l : List UInt8) (x y : BitVec 32), l.foldl crcByte (x ^^^ y) = l.foldl crcByte x ^^^ crcBits (8 * l.length) y
  | [], _, _ => rfl
  | c :: l, x, y => by
    simp only [List.foldl_cons]
    have e : crcByte (x ^^^ y) c = crcByte x c ^^^ crcBits 8 y := by
      unfold crcByte
      rw [BitVec.xor_assoc, BitVec.xor_comm y, ← BitVec.xor_assoc, crcBits_xor]
    rw [e, fold_same l, crcBits_add, List.length_cons, show 8 + 8 * l.length = 8 * (l.length + 1) from by omega]

/-- up to four consecutive bytes are changed: the checksum is the same only if nothing was changed -/
theorem crc_burst (p a q ds : List UInt8) (h : a.length = ds.length) (h4 : ds.length ≤ 4) (e : crc (p ++ List.zipWith (· ^^^ ·) a ds ++ q) = crc (p ++ a ++ q)) : ∀ d ∈ ds, d = 0 := by
  unfold crc crcReg at e
  have e' := congrArg (~~~ ·) e
  simp only [BitVec.not_not, List.foldl_append] at e'
  generalize List.foldl crcByte 0xffffffff#32 p = r at e'
  have e2 := fold_diff a ds r 0#32 h
  rw [BitVec.xor_zero, fold_delta ds _ h4, BitVec.zero_xor] at e2
  rw [e2, fold_same] at e'
  have e3 := congrArg (List.foldl crcByte (List.foldl crcByte r a) q ^^^ ·) e'
  simp only [← BitVec.xor_assoc, BitVec.xor_self, BitVec.zero_xor] at e3
  have e4 := crcBits_zero _ _ (crcBits_zero _ _ e3)
  have e5 := congrArg BitVec.toNat e4
  rw [BitVec.toNat_ofNat, Nat.mod_eq_of_lt (Nat.lt_of_lt_of_le (comb_lt ds) (Nat.pow_le_pow_right (by omega) (by omega)))] at e5
  exact comb_zero ds e5

#print axioms crc_burst
#print axioms crc_xor3
#print axioms hashByte_inj
end Go.Proofs.Ytohpaijpndphbaa.Sm
