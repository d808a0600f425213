/- JT JS2 JL1 JH JI JE JF: texts laid together. -/
import Derived.Test.YthkjkhffljlidaaMrgX5
import Derived.Test.YthkjkhffljlidaaMrgX2
set_option maxRecDepth 100000
set_option maxHeartbeats 64000000
/- The journal, plain: what is written is found again. -/
namespace Go.Proofs.Ythkjkhffljlidaa.Jo
set_option linter.unusedVariables false
set_option linter.unusedSimpArgs false
open Go.RowKit Go.Proofs.Ythkjkhffljlidaa.Ev Go.Proofs.Ythkjkhffljlidaa.Dk
theorem numS_hex {n : Nat} (h : n < 2 ^ 64) : numS (hexS n) = (n, 0) := by
  have e : (BitVec.ofNat 64 n).toNat = n := by simp [Nat.mod_eq_of_lt h]
  have := Sm.number_hex (BitVec.ofNat 64 n)
  rw [e] at this
  exact this
theorem byt_drop {s : ByteArray} {k : Nat} {c : UInt8} {tl : List UInt8} (h : s.data.toList.drop k = c :: tl) : byt s k = c.toNat ∧ k < s.size ∧ s.data.toList.drop (k + 1) = tl := by
  have hk : k < s.data.toList.length := by
    rcases Nat.lt_or_ge k s.data.toList.length with h1 | h1
    · exact h1
    · rw [List.drop_eq_nil_of_le h1] at h; cases h
  have hk' := hk
  rw [ba_size] at hk'
  rw [List.drop_eq_getElem_cons hk, List.cons.injEq] at h
  exact ⟨by rw [byt_get hk, h.1], hk', h.2⟩
theorem ofNat_nat {m : Nat} (h : m < 256) : (UInt8.ofNat m).toNat = m := by simp; omega
theorem vgo_uvar (s : ByteArray) (at0 : Nat) : ∀ (k i m n : Nat) (tl : List UInt8), 8 - i = k → i ≤ 8 → m < 128 ^ (9 - i) → (0 < i → 0 < m) → s.data.toList.drop (at0 + i) = uvarL m ++ tl → vgo s at0 n i = (n + m * 128 ^ i, at0 + i + (uvarL m).length, 0) := by
  intro k
  induction k with
  | zero =>
    intro i m n tl hk hi hm hp hd
    have hm1 : m < 128 := by
      obtain rfl : i = 8 := by omega
      simpa using hm
    rw [uvar_lo hm1] at hd
    obtain ⟨h1, h2, _⟩ := byt_drop hd
    rw [ofNat_nat (by omega)] at h1
    rw [vgo_end (by omega) (by omega) (by omega) (by omega) (by omega), h1, uvar_lo hm1, Nat.mod_eq_of_lt hm1]
    rfl
  | succ k ih =>
    intro i m n tl hk hi hm hp hd
    by_cases hm1 : m < 128
    · rw [uvar_lo hm1] at hd
      obtain ⟨h1, h2, _⟩ := byt_drop hd
      rw [ofNat_nat (by omega)] at h1
      rw [vgo_end (by omega) (by omega) (by omega) (by omega) (by omega), h1, uvar_lo hm1, Nat.mod_eq_of_lt hm1]
      rfl
    · have e := uvar_hi hm1
      rw [e, List.cons_append] at hd
      obtain ⟨h1, h2, h3⟩ := byt_drop hd
      rw [ofNat_nat (by omega)] at h1
      rw [vgo_next (by omega) (by omega) (by omega) (by omega), h1]
      have h4 : m / 128 < 128 ^ (9 - (i + 1)) := by
        rw [show 9 - i = (9 - (i + 1)) + 1 by omega, Nat.pow_succ] at hm
        exact Nat.div_lt_of_lt_mul (by omega)
      rw [ih (i + 1) (m / 128) _ tl (by omega) (by omega) h4 (fun _ => by omega) (by rw [← h3]; rfl), e, List.length_cons]
      have e1 : (128 + m % 128) % 128 = m % 128 := by omega
      have e2 : 128 ^ (i + 1) = 128 * 128 ^ i := by rw [Nat.pow_succ, Nat.mul_comm]
      rw [e1, e2, ← Nat.mul_assoc, Nat.add_assoc, ← Nat.add_mul, show m % 128 + m / 128 * 128 = m by omega]
      congr 2
      omega
theorem vnum_uvar {s : ByteArray} {a m : Nat} {tl : List UInt8} (hm : m ≤ 16384) (hd : s.data.toList.drop a = uvarL m ++ tl) : vnum s a = (m, a + (uvarL m).length, 0) := by
  have := vgo_uvar s a 8 0 m 0 tl rfl (by omega) (by have : (16384 : Nat) < 128 ^ 9 := by decide
                                                     exact Nat.lt_of_le_of_lt hm this) (fun h => absurd h (by omega)) hd
  unfold vnum
  rw [this]; simp
theorem uvarL_pos (n : Nat) : 0 < (uvarL n).length := by
  by_cases h : n < 128
  · rw [uvar_lo h]; simp
  · rw [uvar_hi h]; simp
theorem rtext_back {s x : ByteArray} {a : Nat} {tl : List UInt8} (hx : x.size ≤ 16384) (hd : s.data.toList.drop a = (textS x).data.toList ++ tl) : rtext s a = (x, a + (textS x).size, 0) := by
  have e : (textS x).data.toList = uvarL x.size ++ x.data.toList := by unfold textS; rw [ba_app]; rfl
  have es : (textS x).size = (uvarL x.size).length + x.size := by rw [← ba_size, e, List.length_append, ba_size]
  rw [e, List.append_assoc] at hd
  have hv := vnum_uvar hx hd
  have hl := congrArg List.length hd
  rw [List.length_drop, List.length_append, List.length_append, ba_size, ba_size] at hl
  have hp := uvarL_pos x.size
  have hd2 : s.data.toList.drop (a + (uvarL x.size).length) = x.data.toList ++ tl := by
    rw [← List.drop_drop, hd, List.drop_left]
  unfold rtext
  rw [hv]
  dsimp only
  rw [if_neg (by decide), if_neg (by omega), if_neg (by omega), es]
  have hex : s.extract (a + (uvarL x.size).length) (a + (uvarL x.size).length + x.size) = x := by
    apply ba_eq
    rw [ba_ext, List.drop_take, hd2, show a + (uvarL x.size).length + x.size - (a + (uvarL x.size).length) = x.data.toList.length by rw [ba_size]; omega, List.take_left]
  rw [hex, Nat.add_assoc]
theorem grp_back (s : ByteArray) : ∀ (g : List ByteArray) (a : Nat) (acc : List ByteArray), (∀ x ∈ g, x.size ≤ 16384) → acc.length + g.length ≤ 32 → s.data.toList.drop a = streamL g → grpGo s a acc = if acc ++ g = [] then none else some (acc ++ g)
  | [], a, acc, hx, hl, hd => by
    have : s.size ≤ a := by
      have := congrArg List.length hd
      rw [List.length_drop, ba_size] at this
      have e : (streamL []).length = 0 := rfl
      omega
    rw [grp_end (by omega), List.append_nil]
  | x :: g, a, acc, hx, hl, hd => by
    have e : streamL (x :: g) = (textS x).data.toList ++ streamL g := rfl
    rw [e] at hd
    have hx0 := hx x (List.mem_cons_self ..)
    have hr := rtext_back hx0 hd
    have hsz : 0 < (textS x).size := by
      unfold textS; rw [ByteArray.size_append]
      have := uvarL_pos x.size
      have : (uvarS x.size).size = (uvarL x.size).length := by show (uvarL x.size).toArray.size = _; simp
      omega
    have ha : a < s.size := by
      have := congrArg List.length hd
      rw [List.length_drop, List.length_append, ba_size, ba_size] at this
      omega
    rw [List.length_cons] at hl
    rw [grp_next ha (by rw [hr]) (by omega), hr]
    dsimp only
    rw [grp_back s g _ (acc ++ [x]) (fun y hy => hx y (List.mem_cons_of_mem _ hy)) (by simp; omega) (by rw [← List.drop_drop, hd, ← ba_size, List.drop_left]), List.append_assoc]
    rfl
theorem grp_stream {g : List ByteArray} (h : chkS g = 0) : grp (streamB g) = some g := by
  obtain ⟨h0, h1, h2⟩ := chk_z h
  unfold grp
  rw [grp_back (streamB g) g 0 [] (fun x hx => by
    obtain ⟨i, hi, rfl⟩ := List.mem_iff_getElem.1 hx
    exact h2 i hi) (by simpa using h1) rfl, List.nil_append, if_neg h0]
theorem stream_pos {g : List ByteArray} (h : g ≠ []) : 0 < (streamB g).size := by
  cases g with
  | nil => exact absurd rfl h
  | cons x g =>
    rw [← ba_size]
    show 0 < (streamL (x :: g)).length
    have e : streamL (x :: g) = (textS x).data.toList ++ streamL g := rfl
    rw [e, List.length_append, ba_size]
    unfold textS
    rw [ByteArray.size_append]
    have := uvarL_pos x.size
    have : (uvarS x.size).size = (uvarL x.size).length := by show (uvarL x.size).toArray.size = _; simp
    omega
theorem cut_blk (c : Nat) (r : ByteArray) : (hexS c ++ r).extract 0 16 = hexS c ∧ (hexS c ++ r).extract 16 (hexS c ++ r).size = r := by
  have hz := hexS_size c
  constructor
  · apply ba_eq
    rw [ba_ext, ba_app, List.drop_zero, List.take_append_of_le_length (by rw [ba_size]; omega), List.take_of_length_le (by rw [ba_size]; omega)]
  · apply ba_eq
    rw [ba_ext, List.take_of_length_le (by rw [ba_size]; omega), ba_app, List.drop_append_of_le_length (by rw [ba_size]; omega), List.drop_eq_nil_of_le (by rw [ba_size]; omega), List.nil_append]
theorem rest_data (m : UInt8) (n : Nat) (p : ByteArray) : (restN m n p).data.toList = m :: UInt8.ofNat (48 + n / 10) :: UInt8.ofNat (48 + n % 10) :: p.data.toList := by
  unfold restN; rw [ba_app]; rfl
theorem cont_blk {h c : Nat} {p : ByteArray} {last : Bool} (hp : 1 ≤ p.size ∧ p.size ≤ 45) (hc : c < 2 ^ 64) :
    contS h (hexS c ++ restN (markB last) p.size p) = (if c = chainS h (restN (markB last) p.size p) then some (c, last) else none) ∧ (hexS c ++ restN (markB last) p.size p).extract 19 (hexS c ++ restN (markB last) p.size p).size = p := by
  have hrs := restN_size (markB last) p.size p
  have hrd := rest_data (markB last) p.size p
  obtain ⟨k1, k2⟩ := cut_blk c (restN (markB last) p.size p)
  have hz := hexS_size c
  have hsz : (hexS c ++ restN (markB last) p.size p).size = 19 + p.size := by rw [ByteArray.size_append, hz, hrs]; omega
  generalize hr : restN (markB last) p.size p = r at k1 k2 hrs hrd hsz ⊢
  have f : ∀ j, byt (hexS c ++ r) (16 + j) = (r.data.toList.getD j 0).toNat := fun j => by
    unfold byt
    rw [ba_app, List.getD_eq_getElem?_getD, List.getElem?_append_right (by rw [ba_size]; omega), ba_size, hz, List.getD_eq_getElem?_getD, Nat.add_sub_cancel_left]
  have f0 := f 0
  have f1 := f 1
  have f2 := f 2
  rw [hrd] at f0 f1 f2
  have f0 : byt (hexS c ++ r) 16 = (markB last).toNat := f0
  have f1 : byt (hexS c ++ r) 17 = (UInt8.ofNat (48 + p.size / 10)).toNat := f1
  have f2 : byt (hexS c ++ r) 18 = (UInt8.ofNat (48 + p.size % 10)).toNat := f2
  rw [ofNat_nat (by omega)] at f1 f2
  constructor
  · unfold contS
    have hiff : Cont h (hexS c ++ r) ↔ c = chainS h r := by
      unfold Cont
      rw [k1, k2, numS_hex hc, f0, f1, f2, hsz]
      constructor
      · intro h; exact h.2.2.2.2.2.2
      · intro h
        refine ⟨by omega, by omega, rfl, ?_, by rw [Nat.add_sub_cancel_left], by rw [Nat.add_sub_cancel_left], h⟩
        cases last
        · exact .inr rfl
        · exact .inl rfl
    by_cases hcc : c = chainS h r
    · rw [if_pos hcc, if_pos (hiff.2 hcc), k1, numS_hex hc, f0]
      cases last <;> rfl
    · rw [if_neg hcc, if_neg (fun e => hcc (hiff.1 e))]
  · apply ba_eq
    have e : (hexS c ++ r).data.toList = (hexS c).data.toList ++ r.data.toList := ba_app _ _
    rw [ba_ext, List.take_of_length_le (by rw [ba_size]; omega), e, hrd, show (19 : Nat) = (hexS c).data.toList.length + 3 by rw [ba_size, hz], ← List.drop_drop, List.drop_left]
    rfl
theorem find_div : ∀ (k : Nat) (s : ByteArray) (st : List UInt8) (i prev : Nat) (J : JS) (rest : List ByteArray), s.size ≤ k → 0 < s.size → findG prev st i ((divB prev s).1 ++ rest) J = match grp ⟨(st ++ s.data.toList).toArray⟩ with
    | none => J
    | some l => findG (divB prev s).2 [] (i + (divB prev s).1.length) rest (J.add l (i + (divB prev s).1.length) (divB prev s).2)
  | 0, s, st, i, prev, J, rest, hk, h0 => by omega
  | k + 1, s, st, i, prev, J, rest, hk, h0 => by
    have hps : (s.extract 0 (min s.size 45)).size = min s.size 45 := by rw [ByteArray.size_extract]; omega
    have hls : (s.extract (min s.size 45) s.size).size = s.size - min s.size 45 := by rw [ByteArray.size_extract]; omega
    obtain ⟨c, hc⟩ : ∃ c, c = chainS prev (restN (markB (decide (s.size ≤ 45))) (min s.size 45) (s.extract 0 (min s.size 45))) := ⟨_, rfl⟩
    have hcl : c < 2 ^ 64 := by rw [hc]; exact chainS_lt _ _
    have hcb := cont_blk (h := prev) (last := decide (s.size ≤ 45)) (p := s.extract 0 (min s.size 45)) (by rw [hps]; omega) hcl
    rw [hps, if_pos hc] at hcb
    obtain ⟨hcb1, hcb2⟩ := hcb
    rw [divB_cons (by omega) rfl rfl hc]
    by_cases h45 : s.size ≤ 45
    · rw [decide_eq_true h45] at hcb1 hcb2 ⊢
      rw [divB_nil (by omega)]
      have hm : min s.size 45 = s.size := by omega
      rw [hm] at hcb1 hcb2 ⊢
      have e : s.extract 0 s.size = s := ba_eq (by rw [ba_ext, List.drop_zero, List.take_of_length_le (by rw [ba_size]; omega)])
      rw [e] at hcb1 hcb2 ⊢
      simp only [List.cons_append, List.nil_append, List.length_cons, List.length_nil]
      cases hg : grp ⟨(st ++ s.data.toList).toArray⟩ with
      | none => rw [findG_bad hcb1 (by rw [hcb2]; exact hg)]
      | some l => rw [findG_last hcb1 (by rw [hcb2]; exact hg)]
    · rw [decide_eq_false h45] at hcb1 hcb2 ⊢
      rw [List.cons_append, findG_more hcb1, hcb2, find_div k _ _ _ _ _ _ (by omega) (by omega)]
      have e : st ++ (s.extract 0 (min s.size 45)).data.toList ++ (s.extract (min s.size 45) s.size).data.toList = st ++ s.data.toList := by
        rw [List.append_assoc, ba_ext, ba_ext, List.drop_zero, List.take_of_length_le (i := s.size) (by rw [ba_size]; omega), List.take_append_drop]
      rw [e, List.length_cons, show i + 1 + (divB c (s.extract (min s.size 45) s.size)).1.length = i + ((divB c (s.extract (min s.size 45) s.size)).1.length + 1) by omega]
theorem find_mix : ∀ (k : Nat) (s : ByteArray) (st : List UInt8) (i prev : Nat) (J : JS) (l rest : List ByteArray), s.size ≤ k → l.length = (divB prev s).1.length → (∀ j (hj : j < l.length) (hj' : j < (divB prev s).1.length), l[j] = (divB prev s).1[j] ∨ l[j].size ≤ 19) → l = (divB prev s).1 ∨ findG prev st i (l ++ rest) J = J
  | 0, s, st, i, prev, J, l, rest, hk, hl, hm => by
    rw [divB_nil (by omega)] at hl ⊢
    exact .inl (List.length_eq_zero_iff.1 hl)
  | k + 1, s, st, i, prev, J, l, rest, hk, hl, hm => by
    by_cases h0 : s.size = 0
    · rw [divB_nil h0] at hl ⊢
      exact .inl (List.length_eq_zero_iff.1 hl)
    have hps : (s.extract 0 (min s.size 45)).size = min s.size 45 := by rw [ByteArray.size_extract]; omega
    have hls : (s.extract (min s.size 45) s.size).size = s.size - min s.size 45 := by rw [ByteArray.size_extract]; omega
    obtain ⟨c, hc⟩ : ∃ c, c = chainS prev (restN (markB (decide (s.size ≤ 45))) (min s.size 45) (s.extract 0 (min s.size 45))) := ⟨_, rfl⟩
    have hcl : c < 2 ^ 64 := by rw [hc]; exact chainS_lt _ _
    have hcb := cont_blk (h := prev) (last := decide (s.size ≤ 45)) (p := s.extract 0 (min s.size 45)) (by rw [hps]; omega) hcl
    rw [hps, if_pos hc] at hcb
    obtain ⟨hcb1, hcb2⟩ := hcb
    have hstep := divB_cons (prev := prev) (s := s) (by omega) rfl rfl hc
    rw [hstep] at hl hm ⊢
    cases l with
    | nil => cases hl
    | cons x l =>
      have hx := hm 0 (by simp) (by simp)
      have hx : x = (hexS c ++ restN (markB (decide (s.size ≤ 45))) (min s.size 45) (s.extract 0 (min s.size 45))) ∨ x.size ≤ 19 := hx
      rcases hx with hx | hx
      rotate_left
      · exact .inr (by rw [List.cons_append]; exact findG_none (cont_short hx))
      have hl : l.length = (divB c (s.extract (min s.size 45) s.size)).1.length := by simpa using hl
      by_cases h45 : s.size ≤ 45
      · rw [divB_nil (by omega)] at hl ⊢
        have : l = [] := List.length_eq_zero_iff.1 hl
        rw [this, hx]; exact .inl rfl
      · rw [decide_eq_false h45] at hcb1 hcb2 hx ⊢
        rcases find_mix k (s.extract (min s.size 45) s.size) (st ++ (s.extract 0 (min s.size 45)).data.toList) (i + 1) c J l rest (by omega) hl (fun j hj hj' => by
          have := hm (j + 1) (by simp; omega) (by simp; omega)
          simpa using this) with h | h
        · rw [h, hx]; exact .inl rfl
        · refine .inr ?_
          rw [hx, List.cons_append, findG_more hcb1, hcb2]
          exact h
def flatB (h : Nat) : List (List ByteArray) → List ByteArray × Nat
  | [] => ([], h)
  | g :: gs => ((divS h g).1 ++ (flatB (divS h g).2.1 gs).1, (flatB (divS h g).2.1 gs).2)
theorem flatB_snoc : ∀ (gs : List (List ByteArray)) (h : Nat) (g : List ByteArray), flatB h (gs ++ [g]) = ((flatB h gs).1 ++ (divS (flatB h gs).2 g).1, (divS (flatB h gs).2 g).2.1)
  | [], h, g => by simp [flatB]
  | x :: gs, h, g => by
    rw [List.cons_append, flatB, flatB_snoc gs, flatB, List.append_assoc]
theorem divS_ok {h : Nat} {g : List ByteArray} (hc : chkS g = 0) : divS h g = ((divB h (streamB g)).1, (divB h (streamB g)).2, 0) := by
  unfold divS; rw [hc, if_neg (by decide)]
theorem divS_e {h : Nat} {g : List ByteArray} : (divS h g).2.2 = chkS g := by
  unfold divS
  split
  · rfl
  · rename_i hc; exact (Decidable.not_not.1 hc).symm
theorem find_group {g : List ByteArray} (hc : chkS g = 0) (i prev : Nat) (J : JS) (rest : List ByteArray) : findG prev [] i ((divS prev g).1 ++ rest) J = findG (divS prev g).2.1 [] (i + (divS prev g).1.length) rest (J.add g (i + (divS prev g).1.length) (divS prev g).2.1) := by
  rw [divS_ok hc]
  dsimp only
  rw [find_div (streamB g).size (streamB g) [] i prev J rest (Nat.le_refl _) (stream_pos (chk_z hc).1)]
  have e : (⟨([] ++ (streamB g).data.toList).toArray⟩ : ByteArray) = streamB g := ba_eq (by simp)
  rw [e, grp_stream hc]
theorem find_flat : ∀ (gs : List (List ByteArray)) (J : JS) (rest : List ByteArray), (∀ g ∈ gs, chkS g = 0) → findG J.head [] J.used ((flatB J.head gs).1 ++ rest) J = findG (flatB J.head gs).2 [] (J.used + (flatB J.head gs).1.length) rest ⟨J.gr ++ gs, J.used + (flatB J.head gs).1.length, (flatB J.head gs).2, J.stop⟩
  | [], J, rest, hc => by simp [flatB]
  | g :: gs, J, rest, hc => by
    rw [flatB, List.append_assoc, find_group (hc g (List.mem_cons_self ..))]
    have := find_flat gs (J.add g (J.used + (divS J.head g).1.length) (divS J.head g).2.1) rest (fun x hx => hc x (List.mem_cons_of_mem _ hx))
    dsimp only [JS.add] at this ⊢
    rw [this]
    simp only [List.length_append, List.append_assoc, Nat.add_assoc, List.cons_append, List.nil_append]
structure Lies (t : JS) (L : List ByteArray) : Prop where
  ok : ∀ g ∈ t.gr, chkS g = 0
  eq : L = (flatB 0 t.gr).1 ++ L.drop t.used
  len : (flatB 0 t.gr).1.length = t.used
  head : (flatB 0 t.gr).2 = t.head
theorem Lies.le {t : JS} {L : List ByteArray} (h : Lies t L) : t.used ≤ L.length := by
  have := congrArg List.length h.eq
  rw [List.length_append, h.len, List.length_drop] at this
  omega
theorem Lies.nil (L : List ByteArray) : Lies J0 L := ⟨(fun g h => by
  have h : g ∈ ([] : List (List ByteArray)) := h
  cases h), rfl, rfl, rfl⟩
theorem Lies.find {t : JS} {L : List ByteArray} (h : Lies t L) : findG 0 [] 0 L J0 = findG t.head [] t.used (L.drop t.used) { t with stop := false } := by
  have := find_flat t.gr J0 (L.drop t.used) h.ok
  have e : findG 0 [] 0 L J0 = findG J0.head [] J0.used ((flatB J0.head t.gr).1 ++ L.drop t.used) J0 := by
    conv => lhs; rw [h.eq]
  rw [e, this]
  show findG (flatB 0 t.gr).2 [] (0 + (flatB 0 t.gr).1.length) _ ⟨[] ++ t.gr, 0 + (flatB 0 t.gr).1.length, (flatB 0 t.gr).2, false⟩ = _
  rw [h.len, h.head, Nat.zero_add, List.nil_append]
theorem Lies.stop {t : JS} {L : List ByteArray} (h : Lies t L) (b : Bool) : Lies { t with stop := b } L := ⟨h.ok, h.eq, h.len, h.head⟩
theorem Lies.of {t : JS} {L L' : List ByteArray} (h : Lies t L) (he : L'.take t.used = L.take t.used) : Lies t L' := by
  refine ⟨h.ok, ?_, h.len, h.head⟩
  have : (flatB 0 t.gr).1 = L.take t.used := by
    conv => rhs; rw [h.eq]
    rw [List.take_append_of_le_length (by rw [h.len]; exact Nat.le_refl _), ← h.len, List.take_length]
  rw [this, ← he, List.take_append_drop]
theorem putAt_eq : ∀ (bl l : List ByteArray) (n : Nat), n + bl.length ≤ l.length → putAt l n bl = l.take n ++ bl ++ l.drop (n + bl.length)
  | [], l, n, h => by simp [putAt]
  | b :: bl, l, n, h => by
    rw [List.length_cons] at h
    rw [putAt, putAt_eq bl (l.set n b) (n + 1) (by rw [List.length_set]; omega), List.length_cons, List.drop_set_of_lt (by omega)]
    have e : (l.set n b).take (n + 1) = l.take n ++ [b] := by
      rw [List.take_succ_eq_append_getElem (by rw [List.length_set]; omega), List.take_set_of_le (Nat.le_refl _), List.getElem_set_self]
    rw [e, show n + 1 + bl.length = n + (bl.length + 1) by omega]
    simp
theorem Lies.add {t : JS} {L : List ByteArray} {g : List ByteArray} (h : Lies t L) (hc : chkS g = 0) (hl : t.used + (divS t.head g).1.length ≤ L.length) :
    Lies (t.add g (t.used + (divS t.head g).1.length) (divS t.head g).2.1) (putAt L t.used (divS t.head g).1) := by
  have hs := flatB_snoc t.gr 0 g
  rw [h.head] at hs
  have hp := putAt_eq (divS t.head g).1 L t.used hl
  have ht : L.take t.used = (flatB 0 t.gr).1 := by
    conv => lhs; rw [h.eq]
    rw [List.take_append_of_le_length (by rw [h.len]; exact Nat.le_refl _), ← h.len, List.take_length]
  refine ⟨fun x hx => ?_, ?_, ?_, ?_⟩
  · have hx : x ∈ t.gr ++ [g] := hx
    rcases List.mem_append.1 hx with hx | hx
    · exact h.ok x hx
    · rw [List.mem_singleton.1 hx]; exact hc
  · show _ = (flatB 0 (t.gr ++ [g])).1 ++ _
    rw [hs]
    show _ = ((flatB 0 t.gr).1 ++ (divS t.head g).1) ++ List.drop (t.used + (divS t.head g).1.length) _
    conv => rhs; rw [hp]
    rw [List.drop_left' (by rw [List.length_append, List.length_take]; omega), hp, ht]
  · show (flatB 0 (t.gr ++ [g])).1.length = _
    rw [hs]
    show ((flatB 0 t.gr).1 ++ _).length = t.used + _
    rw [List.length_append, h.len]
  · show (flatB 0 (t.gr ++ [g])).2 = _
    rw [hs]; rfl
end Go.Proofs.Ythkjkhffljlidaa.Jo
/- The journal: the examples of the chapter. -/
namespace Go.Proofs.Ythkjkhffljlidaa.Jo
set_option linter.unusedVariables false
set_option linter.unusedSimpArgs false
open Go.RowKit Go.Proofs.Ythkjkhffljlidaa.Ev Go.Proofs.Ythkjkhffljlidaa.Dk
variable {gl : List (Nat × List CV)}
abbrev sAB : ByteArray := ⟨#[97, 98]⟩
abbrev sA : ByteArray := ⟨#[97]⟩
abbrev sB : ByteArray := ⟨#[98]⟩
abbrev sR : ByteArray := ⟨#[46, 48, 51, 2, 97, 98]⟩
def sZ : ByteArray := ⟨(List.replicate 45 (0 : UInt8)).toArray⟩
theorem sZ_size : sZ.size = 45 := by show (List.replicate 45 (0 : UInt8)).toArray.size = 45; simp
theorem stream_one (s : ByteArray) (h : s.size < 128) : streamB [s] = ⟨(UInt8.ofNat s.size :: s.data.toList).toArray⟩ := by
  apply ba_eq
  show streamL [s] = _
  unfold streamL textS uvarS
  simp only [List.flatMap_cons, List.flatMap_nil]
  rw [uvar_lo h, ba_app, List.append_nil]
  rfl
theorem div_ab : (divS 0 [sAB]).1 = [hexS (chainS 0 sR) ++ sR] ∧ (divS 0 [sAB]).2.2 = 0 := by
  have hc : chkS [sAB] = 0 := by decide +kernel
  have hs : streamB [sAB] = ⟨#[2, 97, 98]⟩ := stream_one sAB (by decide)
  have hr : restN 46 3 ⟨#[2, 97, 98]⟩ = sR := by decide +kernel
  unfold divS
  rw [hc, if_neg (by decide), hs, divB_one (by decide) (by decide)]
  show [hexS (chainS 0 (restN 46 3 ⟨#[2, 97, 98]⟩)) ++ restN 46 3 ⟨#[2, 97, 98]⟩] = _ ∧ (0 : Int) = 0
  rw [hr]
  exact ⟨rfl, rfl⟩
theorem div_two : (divS 0 [sA, sB]).1.length = 1 ∧ (divS 0 [sA, sB]).2.2 = 0 := by
  have hc : chkS [sA, sB] = 0 := by decide +kernel
  have hs : streamB [sA, sB] = ⟨#[1, 97, 1, 98]⟩ := by
    apply ba_eq
    show streamL [sA, sB] = _
    unfold streamL textS uvarS
    simp only [List.flatMap_cons, List.flatMap_nil]
    rw [uvar_lo (by decide), uvar_lo (by decide)]
    rfl
  unfold divS
  rw [hc, if_neg (by decide), hs]
  refine ⟨?_, rfl⟩
  show (divB 0 ⟨#[1, 97, 1, 98]⟩).1.length = 1
  rw [divB_length 4 0 _ (by decide)]
  rfl
theorem div_long (prev : Nat) : (divS prev [sZ]).1.length = 2 ∧ (divS prev [sZ]).2.2 = 0 := by
  have hc : chkS [sZ] = 0 := by
    unfold chkS
    rw [if_neg (by simp), if_neg (by simp), any_not (fun i hi => by
      have : i = 0 := by simpa using hi
      subst this
      show sZ.size ≤ _
      rw [sZ_size]; omega)]
    rfl
  have hsz : (streamB [sZ]).size = 46 := by
    rw [stream_one sZ (by rw [sZ_size]; omega)]
    show (UInt8.ofNat sZ.size :: sZ.data.toList).toArray.size = 46
    rw [List.size_toArray, List.length_cons, ba_size, sZ_size]
  unfold divS
  rw [hc, if_neg (by decide)]
  refine ⟨?_, rfl⟩
  show (divB prev (streamB [sZ])).1.length = 2
  rw [divB_length 46 _ _ (by omega), hsz]
theorem app_quiet {t : JS} {d : DS} {g : List ByteArray} (ht : t.stop = false) (hq : Quiet d) (he : (divS t.head g).2.2 = 0) (hl : t.used + (divS t.head g).1.length ≤ d.blocks.length) :
    appS t d g = (t.add g (t.used + (divS t.head g).1.length) (divS t.head g).2.1, { d with blocks := putAt d.blocks t.used (divS t.head g).1 }, 0) := by
  unfold appS
  rw [ht, if_neg (by decide), if_neg (by rw [he]; decide), if_neg (by omega), writeS_quiet hq hl (divS_size _ _)]
  rfl
theorem app_full {t : JS} {d : DS} {g : List ByteArray} (ht : t.stop = false) (he : (divS t.head g).2.2 = 0) (hl : d.blocks.length < t.used + (divS t.head g).1.length) : appS t d g = (t, d, 12) := by
  unfold appS
  rw [ht, if_neg (by decide), if_neg (by rw [he]; decide), if_pos hl]
theorem awake_con : Con Try.prog gl 11 [] T := by
  have b0 := blocks_con (gl := gl) 0 (by decide) [sAB] (by decide)
  obtain ⟨a1, a2⟩ := div_ab
  rw [a1, a2] at b0
  have b1 := blocks_con (gl := gl) 0 (by decide) [sZ] (by decide)
  obtain ⟨a3, a4⟩ := div_long 0
  rw [a4] at b1
  generalize (divS 0 [sZ]).1 = m at b1 a3
  have k0 := chain_con (gl := gl) 0 (by decide) sR (by decide)
  have hcl := chainS_lt 0 sR
  have k1 := hex_con (gl := gl) (chainS 0 sR) hcl
  have hhs := hexS_size (chainS 0 sR)
  have hxx : ((hexS (chainS 0 sR) ++ sR).toList == (hexS (chainS 0 sR) ++ sR).toList) = true := by simp
  generalize chainS 0 sR = q at b0 k0 k1 hcl hhs hxx
  generalize hexS q = x at b0 k1 hhs hxx
  generalize hL : [x ++ sR] = l at b0
  have hl : l.length = 1 := by rw [← hL]; rfl
  have hl0 : ((l[Int.toNat 0]'(by rw [hl]; decide)).toList == (x ++ sR).toList) = true := by subst hL; exact hxx
  clear hL hxx
  obtain ⟨a5, a6⟩ := div_two
  have hap := app_quiet (t := J0) (d := DS.new 2) (g := [sA, sB]) rfl (new_quiet 2) a6 (by rw [a5]; decide)
  rw [a5] at hap
  have hlt := divS_lt 0 [sA, sB] (by decide)
  refine con_of Try.func11 rfl (by kernel_rfl) rfl ?_
  simp only [Try.ntmps11, Try.results11, argEnv, ofC, of1, List.map]
  repeat' (first
 | ((with_reducible apply r_litq); exact rfl; exact rfl; exact rfl; exact rfl; exact rfl; exact rfl; exact rfl)
 | ((with_reducible apply (r_call (f := 12))); exact rfl; exact rfl; exact b0; exact rfl; exact rfl)
 | ((with_reducible apply aw_seq))
 | ((with_reducible apply aw_region))
 | ((with_reducible apply thn_normal))
 | ((with_reducible apply ao_nil))
 | ((with_reducible apply r_move); exact rfl; exact rfl)
 | ((with_reducible apply r_assign); exact rfl; exact rfl)
 | ((with_reducible apply r_extract); exact rfl; exact rfl; exact rfl)
 )
  refine r_callNE (open_law 2 (by decide)) rfl ⟨.inl rfl, trivial⟩ rfl ?_
  rintro ⟨kd, kj⟩
  have r0 : OCon Try.prog gl 18 [.c (ptrV kj 0)] (DJ (DS.new 2) 0 kd kj J0) (I 2) (DJ (DS.new 2) 0 kd kj J0) := room_dj (gl := gl) (DS.new 2) 0 kd kj J0 (by decide) (by decide)
  have ap := append_dj (gl := gl) (DS.new 2) 0 kd kj J0 [sA, sB] (by decide) (by decide) (by decide) (by decide) (by decide) (by decide) (by decide)
  rw [hap] at ap
  generalize (divS 0 [sA, sB]).2.1 = h1 at ap hlt
  obtain ⟨d1, hd1⟩ : ∃ d1 : DS, d1 = { DS.new 2 with blocks := putAt (DS.new 2).blocks 0 (divS 0 [sA, sB]).1 } := ⟨_, rfl⟩
  have hl1 : d1.blocks.length = 2 := by rw [hd1]; show (putAt _ _ _).length = 2; rw [putAt_len]; rfl
  change OCon _ _ _ _ _ (I 0) (DJ { DS.new 2 with blocks := putAt (DS.new 2).blocks 0 (divS 0 [sA, sB]).1 } 5000 kd kj ⟨[[sA, sB]], 1, h1, false⟩) at ap
  rw [← hd1] at ap
  clear hd1 hap
  have r1 := room_dj (gl := gl) d1 5000 kd kj ⟨[[sA, sB]], 1, h1, false⟩ (by omega) (show 1 ≤ 1000000 by decide)
  rw [hl1] at r1
  have r1 : OCon Try.prog gl 18 [.c (ptrV kj 0)] (DJ d1 5000 kd kj ⟨[[sA, sB]], 1, h1, false⟩) (I 1) (DJ d1 5000 kd kj ⟨[[sA, sB]], 1, h1, false⟩) := r1
  have g1 : OCon Try.prog gl 32 [.c (ptrV kj 0)] (DJ d1 5000 kd kj ⟨[[sA, sB]], 1, h1, false⟩) (I 1) (DJ d1 5000 kd kj ⟨[[sA, sB]], 1, h1, false⟩) := (groups_j (gl := gl) kd ⟨[[sA, sB]], 1, h1, false⟩).right ((dskP d1 5000).at kd) kj
  have e1 := (records_j (gl := gl) kd ⟨[[sA, sB]], 1, h1, false⟩ (show [[sA, sB]].flatten.length ≤ 1000000000 by decide)).right ((dskP d1 5000).at kd) kj
  have s1 := same_con (gl := gl) [sA, sB] [sA, sB] (by decide) (by decide)
  rw [decide_eq_true rfl] at s1
  obtain ⟨a7, a8⟩ := div_long h1
  have af := append_dj (gl := gl) d1 5000 kd kj ⟨[[sA, sB]], 1, h1, false⟩ [sZ] (by decide) (by omega) (show 1 ≤ 4096 by decide) hlt (by decide) (show [[sA, sB]].flatten.length ≤ 100000000 by decide) (show 1 ≤ 100000000 by decide)
  rw [app_full (t := ⟨[[sA, sB]], 1, h1, false⟩) rfl a8 (by rw [a7, hl1]; show 2 < 1 + 2; decide)] at af
  repeat' (first
 | ((with_reducible apply (r_call (f := 41))); exact rfl; exact rfl; exact k0; exact rfl; exact rfl)
 | ((with_reducible apply (r_call (f := 40))); exact rfl; exact rfl; exact k1; exact rfl; exact rfl)
 | ((with_reducible apply r_adds); exact rfl; exact rfl; exact (by rw [hhs]; decide); exact rfl)
 | ((with_reducible apply r_neqstr_v); exact rfl; exact rfl; exact hl0; exact rfl)
 | ((with_reducible apply r_eqnilp); exact rfl; exact rfl; exact rfl)
 | ((with_reducible apply r_litq); exact rfl; exact rfl; exact rfl; exact rfl; exact rfl; exact rfl; exact rfl)
 | ((with_reducible apply (r_call (f := 12))); exact rfl; exact rfl; exact b1; exact rfl; exact rfl)
 | ((with_reducible apply (r_callqO (f := 18) 0)); exact r0; exact rfl; exact rfl; exact rfl; exact rfl; exact rfl)
 | ((with_reducible apply (r_callqO (f := 18) 0)); exact r1; exact rfl; exact rfl; exact rfl; exact rfl; exact rfl)
 | ((with_reducible apply (r_callO (f := 17) 0)); exact ap; exact rfl; exact rfl; exact rfl; exact rfl)
 | ((with_reducible apply (r_callO (f := 17) 0)); exact af; exact rfl; exact rfl; exact rfl; exact rfl)
 | ((with_reducible apply (r_callqO (f := 32) 0)); exact g1; exact rfl; exact rfl; exact rfl; exact rfl; exact rfl)
 | ((with_reducible apply (r_callqO (f := 30) 0)); exact e1; exact rfl; exact rfl; exact rfl; exact rfl; exact rfl)
 | ((with_reducible apply (r_call (f := 14))); exact rfl; exact rfl; exact s1; exact rfl; exact rfl)
 | ((with_reducible apply (r_make (enc := u8C) (0 : UInt8) 45)); exact inferInstance; exact rfl; exact rfl; exact rfl; exact rfl; exact rfl; exact (by decide); exact (by decide); exact rfl)
 | ((with_reducible apply (r_strOfV (List.replicate 45 (0 : UInt8)))); exact rfl; exact rfl; exact rfl; exact (by decide); exact rfl)
 | ((with_reducible apply aw_seq))
 | ((with_reducible apply aw_region))
 | ((with_reducible apply thn_normal))
 | ((with_reducible apply aw_skip))
 | ((with_reducible apply aw_ret))
 | ((with_reducible apply ao_nil))
 | ((with_reducible apply r_move); exact rfl; exact rfl)
 | ((with_reducible apply r_assign); exact rfl; exact rfl)
 | ((with_reducible apply r_eql); exact rfl; exact rfl; exact rfl)
 | ((with_reducible apply r_neq); exact rfl; exact rfl; exact rfl)
 | ((with_reducible apply r_pick_t); exact rfl; exact rfl; exact rfl)
 | ((with_reducible apply r_pick_f); exact rfl; exact rfl; exact rfl)
 | ((with_reducible apply r_len_f); exact rfl; exact inferInstance; exact rfl)
 | ((with_reducible apply r_index_f); exact rfl; exact inferInstance; exact rfl; exact (Int.toNat_of_nonneg (by omega)).symm; (first | assumption | omega); exact rfl)
 | ((with_reducible apply r_load_f0); exact rfl; exact inferInstance; exact List.getElem?_eq_getElem (by first | assumption | omega); exact rfl; exact rfl)
 | ((with_reducible apply r_extract); exact rfl; exact rfl; exact rfl)
 | (((with_reducible apply r_guard); exact rfl; exact rfl; exact rfl; exact rfl) <;> intro hg <;> (first | (exact absurd hg (by decide)) | ((try simp only [decide_eq_true_eq, decide_eq_false_iff_not, Bool.not_eq_true', Bool.not_eq_false', Bool.not_true, Bool.not_false, Bool.not_not, Int.not_lt, Int.not_le, Nat.not_lt, Nat.not_le, gt_iff_lt, ge_iff_le, List.cons.injEq, and_true] at hg); first | (exact absurd trivial hg) | (exfalso; omega) | (have hT : True := hg; clear hT hg) | skip)))
 | (((with_reducible apply aw_cond); exact rfl) <;> intro hg <;> (first | (exact absurd hg (by decide)) | ((try simp only [decide_eq_true_eq, decide_eq_false_iff_not, Bool.not_eq_true', Bool.not_eq_false', Bool.not_true, Bool.not_false, Bool.not_not, Int.not_lt, Int.not_le, Nat.not_lt, Nat.not_le, gt_iff_lt, ge_iff_le, List.cons.injEq, and_true] at hg); first | (exact absurd trivial hg) | (exfalso; omega) | (have hT : True := hg; clear hT hg) | skip)))
 | (refine aw_drawq ?_ ?_; (kernel_rfl))
 | ((with_reducible apply ds_nil))
 | (((with_reducible apply rd_guard); exact rfl; exact rfl; exact rfl) <;> intro hg <;> (first | (exact absurd hg (by decide)) | ((try rw [hg]); (try simp only [decide_eq_true_eq, decide_eq_false_iff_not, Bool.not_eq_true', Bool.not_eq_false', Bool.not_true, Bool.not_false, Bool.not_not, Int.not_lt, Int.not_le, Nat.not_lt, Nat.not_le, gt_iff_lt, ge_iff_le, List.cons.injEq, and_true] at hg); first | (exact absurd trivial hg) | (exfalso; omega) | (have hT : True := hg; clear hT hg) | skip)))
 )
  all_goals exact ret_b rfl (by simp [a3])
end Go.Proofs.Ythkjkhffljlidaa.Jo
/- The law JournalBlocks. -/
namespace Go.Proofs.Ythkjkhffljlidaa.Jo
set_option linter.unusedVariables false
set_option linter.unusedSimpArgs false
open Go.RowKit Go.Proofs.Ythkjkhffljlidaa.Ev Go.Proofs.Ythkjkhffljlidaa.Dk
variable {gl : List (Nat × List CV)}
theorem divS_len (prev : Nat) (g : List ByteArray) : (divS prev g).1.length ≤ 600000 := by
  unfold divS
  split
  · exact Nat.zero_le _
  · rename_i h
    have h : chkS g = 0 := Decidable.not_not.1 h
    obtain ⟨_, h1, h2⟩ := chk_z h
    have h3 := streamL_len h2 g.length (Nat.le_refl _)
    rw [List.take_length] at h3
    have h4 : (streamB g).size = (streamL g).length := by show (streamL g).toArray.size = _; simp
    have := (divB_len (streamB g).size prev (streamB g) (Nat.le_refl _)).1
    show (divB prev (streamB g)).1.length ≤ _
    omega
end Go.Proofs.Ythkjkhffljlidaa.Jo
/- The journal: the reference's journal on blocks: Open, Append. -/
namespace Go.Proofs.Ythkjkhffljlidaa.Jo
set_option linter.unusedVariables false
set_option linter.unusedSimpArgs false
open Go.RowKit Go.Proofs.Ythkjkhffljlidaa.Ev
variable {gl : List (Nat × List CV)}
def rappS (t : JS) (g : List ByteArray) (n : Nat) : JS × List ByteArray × Int :=
  if (divS t.head g).2.2 ≠ 0 then (t, [], (divS t.head g).2.2)
  else if n < t.used + (divS t.head g).1.length then (t, [], 12)
  else (t.add g (t.used + (divS t.head g).1.length) (divS t.head g).2.1, (divS t.head g).1, 0)
end Go.Proofs.Ythkjkhffljlidaa.Jo
/- The journal, plain: groups that are appended on a disk that does not crash. -/
namespace Go.Proofs.Ythkjkhffljlidaa.Jo
set_option linter.unusedVariables false
set_option linter.unusedSimpArgs false
open Go.RowKit Go.Proofs.Ythkjkhffljlidaa.Ev Go.Proofs.Ythkjkhffljlidaa.Dk
theorem read_eq {s : DS} (h : s.down = false) (n : Nat) (hn : n < s.blocks.length) : s.read (n : Int) = ((newest s.pend n).getD (s.blocks.getD n ByteArray.empty), 0) := by
  have hi : inB s n = true := (inB_iff s n).2 ⟨n, rfl, hn⟩
  unfold DS.read; rw [h, hi]; simp
theorem contents_quiet {d : DS} (hd : d.down = false) (hp : d.pend = []) : contents d = d.blocks := by
  apply List.ext_getElem
  · rw [contents_len]
  · intro i h1 h2
    have e : (contents d)[i] = (d.read (i : Int)).1 := by simp [contents]
    rw [e, read_eq hd i h2, hp]
    simp [newest, List.getD_eq_getElem?_getD, h2]
theorem openD_quiet {d : DS} (hd : d.down = false) (hp : d.pend = []) : openD d = findG 0 [] 0 d.blocks J0 := by
  unfold openD; rw [contents_quiet hd hp]
structure Inv (n : Nat) (d : DS) (t : JS) : Prop where
  quiet : Quiet d
  len : d.blocks.length = n
  fine : Fine d
  lies : Lies t d.blocks
  stop : t.stop = false
  head : t.head < 2 ^ 64
  rest : ∀ x ∈ d.blocks.drop t.used, x.size ≤ 19
theorem Inv.used {n : Nat} {d : DS} {t : JS} (h : Inv n d t) : t.used ≤ n := h.len ▸ h.lies.le
theorem Inv.new {n : Nat} (hn : 1 ≤ n ∧ n ≤ 4096) : Inv n (DS.new n) J0 :=
  ⟨new_quiet n, by simp [DS.new], Fine.new n hn.1 hn.2, Lies.nil _, rfl, by decide, fun x hx => by
    have hx : x ∈ (List.replicate n ByteArray.empty).drop 0 := hx
    rw [List.drop_zero, List.mem_replicate] at hx
    rw [hx.2]; exact Nat.zero_le _⟩
theorem find_short {h i : Nat} {st : List UInt8} {bl : List ByteArray} {J : JS} (hs : ∀ x ∈ bl, x.size ≤ 19) : findG h st i bl J = J := by
  cases bl with
  | nil => rfl
  | cons b bl => exact findG_none (cont_short (hs b (List.mem_cons_self ..)))
theorem Inv.openD {n : Nat} {d : DS} {t : JS} (h : Inv n d t) : openD d = t := by
  rw [openD_quiet h.quiet.up h.quiet.none, h.lies.find, find_short h.rest]
  have := h.stop
  cases t
  cases this
  rfl
theorem putAt_drop {bl l : List ByteArray} {n : Nat} (h : n + bl.length ≤ l.length) : (putAt l n bl).drop (n + bl.length) = l.drop (n + bl.length) := by
  rw [putAt_eq bl l n h, List.drop_left' (by rw [List.length_append, List.length_take]; omega)]
theorem putAt_mem {bl l : List ByteArray} {n : Nat} (h : n + bl.length ≤ l.length) : ∀ x ∈ putAt l n bl, x ∈ l ∨ x ∈ bl := by
  intro x hx
  rw [putAt_eq bl l n h] at hx
  rcases List.mem_append.1 hx with hx | hx
  · rcases List.mem_append.1 hx with hx | hx
    · exact .inl (List.mem_of_mem_take hx)
    · exact .inr hx
  · exact .inl (List.mem_of_mem_drop hx)
theorem Inv.add {n : Nat} {d : DS} {t : JS} {g : List ByteArray} (h : Inv n d t) (hc : chkS g = 0) (hl : t.used + (divS t.head g).1.length ≤ n) :
    Inv n { d with blocks := putAt d.blocks t.used (divS t.head g).1 } (t.add g (t.used + (divS t.head g).1.length) (divS t.head g).2.1) := by
  have hl' : t.used + (divS t.head g).1.length ≤ d.blocks.length := by rw [h.len]; exact hl
  refine ⟨⟨h.quiet.up, h.quiet.free, h.quiet.none⟩, ?_, ?_, h.lies.add hc hl', h.stop, divS_lt _ _ h.head, ?_⟩
  · show (putAt _ _ _).length = n
    rw [putAt_len, h.len]
  · refine ⟨?_, ?_, ?_, h.fine.steps, h.fine.mask⟩
    · show 1 ≤ (putAt _ _ _).length ∧ (putAt _ _ _).length ≤ _
      rw [putAt_len]; exact h.fine.len
    · intro x hx
      rcases putAt_mem hl' x hx with hx | hx
      · exact h.fine.text x hx
      · exact divS_size _ _ x hx
    · intro x hx
      have hx : x ∈ d.pend := hx
      rw [h.quiet.none] at hx
      cases hx
  · intro x hx
    have hx : x ∈ (putAt d.blocks t.used (divS t.head g).1).drop (t.used + (divS t.head g).1.length) := hx
    rw [putAt_drop hl'] at hx
    refine h.rest x ?_
    rw [← List.drop_drop] at hx
    exact List.mem_of_mem_drop hx
theorem Inv.app {n : Nat} {d : DS} {t : JS} (h : Inv n d t) (g : List ByteArray) :
    (appS t d g = (t, d, (rappS t g n).2.2) ∧ (rappS t g n).1 = t ∧ (rappS t g n).2.1 = [] ∧ (rappS t g n).2.2 ≠ 0 ∧ ((rappS t g n).2.2 = chkS g ∧ chkS g ≠ 0 ∨ (rappS t g n).2.2 = 12 ∧ chkS g = 0 ∧ n < t.used + (divS t.head g).1.length)) ∨
    (chkS g = 0 ∧ t.used + (divS t.head g).1.length ≤ n ∧ rappS t g n = (t.add g (t.used + (divS t.head g).1.length) (divS t.head g).2.1, (divS t.head g).1, 0) ∧
      appS t d g = (t.add g (t.used + (divS t.head g).1.length) (divS t.head g).2.1, { d with blocks := putAt d.blocks t.used (divS t.head g).1 }, 0)) := by
  by_cases hc : chkS g = 0
  · have he : (divS t.head g).2.2 = 0 := by rw [divS_e, hc]
    by_cases hl : n < t.used + (divS t.head g).1.length
    · refine .inl ?_
      have hr : rappS t g n = (t, [], 12) := by unfold rappS; rw [if_neg (by simp [he]), if_pos hl]
      rw [hr]
      exact ⟨app_full h.stop he (by rw [h.len]; exact hl), rfl, rfl, (by show (12 : Int) ≠ 0; decide), .inr ⟨rfl, hc, hl⟩⟩
    · refine .inr ⟨hc, by omega, ?_, app_quiet h.stop h.quiet he (by rw [h.len]; omega)⟩
      unfold rappS; rw [if_neg (by simp [he]), if_neg hl]
  · refine .inl ?_
    have he : (divS t.head g).2.2 ≠ 0 := by rw [divS_e]; exact hc
    have hr : rappS t g n = (t, [], chkS g) := by unfold rappS; rw [if_pos he, divS_e]
    rw [hr]
    refine ⟨?_, rfl, rfl, hc, .inl ⟨rfl, hc⟩⟩
    unfold appS
    rw [h.stop, if_neg (by decide), if_pos he, divS_e]
end Go.Proofs.Ythkjkhffljlidaa.Jo
/- The journal, plain: what is found on a disk with blocks of several groups that were tried. -/
namespace Go.Proofs.Ythkjkhffljlidaa.Jo
set_option linter.unusedVariables false
set_option linter.unusedSimpArgs false
open Go.RowKit Go.Proofs.Ythkjkhffljlidaa.Ev Go.Proofs.Ythkjkhffljlidaa.Dk
abbrev Ent := Nat × Nat × ByteArray
def blk (e : Ent) : ByteArray := hexS e.2.1 ++ e.2.2
def divE (prev : Nat) (s : ByteArray) : List Ent :=
  if h : s.size = 0 then []
  else (prev, chainS prev (restN (markB (decide (s.size ≤ 45))) (min s.size 45) (s.extract 0 (min s.size 45))), restN (markB (decide (s.size ≤ 45))) (min s.size 45) (s.extract 0 (min s.size 45))) ::
    divE (chainS prev (restN (markB (decide (s.size ≤ 45))) (min s.size 45) (s.extract 0 (min s.size 45)))) (s.extract (min s.size 45) s.size)
termination_by s.size
decreasing_by rw [ByteArray.size_extract]; omega
theorem divE_nil {prev : Nat} {s : ByteArray} (h : s.size = 0) : divE prev s = [] := by rw [divE, dif_pos h]
theorem divE_cons {prev n c : Nat} {s r : ByteArray} (h : s.size ≠ 0) (hn : n = min s.size 45) (hr : r = restN (markB (decide (s.size ≤ 45))) n (s.extract 0 n)) (hc : c = chainS prev r) : divE prev s = (prev, c, r) :: divE c (s.extract n s.size) := by
  subst hc; subst hr; subst hn
  conv => lhs; rw [divE]
  rw [dif_neg h]
theorem divB_E : ∀ (k prev : Nat) (s : ByteArray), s.size ≤ k → (divB prev s).1 = (divE prev s).map blk
  | 0, prev, s, h => by rw [divB_nil (by omega), divE_nil (by omega)]; rfl
  | k + 1, prev, s, h => by
    by_cases h0 : s.size = 0
    · rw [divB_nil h0, divE_nil h0]; rfl
    · rw [divB_cons h0 rfl rfl rfl, divE_cons h0 rfl rfl rfl, List.map_cons, divB_E k _ _ (by rw [ByteArray.size_extract]; omega)]
      rfl
def pcL (e : Ent) : List UInt8 := e.2.2.data.toList.drop 3
structure EntOK (e : Ent) (last : Bool) : Prop where
  rest : ∃ p : ByteArray, 1 ≤ p.size ∧ p.size ≤ 45 ∧ e.2.2 = restN (markB last) p.size p ∧ pcL e = p.data.toList
  hash : e.2.1 = chainS e.1 e.2.2
theorem pc_rest (m : UInt8) (p : ByteArray) (a b : Nat) : pcL (a, b, restN m p.size p) = p.data.toList := by
  unfold pcL; rw [rest_data]; rfl
theorem EntOK.lt {e : Ent} {last : Bool} (h : EntOK e last) : e.2.1 < 2 ^ 64 := by rw [h.hash]; exact chainS_lt _ _
theorem EntOK.mark {e e' : Ent} (h : EntOK e true) (h' : EntOK e' false) : e.2.2 ≠ e'.2.2 := by
  obtain ⟨p, _, _, h1, _⟩ := h.rest
  obtain ⟨p', _, _, h2, _⟩ := h'.rest
  intro he
  rw [h1, h2] at he
  have := congrArg (fun s : ByteArray => s.data.toList) he
  simp only [rest_data, List.cons.injEq] at this
  exact absurd this.1 (by decide)
theorem EntOK.cont {e : Ent} {last : Bool} (h : EntOK e last) (prev : Nat) : contS prev (blk e) = (if e.2.1 = chainS prev e.2.2 then some (e.2.1, last) else none) ∧ ((blk e).extract 19 (blk e).size).data.toList = pcL e := by
  obtain ⟨p, h1, h2, h3, h4⟩ := h.rest
  obtain ⟨a, b⟩ := cont_blk (h := prev) (last := last) (p := p) ⟨h1, h2⟩ h.lt
  unfold blk
  rw [h4, h3]
  exact ⟨a, by rw [b]⟩
structure EF (prev : Nat) (s : ByteArray) (h' : Nat) (l : List Ent) : Prop where
  ok : ∀ j (hj : j < l.length), EntOK l[j] (decide (j + 1 = l.length))
  first : ∀ h : 0 < l.length, l[0].1 = prev
  next : ∀ j (hj : j + 1 < l.length), l[j + 1].1 = l[j].2.1
  pcs : l.flatMap pcL = s.data.toList
  pos : s.size ≠ 0 → 0 < l.length
  last : ∀ h : 0 < l.length, h' = l[l.length - 1].2.1
theorem divE_facts : ∀ (k prev : Nat) (s : ByteArray), s.size ≤ k → EF prev s (divB prev s).2 (divE prev s)
  | 0, prev, s, h => by
    rw [divE_nil (by omega)]
    refine ⟨fun j hj => absurd hj (Nat.not_lt_zero _), fun h => absurd h (Nat.not_lt_zero _), fun j hj => absurd hj (Nat.not_lt_zero _), ?_, fun h => by omega, fun h => absurd h (Nat.not_lt_zero _)⟩
    have : s.data.toList.length = 0 := by rw [ba_size]; omega
    rw [List.length_eq_zero_iff.1 this]; rfl
  | k + 1, prev, s, h => by
    by_cases h0 : s.size = 0
    · exact divE_facts 0 prev s (by omega)
    have hps : (s.extract 0 (min s.size 45)).size = min s.size 45 := by rw [ByteArray.size_extract]; omega
    have hls : (s.extract (min s.size 45) s.size).size = s.size - min s.size 45 := by rw [ByteArray.size_extract]; omega
    obtain ⟨r, hr⟩ : ∃ r, r = restN (markB (decide (s.size ≤ 45))) (min s.size 45) (s.extract 0 (min s.size 45)) := ⟨_, rfl⟩
    obtain ⟨c, hc⟩ : ∃ c, c = chainS prev r := ⟨_, rfl⟩
    rw [divE_cons h0 rfl hr hc, divB_cons h0 rfl hr hc]
    have F := divE_facts k c (s.extract (min s.size 45) s.size) (by omega)
    have hnil : s.size ≤ 45 → divE c (s.extract (min s.size 45) s.size) = [] := fun h45 => divE_nil (by omega)
    have hbnil : s.size ≤ 45 → (divB c (s.extract (min s.size 45) s.size)).2 = c := fun h45 => by rw [divB_nil (by omega)]
    generalize divE c (s.extract (min s.size 45) s.size) = l at F hnil
    have hpc : pcL (prev, c, r) = (s.extract 0 (min s.size 45)).data.toList := by
      rw [hr]
      have := pc_rest (markB (decide (s.size ≤ 45))) (s.extract 0 (min s.size 45)) prev c
      rw [hps] at this
      exact this
    have hlast : decide (s.size ≤ 45) = decide (0 + 1 = ((prev, c, r) :: l).length) := by
      by_cases h45 : s.size ≤ 45
      · rw [decide_eq_true h45, hnil h45]; rfl
      · have := F.pos (by omega)
        rw [decide_eq_false h45, decide_eq_false]
        rw [List.length_cons]; omega
    refine ⟨fun j hj => ?_, fun _ => rfl, fun j hj => ?_, ?_, fun _ => Nat.zero_lt_succ _, fun _ => ?_⟩
    · cases j with
      | zero =>
        rw [← hlast]
        refine ⟨⟨s.extract 0 (min s.size 45), by omega, by omega, ?_, hpc⟩, hc⟩
        show r = _
        rw [hps, hr]
      | succ j =>
        have hj' : j < l.length := by simpa using hj
        have := F.ok j hj'
        rw [List.length_cons, show decide (j + 1 + 1 = l.length + 1) = decide (j + 1 = l.length) by
          by_cases e : j + 1 = l.length
          · rw [decide_eq_true e, decide_eq_true (by omega)]
          · rw [decide_eq_false e, decide_eq_false (by omega)]]
        exact this
    · cases j with
      | zero => exact F.first (by simpa using hj)
      | succ j => exact F.next j (by simpa using hj)
    · rw [List.flatMap_cons, F.pcs, hpc, ba_ext, ba_ext, List.drop_zero, List.take_of_length_le (i := s.size) (by rw [ba_size]; omega), List.take_append_drop]
    · show (divB c (s.extract (min s.size 45) s.size)).2 = _
      by_cases h45 : s.size ≤ 45
      · rw [hbnil h45]
        have e := hnil h45
        subst e
        rfl
      · have hp := F.pos (by omega)
        rw [F.last hp, List.getElem_cons, dif_neg (by rw [List.length_cons]; omega)]
        simp only [List.length_cons, Nat.add_sub_cancel]
structure Tr where
  p : Nat
  g : List ByteArray
  u : Nat
def Tr.E (x : Tr) : List Ent := divE x.p (streamB x.g)
section
variable (T : List Tr)
def Dot (h : Nat) : Prop := ∃ x ∈ T, ∃ j, ∃ hj : j < x.E.length, j + 1 = x.E.length ∧ x.E[j].2.1 = h
def Ground (h u : Nat) : Prop := (u = 0 ∧ h = 0) ∨ (0 < u ∧ Dot T h)
structure Tried : Prop where
  ok : ∀ x ∈ T, chkS x.g = 0
  gr : ∀ x ∈ T, Ground T x.p x.u
structure NoClash : Prop where
  one : ∀ x ∈ T, ∀ y ∈ T, ∀ i j (hi : i < x.E.length) (hj : j < y.E.length), x.E[i].2.1 = y.E[j].2.1 → x.E[i].1 = y.E[j].1 ∧ x.E[i].2.2 = y.E[j].2.2
  two : ∀ x ∈ T, ∀ i (hi : i < x.E.length) (a : Nat), (a = 0 ∨ ∃ y ∈ T, ∃ j, ∃ hj : j < y.E.length, y.E[j].2.1 = a) → chainS a x.E[i].2.2 = x.E[i].2.1 → a = x.E[i].1
def At (q : Nat) (b : ByteArray) : Prop := b.size ≤ 19 ∨ ∃ x ∈ T, ∃ j, ∃ hj : j < x.E.length, x.u + j = q ∧ b = blk x.E[j]
end
theorem take_pc {l : List Ent} {j : Nat} (hj : j < l.length) : (l.take (j + 1)).flatMap pcL = (l.take j).flatMap pcL ++ pcL l[j] := by
  rw [List.take_succ_eq_append_getElem hj, List.flatMap_append]; simp
theorem first_found {T : List Tr} (hT : Tried T) (hN : NoClash T) (h u : Nat) (hg : Ground T h u) : ∀ (k : Nat) (L : List ByteArray) (i hi : Nat) (st : List UInt8) (J : JS), L.length ≤ k → (∀ q (hq : q < L.length), At T (i + q) L[q]) →
    (hi = h ∨ ∃ y ∈ T, ∃ j, ∃ hj : j < y.E.length, y.E[j].2.1 = hi) →
    (∀ x ∈ T, ∀ j (hj : j < x.E.length), x.u + j = i → x.E[j].1 = hi → x.u = u ∧ x.p = h ∧ (x.E.take j).flatMap pcL = st) →
    findG hi st i L J = J ∨ ∃ x ∈ T, x.u = u ∧ x.p = h ∧ i < u + x.E.length ∧ x.E.length + u - i ≤ L.length ∧ findG hi st i L J = findG (divS h x.g).2.1 [] (u + x.E.length) (L.drop (u + x.E.length - i)) (J.add x.g (u + x.E.length) (divS h x.g).2.1) := by
  have hh0 : h = 0 ∨ ∃ y ∈ T, ∃ j, ∃ hj : j < y.E.length, y.E[j].2.1 = h := by
    rcases hg with ⟨_, e⟩ | ⟨_, y, hy, j, hj, _, e⟩
    · exact .inl e
    · exact .inr ⟨y, hy, j, hj, e⟩
  intro k
  induction k with
  | zero =>
    intro L i hi st J hk _ _ _
    obtain rfl : L = [] := List.length_eq_zero_iff.1 (by omega)
    exact .inl rfl
  | succ k ih =>
    intro L i hi st J hk hat hhi hinv
    cases L with
    | nil => exact .inl rfl
    | cons b L =>
      rw [List.length_cons] at hk
      have h0 := hat 0 (Nat.zero_lt_succ _)
      rw [Nat.add_zero] at h0
      have h0 : At T i b := h0
      rcases h0 with hs | ⟨x, hx, j, hj, hpos, hb⟩
      · exact .inl (findG_none (cont_short hs))
      obtain ⟨f1, f2, f3, f4, f5, f6⟩ := divE_facts (streamB x.g).size x.p (streamB x.g) (Nat.le_refl _)
      have hok := f1 j hj
      have hall : hi = 0 ∨ ∃ y ∈ T, ∃ j, ∃ hj : j < y.E.length, y.E[j].2.1 = hi := by
        rcases hhi with rfl | h'
        · exact hh0
        · exact .inr h'
      obtain ⟨c1, c2⟩ := hok.cont hi
      have c1 : contS hi b = (if x.E[j].2.1 = chainS hi x.E[j].2.2 then some (x.E[j].2.1, decide (j + 1 = x.E.length)) else none) := by rw [hb]; exact c1
      have c2 : (b.extract 19 b.size).data.toList = pcL x.E[j] := by rw [hb]; exact c2
      by_cases hch : x.E[j].2.1 = chainS hi x.E[j].2.2
      rotate_left
      · refine .inl (findG_none ?_)
        rw [c1]; exact if_neg hch
      have hbef := hN.two x hx j hj hi hall hch.symm
      obtain ⟨i1, i2, i3⟩ := hinv x hx j hj hpos hbef.symm
      have c1 : contS hi b = some (x.E[j].2.1, decide (j + 1 = x.E.length)) := c1.trans (if_pos hch)
      have hst' : st ++ pcL x.E[j] = (x.E.take (j + 1)).flatMap pcL := by rw [take_pc hj, i3]
      by_cases hl : j + 1 = x.E.length
      · refine .inr ⟨x, hx, i1, i2, by omega, by rw [List.length_cons]; omega, ?_⟩
        rw [decide_eq_true hl] at c1
        have hfull : (⟨(st ++ (b.extract 19 b.size).data.toList).toArray⟩ : ByteArray) = streamB x.g := by
          apply ba_eq
          show (st ++ (b.extract 19 b.size).data.toList) = _
          rw [c2, hst', hl, List.take_length]
          exact f4
        rw [findG_last c1 (by rw [hfull]; exact grp_stream (hT.ok x hx))]
        have e1 : (divS h x.g).2.1 = x.E[j].2.1 := by
          rw [divS_ok (hT.ok x hx), ← i2]
          have := f6 (show 0 < x.E.length by omega)
          show (divB x.p (streamB x.g)).2 = _
          rw [this]
          congr 3
          show x.E.length - 1 = j
          omega
        rw [e1, show u + x.E.length - i = 1 by omega, show u + x.E.length = i + 1 by omega]
        rfl
      · rw [decide_eq_false hl] at c1
        rw [findG_more c1, c2]
        have key := ih L (i + 1) x.E[j].2.1 (st ++ pcL x.E[j]) J (by omega) (fun q hq => by
          have := hat (q + 1) (by rw [List.length_cons]; omega)
          rw [show i + (q + 1) = i + 1 + q by omega] at this
          exact this) (.inr ⟨x, hx, j, hj, rfl⟩) (fun y hy j' hj' hp' hb' => by
            obtain ⟨g1, g2, g3, _, _, _⟩ := divE_facts (streamB y.g).size y.p (streamB y.g) (Nat.le_refl _)
            have hnl : EntOK x.E[j] false := by
              have := hok
              rw [show decide (j + 1 = (divE x.p (streamB x.g)).length) = false from decide_eq_false hl] at this
              exact this
            cases j' with
            | zero =>
              exfalso
              have hb0 : y.p = x.E[j].2.1 := (g2 hj').symm.trans hb'
              rcases hT.gr y hy with ⟨e, _⟩ | ⟨_, z, hz, m, hm, hml, hmh⟩
              · omega
              · have hzl := (divE_facts (streamB z.g).size z.p (streamB z.g) (Nat.le_refl _)).1 m hm
                rw [show decide (m + 1 = (divE z.p (streamB z.g)).length) = true from decide_eq_true hml] at hzl
                exact hzl.mark hnl (hN.one z hz x hx m j hm hj (hmh.trans hb0)).2
            | succ j' =>
              have hj0 : j' < y.E.length := Nat.lt_of_succ_lt hj'
              have e0 : y.E[j'].2.1 = x.E[j].2.1 := (g3 j' hj').symm.trans hb'
              obtain ⟨n1, n2⟩ := hN.one y hy x hx j' j hj0 hj e0
              obtain ⟨k1, k2, k3⟩ := hinv y hy j' hj0 (by omega) (n1.trans hbef.symm)
              refine ⟨k1, k2, ?_⟩
              rw [take_pc hj0, k3]
              show st ++ pcL y.E[j'] = st ++ pcL x.E[j]
              unfold pcL
              rw [n2])
        rcases key with key | ⟨y, hy, y1, y2, y3, y4, y5⟩
        · exact .inl key
        · refine .inr ⟨y, hy, y1, y2, by omega, by rw [List.length_cons]; omega, ?_⟩
          rw [y5, show u + y.E.length - i = (u + y.E.length - (i + 1)) + 1 by omega]
          rfl
theorem found_at {T : List Tr} (hT : Tried T) (hN : NoClash T) {h u : Nat} (hg : Ground T h u) (L : List ByteArray) (J : JS) (hat : ∀ q (hq : q < L.length), At T (u + q) L[q]) :
    findG h [] u L J = J ∨ ∃ x ∈ T, x.u = u ∧ x.p = h ∧ x.E.length ≤ L.length ∧ findG h [] u L J = findG (divS h x.g).2.1 [] (u + x.E.length) (L.drop x.E.length) (J.add x.g (u + x.E.length) (divS h x.g).2.1) := by
  rcases first_found hT hN h u hg L.length L u h [] J (Nat.le_refl _) hat (.inl rfl) (fun x hx j hj hp hb => by
    obtain ⟨f1, f2, f3, f4, f5, f6⟩ := divE_facts (streamB x.g).size x.p (streamB x.g) (Nat.le_refl _)
    cases j with
    | zero => exact ⟨by omega, (f2 hj).symm.trans hb, rfl⟩
    | succ j =>
      exfalso
      have hj0 : j < x.E.length := Nat.lt_of_succ_lt hj
      have hnl := f1 j hj0
      rw [decide_eq_false (show ¬ (j + 1 = (divE x.p (streamB x.g)).length) from fun e => by
        have : j + 1 < (divE x.p (streamB x.g)).length := hj
        omega)] at hnl
      have e0 : x.E[j].2.1 = h := (f3 j hj).symm.trans hb
      rcases hg with ⟨e, _⟩ | ⟨_, z, hz, m, hm, hml, hmh⟩
      · omega
      · have hzl := (divE_facts (streamB z.g).size z.p (streamB z.g) (Nat.le_refl _)).1 m hm
        rw [show decide (m + 1 = (divE z.p (streamB z.g)).length) = true from decide_eq_true hml] at hzl
        exact hzl.mark hnl (hN.one z hz x hx m j hm hj0 (hmh.trans e0.symm)).2) with hf | ⟨x, hx, h1, h2, h3, h4, h5⟩
  · exact .inl hf
  · refine .inr ⟨x, hx, h1, h2, by omega, ?_⟩
    rw [h5, Nat.add_sub_cancel_left]
end Go.Proofs.Ythkjkhffljlidaa.Jo
/- The journal, plain: groups that are appended on a disk that may crash. -/
namespace Go.Proofs.Ythkjkhffljlidaa.Jo
set_option linter.unusedVariables false
set_option linter.unusedSimpArgs false
open Go.RowKit Go.Proofs.Ythkjkhffljlidaa.Ev Go.Proofs.Ythkjkhffljlidaa.Dk
theorem step_two (s : DS) : (s.step.2 = false ∧ s.step.1 = s.crash s.mask) ∨ (s.step.2 = true ∧ s.step.1.blocks = s.blocks ∧ s.step.1.pend = s.pend ∧ s.step.1.down = s.down) := by
  unfold DS.step
  split
  · split
    · exact Or.inl ⟨rfl, rfl⟩
    · exact Or.inr ⟨rfl, rfl, rfl, rfl⟩
  · exact Or.inr ⟨rfl, rfl, rfl, rfl⟩
def Mix (b : List ByteArray) (m : Nat) (l b' : List ByteArray) : Prop := ∀ q, b'[q]? = b[q]? ∨ ∃ j, ∃ hj : j < l.length, q = m + j ∧ b'[q]? = some l[j]
theorem settle_mix (bit : Nat → Bool) : ∀ (l : List ByteArray) (m k : Nat) (b : List ByteArray), Mix b m l (settleGo bit k (pairs m l) b)
  | [], m, k, b => fun q => .inl rfl
  | x :: l, m, k, b => fun q => by
    simp only [pairs, settleGo]
    rcases settle_mix bit l (m + 1) (k + 1) (if bit k then b.set ((m : Nat) : Int).toNat x else b) q with h | ⟨j, hj, h1, h2⟩
    · rw [h]
      split
      · rw [Int.toNat_natCast, List.getElem?_set]
        split
        · rename_i e
          split
          · exact .inr ⟨0, Nat.zero_lt_succ _, by omega, rfl⟩
          · rename_i hl; exact .inl (by rw [List.getElem?_eq_none (by omega)])
        · exact .inl rfl
      · exact .inl rfl
    · exact .inr ⟨j + 1, by rw [List.length_cons]; omega, by omega, by rw [h2]; rfl⟩
theorem Mix.more {b b' l l' : List ByteArray} {m : Nat} (h : Mix b m l b') : Mix b m (l ++ l') b' := fun q => by
  rcases h q with h | ⟨j, hj, h1, h2⟩
  · exact .inl h
  · exact .inr ⟨j, by rw [List.length_append]; omega, h1, by rw [h2, List.getElem_append_left hj]⟩
structure Fell (n : Nat) (b : List ByteArray) (m : Nat) (l : List ByteArray) (d : DS) : Prop where
  down : d.down = true
  none : d.pend = []
  free : d.armed = false
  fine : Fine d
  len : d.blocks.length = n
  mix : Mix b m l d.blocks
theorem crash_fell {d : DS} {n m : Nat} {l : List ByteArray} (hf : Fine d) (hl : d.blocks.length = n) (hp : d.pend = pairs m l) (x : Int) : Fell n d.blocks m l (d.crash x) :=
  ⟨rfl, rfl, rfl, hf.crash x, by show (settleGo _ 0 d.pend d.blocks).length = n; rw [settleGo_len, hl], by
    show Mix _ _ _ (settleGo _ 0 d.pend d.blocks)
    rw [hp]; exact settle_mix _ _ _ _ _⟩
theorem write_two {d : DS} (hd : d.down = false) {n : Nat} (hn : n < d.blocks.length) {b : ByteArray} (hs : b.size ≤ 64) :
    (∃ d', d.write (n : Int) b = (d', 0) ∧ d'.blocks = d.blocks ∧ d'.pend = d.pend ++ [((n : Int), b)] ∧ d'.down = false ∧ (Fine d → Fine d')) ∨ d.write (n : Int) b = (d.crash d.mask, 17) := by
  have hi : inB d (n : Int) = true := (inB_iff d n).2 ⟨n, rfl, hn⟩
  unfold DS.write
  rw [hd, if_neg (by decide), hi, if_pos rfl, if_neg (by omega)]
  rcases step_two d with ⟨h1, h2⟩ | ⟨h1, h2, h3, h4⟩
  · rw [h1, if_neg (by decide), h2]; exact .inr rfl
  · rw [h1, if_pos rfl]
    refine .inl ⟨_, rfl, h2, by show d.step.1.pend ++ _ = _; rw [h3], h4.trans hd, fun hf => ?_⟩
    exact hf.step.push (by rw [h2]; exact hn) hs
theorem flush_two {d : DS} (hd : d.down = false) : (∃ d', d.flush = (d', 0) ∧ d'.blocks = settleGo (fun _ => true) 0 d.pend d.blocks ∧ d'.pend = [] ∧ d'.down = false ∧ (Fine d → Fine d')) ∨ d.flush = (d.crash d.mask, 17) := by
  unfold DS.flush
  rw [hd, if_neg (by decide)]
  rcases step_two d with ⟨h1, h2⟩ | ⟨h1, h2, h3, h4⟩
  · rw [h1, if_neg (by decide), h2]; exact .inr rfl
  · rw [h1, if_pos rfl]
    refine .inl ⟨_, rfl, ?_, rfl, h4.trans hd, fun hf => hf.step.settle _⟩
    show settleGo _ 0 d.step.1.pend d.step.1.blocks = _
    rw [h2, h3]
theorem pairs_app : ∀ (l : List ByteArray) (n : Nat) (x : ByteArray), pairs n (l ++ [x]) = pairs n l ++ [(((n + l.length : Nat) : Int), x)]
  | [], n, x => rfl
  | y :: l, n, x => by
    rw [List.cons_append, pairs, pairs_app l (n + 1) x, pairs, List.length_cons, show n + 1 + l.length = n + (l.length + 1) by omega, List.cons_append]
theorem writeS_two {n m : Nat} {b : List ByteArray} : ∀ (bl done : List ByteArray) (d : DS), d.down = false → Fine d → d.blocks = b → b.length = n → d.pend = pairs m done → m + done.length + bl.length ≤ n → (∀ x ∈ bl, x.size ≤ 64) →
    (∃ d', writeS d (m + done.length) bl = (d', 0) ∧ d'.blocks = putAt b m (done ++ bl) ∧ d'.pend = [] ∧ d'.down = false ∧ Fine d') ∨ (∃ d', writeS d (m + done.length) bl = (d', 17) ∧ Fell n b m (done ++ bl) d')
  | [], done, d, hd, hf, hb, hn, hp, hl, hs => by
    rw [writeS, List.append_nil]
    rcases flush_two hd with ⟨d', h1, h2, h3, h4, h5⟩ | h
    · refine .inl ⟨d', h1, ?_, h3, h4, h5 hf⟩
      rw [h2, hp, settle_pairs, hb]
    · refine .inr ⟨_, h, ?_⟩
      have := crash_fell hf (by rw [hb, hn]) hp d.mask
      rw [hb] at this
      exact this
  | x :: bl, done, d, hd, hf, hb, hn, hp, hl, hs => by
    rw [List.length_cons] at hl
    rw [writeS]
    rcases write_two hd (n := m + done.length) (by rw [hb]; omega) (hs x (List.mem_cons_self ..)) with ⟨d', h1, h2, h3, h4, h5⟩ | h
    · rw [h1, if_neg (by simp)]
      have := writeS_two bl (done ++ [x]) d' h4 (h5 hf) (by rw [h2, hb]) hn (by rw [h3, hp, pairs_app]) (by rw [List.length_append, List.length_singleton]; omega) (fun y hy => hs y (List.mem_cons_of_mem _ hy))
      rw [List.length_append, List.length_singleton, ← Nat.add_assoc, List.append_assoc] at this
      exact this
    · rw [h, if_pos (by simp)]
      refine .inr ⟨_, rfl, ?_⟩
      have := (crash_fell hf (by rw [hb, hn]) hp d.mask)
      rw [hb] at this
      exact ⟨this.down, this.none, this.free, this.fine, this.len, this.mix.more⟩
structure Up (n : Nat) (d : DS) (t : JS) : Prop where
  up : d.down = false
  none : d.pend = []
  len : d.blocks.length = n
  fine : Fine d
  lies : Lies t d.blocks
  stop : t.stop = false
  head : t.head < 2 ^ 64
theorem Inv.toUp {n : Nat} {d : DS} {t : JS} (h : Inv n d t) : Up n d t := ⟨h.quiet.up, h.quiet.none, h.len, h.fine, h.lies, h.stop, h.head⟩
theorem Up.used {n : Nat} {d : DS} {t : JS} (h : Up n d t) : t.used ≤ n := h.len ▸ h.lies.le
theorem chk_cases (g : List ByteArray) : chkS g = 0 ∨ chkS g = 3 ∨ chkS g = 4 := by
  unfold chkS
  split
  · exact .inr (.inl rfl)
  split
  · exact .inr (.inr rfl)
  split
  · exact .inr (.inr rfl)
  · exact .inl rfl
theorem Up.app {n : Nat} {d : DS} {t : JS} (h : Up n d t) (g : List ByteArray) :
    (∃ e, appS t d g = (t, d, e) ∧ (e = 12 ∨ e = 4 ∨ e = 3)) ∨
    (chkS g = 0 ∧ t.used + (divS t.head g).1.length ≤ n ∧
      ((∃ d', appS t d g = (t.add g (t.used + (divS t.head g).1.length) (divS t.head g).2.1, d', 0) ∧ Up n d' (t.add g (t.used + (divS t.head g).1.length) (divS t.head g).2.1) ∧ d'.blocks = putAt d.blocks t.used (divS t.head g).1) ∨
       (∃ d', appS t d g = ({ t with stop := true }, d', 17) ∧ Fell n d.blocks t.used (divS t.head g).1 d'))) := by
  by_cases hc : chkS g = 0
  · have he : (divS t.head g).2.2 = 0 := by rw [divS_e, hc]
    by_cases hl : n < t.used + (divS t.head g).1.length
    · exact .inl ⟨12, app_full h.stop he (by rw [h.len]; exact hl), .inl rfl⟩
    · refine .inr ⟨hc, by omega, ?_⟩
      have hsz := divS_size t.head g
      have hw := writeS_two (n := n) (m := t.used) (b := d.blocks) (divS t.head g).1 [] d h.up h.fine rfl h.len h.none (by show t.used + 0 + _ ≤ n; omega) hsz
      rw [List.nil_append] at hw
      have hw : (∃ d', writeS d t.used (divS t.head g).1 = (d', 0) ∧ d'.blocks = putAt d.blocks t.used (divS t.head g).1 ∧ d'.pend = [] ∧ d'.down = false ∧ Fine d') ∨ (∃ d', writeS d t.used (divS t.head g).1 = (d', 17) ∧ Fell n d.blocks t.used (divS t.head g).1 d') := hw
      rcases hw with ⟨d', w1, w2, w3, w4, w5⟩ | ⟨d', w1, w2⟩
      · refine .inl ⟨d', ?_, ⟨w4, w3, ?_, w5, ?_, h.stop, divS_lt _ _ h.head⟩, w2⟩
        · unfold appS
          rw [h.stop, if_neg (by decide), if_neg (by rw [he]; decide), if_neg (by rw [h.len]; omega), w1]
          rfl
        · rw [w2, putAt_len, h.len]
        · rw [w2]; exact h.lies.add hc (by rw [h.len]; omega)
      · refine .inr ⟨d', ?_, w2⟩
        unfold appS
        rw [h.stop, if_neg (by decide), if_neg (by rw [he]; decide), if_neg (by rw [h.len]; omega), w1]
        rfl
  · refine .inl ⟨chkS g, ?_, ?_⟩
    · unfold appS
      rw [h.stop, if_neg (by decide), if_pos (by rw [divS_e]; exact hc), divS_e]
    · rcases chk_cases g with e | e | e
      · exact absurd e hc
      · exact .inr (.inr e)
      · exact .inr (.inl e)
structure Rd where
  acked : List (List ByteArray)
  failed : List (List ByteArray)
  tried : List (List ByteArray)
  heads : List Nat
  t : JS
  d : DS
def roundS (t : JS) (d : DS) : List (List ByteArray) → Rd
  | [] => ⟨[], [], [], [], t, d⟩
  | g :: gs =>
    if (appS t d g).2.2 = 12 ∨ (appS t d g).2.2 = 4 ∨ (appS t d g).2.2 = 3 then roundS (appS t d g).1 (appS t d g).2.1 gs
    else if (appS t d g).2.2 = 17 then ⟨[], [g], [g], [t.head], (appS t d g).1, (appS t d g).2.1⟩
    else ⟨g :: (roundS (appS t d g).1 (appS t d g).2.1 gs).acked, (roundS (appS t d g).1 (appS t d g).2.1 gs).failed, g :: (roundS (appS t d g).1 (appS t d g).2.1 gs).tried, t.head :: (roundS (appS t d g).1 (appS t d g).2.1 gs).heads, (roundS (appS t d g).1 (appS t d g).2.1 gs).t, (roundS (appS t d g).1 (appS t d g).2.1 gs).d⟩
def trs (h u : Nat) : List (List ByteArray) → List Tr
  | [] => []
  | g :: gs => ⟨h, g, u⟩ :: trs (divS h g).2.1 (u + (divS h g).1.length) gs
theorem trs_g : ∀ (gs : List (List ByteArray)) (h u : Nat), (trs h u gs).map Tr.g = gs
  | [], h, u => rfl
  | g :: gs, h, u => by rw [trs, List.map_cons, trs_g gs]
theorem divS_E {h : Nat} {g : List ByteArray} (hc : chkS g = 0) (u : Nat) : (divS h g).1.length = (Tr.mk h g u).E.length := by
  rw [divS_ok hc]
  show (divB h (streamB g)).1.length = (divE h (streamB g)).length
  rw [divB_E _ _ _ (Nat.le_refl _), List.length_map]
theorem trs_app : ∀ (a b : List (List ByteArray)) (h u : Nat), trs h u (a ++ b) = trs h u a ++ trs (flatB h a).2 (u + (flatB h a).1.length) b
  | [], b, h, u => rfl
  | g :: a, b, h, u => by
    rw [List.cons_append, trs, trs_app a b, trs, flatB]
    dsimp only
    rw [List.length_append, List.cons_append, Nat.add_assoc]
structure Rounded (n : Nat) (d : DS) (t : JS) (gs : List (List ByteArray)) (R : Rd) (da : DS) (ta : JS) : Prop where
  tried : R.tried = R.acked ++ R.failed
  heads : R.heads = (trs t.head t.used R.tried).map Tr.p
  ok : ∀ g ∈ R.tried, chkS g = 0 ∧ g ∈ gs
  many : R.acked.length ≤ gs.length ∧ R.tried.length ≤ gs.length ∧ R.heads.length ≤ gs.length
  up : Up n da ta
  gr : ta.gr = t.gr ++ R.acked
  head : ta.head = (flatB t.head R.acked).2
  used : ta.used = t.used + (flatB t.head R.acked).1.length
  rest : ∀ q, ta.used ≤ q → da.blocks[q]? = d.blocks[q]?
  keep : ∀ q, q < t.used → da.blocks[q]? = d.blocks[q]?
  fin : (R.failed = [] ∧ R.t = ta ∧ R.d = da) ∨ ∃ g, R.failed = [g] ∧ ta.used + (divS ta.head g).1.length ≤ n ∧ R.t = { ta with stop := true } ∧ Fell n da.blocks ta.used (divS ta.head g).1 R.d
theorem round_ok {n : Nat} : ∀ (gs : List (List ByteArray)) (d : DS) (t : JS), Up n d t → ∃ da ta, Rounded n d t gs (roundS t d gs) da ta
  | [], d, t, h => ⟨d, t, rfl, rfl, (fun g hg => by
    have hg : g ∈ ([] : List (List ByteArray)) := hg
    cases hg), ⟨Nat.le_refl _, Nat.le_refl _, Nat.le_refl _⟩, h, by simp [roundS], rfl, rfl, fun _ _ => rfl, fun _ _ => rfl, .inl ⟨rfl, rfl, rfl⟩⟩
  | g :: gs, d, t, h => by
    rw [roundS]
    rcases h.app g with ⟨e, h1, h2⟩ | ⟨hc, hl, ⟨d', h1, h2, h3⟩ | ⟨d', h1, h2⟩⟩
    · rw [h1]
      dsimp only
      rw [if_pos h2]
      obtain ⟨da, ta, r⟩ := round_ok gs d t h
      exact ⟨da, ta, r.tried, r.heads, fun g hg => ⟨(r.ok g hg).1, List.mem_cons_of_mem _ (r.ok g hg).2⟩, ⟨Nat.le_succ_of_le r.many.1, Nat.le_succ_of_le r.many.2.1, Nat.le_succ_of_le r.many.2.2⟩, r.up, r.gr, r.head, r.used, r.rest, r.keep, r.fin⟩
    · rw [h1]
      dsimp only
      rw [if_neg (by decide), if_neg (by decide)]
      obtain ⟨da, ta, r⟩ := round_ok gs d' _ h2
      have hu := r.used
      have hu : ta.used = t.used + (divS t.head g).1.length + (flatB (divS t.head g).2.1 (roundS (t.add g (t.used + (divS t.head g).1.length) (divS t.head g).2.1) d' gs).acked).1.length := hu
      have hl' : t.used + (divS t.head g).1.length ≤ d.blocks.length := by rw [h.len]; exact hl
      refine ⟨da, ta, by show g :: _ = g :: _ ++ _; rw [r.tried]; rfl, ?_, fun x hx => ?_, ⟨Nat.succ_le_succ r.many.1, Nat.succ_le_succ r.many.2.1, Nat.succ_le_succ r.many.2.2⟩, r.up, ?_, r.head, ?_, fun q hq => ?_, fun q hq => ?_, r.fin⟩
      · show t.head :: _ = (trs t.head t.used (g :: _)).map Tr.p
        rw [r.heads]; rfl
      · rcases List.mem_cons.1 hx with rfl | hx
        · exact ⟨hc, List.mem_cons_self ..⟩
        · exact ⟨(r.ok x hx).1, List.mem_cons_of_mem _ (r.ok x hx).2⟩
      · rw [r.gr]
        show (t.gr ++ [g]) ++ _ = t.gr ++ (g :: _)
        rw [List.append_assoc]; rfl
      · rw [hu]
        show _ = t.used + ((divS t.head g).1 ++ _).length
        rw [List.length_append, Nat.add_assoc]
      · rw [r.rest q hq, h3, putAt_eq _ _ _ hl', List.getElem?_append_right (by rw [List.length_append, List.length_take]; omega), List.getElem?_drop]
        congr 1
        rw [List.length_append, List.length_take]; omega
      · rw [r.keep q (by show q < t.used + _; omega), h3, putAt_eq _ _ _ hl', List.append_assoc, List.getElem?_append_left (by rw [List.length_take]; omega), List.getElem?_take_of_lt hq]
    · rw [h1]
      dsimp only
      rw [if_neg (by decide), if_pos rfl]
      exact ⟨d, t, rfl, rfl, fun x hx => by
        have hx : x ∈ [g] := hx
        rw [List.mem_singleton.1 hx]
        exact ⟨hc, List.mem_cons_self ..⟩, ⟨Nat.zero_le _, by show 1 ≤ _; rw [List.length_cons]; omega, by show 1 ≤ _; rw [List.length_cons]; omega⟩, h, by simp, rfl, rfl, fun _ _ => rfl, fun _ _ => rfl, .inr ⟨g, rfl, hl, rfl, h2⟩⟩
def crashS (d : DS) (m : Int) : DS := if d.down = true then d.recover.1 else (d.crash m).recover.1
theorem crashS_down {d : DS} (m : Int) (h : d.down = true) : crashS d m = { d with down := false } := by
  unfold crashS DS.recover; rw [if_pos h, h, if_pos rfl]
theorem crashS_up {d : DS} (m : Int) (h : d.down = false) : crashS d m = { d.crash m with down := false } := by
  unfold crashS DS.recover; rw [h, if_neg (by decide)]; rfl
structure After (n : Nat) (d : DS) (ta : JS) (failed : List (List ByteArray)) (da d' : DS) : Prop where
  quiet : Quiet d'
  fine : Fine d'
  len : d'.blocks.length = n
  mix : (failed = [] ∧ d'.blocks = da.blocks) ∨ ∃ g, failed = [g] ∧ ta.used + (divS ta.head g).1.length ≤ n ∧ Mix da.blocks ta.used (divS ta.head g).1 d'.blocks
theorem Rounded.crash {n : Nat} {d : DS} {t : JS} {gs : List (List ByteArray)} {R : Rd} {da : DS} {ta : JS} (r : Rounded n d t gs R da ta) (m : Int) : After n d ta R.failed da (crashS R.d m) := by
  rcases r.fin with ⟨h1, _, h3⟩ | ⟨g, h1, h2, _, h4⟩
  · rw [h3, crashS_up m r.up.up]
    have hb : (da.crash m).blocks = da.blocks := by show settleGo _ 0 da.pend da.blocks = _; rw [r.up.none]; rfl
    have hf := r.up.fine.crash m
    exact ⟨⟨rfl, rfl, rfl⟩, ⟨hf.len, hf.text, hf.pend, hf.steps, hf.mask⟩, by show (da.crash m).blocks.length = n; rw [hb, r.up.len], .inl ⟨h1, hb⟩⟩
  · rw [crashS_down m h4.down]
    exact ⟨⟨rfl, h4.free, h4.none⟩, ⟨h4.fine.len, h4.fine.text, h4.fine.pend, h4.fine.steps, h4.fine.mask⟩, h4.len, .inr ⟨g, h1, h2, h4.mix⟩⟩
theorem take_ext {l l' : List ByteArray} {k : Nat} (h : ∀ q, q < k → l'[q]? = l[q]?) : l'.take k = l.take k := by
  apply List.ext_getElem?
  intro q
  by_cases hq : q < k
  · rw [List.getElem?_take_of_lt hq, List.getElem?_take_of_lt hq, h q hq]
  · rw [List.getElem?_eq_none (by rw [List.length_take]; omega), List.getElem?_eq_none (by rw [List.length_take]; omega)]
theorem After.lies {n : Nat} {d : DS} {ta : JS} {failed : List (List ByteArray)} {da d' : DS} (h : After n d ta failed da d') (hu : Up n da ta) : Lies ta d'.blocks := by
  refine hu.lies.of (take_ext fun q hq => ?_)
  rcases h.mix with ⟨_, e⟩ | ⟨g, _, _, hm⟩
  · rw [e]
  · rcases hm q with e | ⟨j, _, e, _⟩
    · exact e
    · omega
end Go.Proofs.Ythkjkhffljlidaa.Jo
