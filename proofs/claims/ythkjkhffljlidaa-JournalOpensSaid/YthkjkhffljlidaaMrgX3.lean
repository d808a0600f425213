/- JCb JU DiskPlain KitKeep: texts laid together. -/
import Derived.Test.YthkjkhffljlidaaMrgX2
import Derived.Test.YthkjkhffljlidaaMrgE0
import Derived.Maps.OwnSet
set_option maxRecDepth 100000
set_option maxHeartbeats 64000000
/- The journal: whether a block continues it, in the reference. -/
namespace Go.Proofs.Ythkjkhffljlidaa.Jo
set_option linter.unusedVariables false
set_option linter.unusedSimpArgs false
open Go.RowKit Go.Proofs.Ythkjkhffljlidaa.Ev
variable {gl : List (Nat × List CV)}
section
variable {P : Program} {X : List Oper → St → Prop} {rest : List Oper} {d : Nat} {ty : TypeId} {pos : String} {af : Array Edge} {n : Nat} {env : List (Nat × AV)} {heap : List (Nat × Option AB)} {nx : Nat} {gl : List (Nat × List CV)}
theorem r_index_v [W : Walk P X] {x y : Operand} {t : TypeId} {s : ByteArray} {kk : IntKind} {idx : Int} [I : StrTy P t] (k c : Nat) (hx : St.ev ⟨n, env, heap, nx, gl⟩ x = some (.c (.v (.string s)))) (hy : St.ev ⟨n, env, heap, nx, gl⟩ y = some (.c (.v (.int kk idx)))) (hk : idx = (k : Int)) (hlt : k < s.size) (hc : byt s k = c) (hd : Nat.blt d n = true) (h : X rest ⟨n, (d, .c (.v (.int .u8 (c : Int)))) :: env, heap, nx, gl⟩) : X (⟨some d, .index t x y, ty, pos, af, none⟩ :: rest) ⟨n, env, heap, nx, gl⟩ := by
  subst hc; exact r_index_s k hx hy hk hlt hd h
theorem r_eqlv [W : Walk P X] {x y : Operand} {t t2 : TypeId} {k : IntKind} {a b : Int} (v : Bool) (hx : St.ev ⟨n, env, heap, nx, gl⟩ x = some (.c (.v (.int k a)))) (hy : St.ev ⟨n, env, heap, nx, gl⟩ y = some (.c (.v (.int k b)))) (hv : decide (a = b) = v) (hd : Nat.blt d n = true) (h : X rest ⟨n, (d, .c (.v (.bool v))) :: env, heap, nx, gl⟩) : X (⟨some d, .binOp .eql t x y t2, ty, pos, af, none⟩ :: rest) ⟨n, env, heap, nx, gl⟩ := by
  subst hv; exact r_eql hx hy hd h
theorem r_neqstr_v [W : Walk P X] {x y : Operand} {t t2 : TypeId} {a b : ByteArray} (v : Bool) (hx : St.ev ⟨n, env, heap, nx, gl⟩ x = some (.c (.v (.string a)))) (hy : St.ev ⟨n, env, heap, nx, gl⟩ y = some (.c (.v (.string b)))) (hv : (a.toList == b.toList) = v) (hd : Nat.blt d n = true) (h : X rest ⟨n, (d, .c (.v (.bool (!v)))) :: env, heap, nx, gl⟩) : X (⟨some d, .binOp .neq t x y t2, ty, pos, af, none⟩ :: rest) ⟨n, env, heap, nx, gl⟩ := by
  subst hv; exact r_neqstr hx hy hd h
end
theorem u8_eq {a b : UInt8} (h : a.toNat = b.toNat) : a = b := UInt8.toNat_inj.1 h
theorem byt_get {s : ByteArray} {k : Nat} (h : k < s.data.toList.length) : byt s k = (s.data.toList[k]).toNat := by
  unfold byt
  rw [List.getD_eq_getElem?_getD, List.getElem?_eq_getElem h]; rfl
theorem rest_iff {r : ByteArray} {m : UInt8} {n : Nat} (h3 : 3 ≤ r.size) (hn : n ≤ 99) (h0 : byt r 0 = m.toNat) : r = restN m n (r.extract 3 r.size) ↔ byt r 1 = 48 + n / 10 ∧ byt r 2 = 48 + n % 10 := by
  have hl : 3 ≤ r.data.toList.length := by rw [ba_size]; exact h3
  have e : r.data.toList = r.data.toList[0] :: r.data.toList[1] :: r.data.toList[2] :: (r.extract 3 r.size).data.toList := by
    rw [ba_ext, List.take_of_length_le (by rw [ba_size]; omega)]
    rw [← List.drop_eq_getElem_cons (i := 2) (by omega), ← List.drop_eq_getElem_cons (i := 1) (by omega), ← List.drop_eq_getElem_cons (i := 0) (by omega), List.drop_zero]
  have n1 : (UInt8.ofNat (48 + n / 10)).toNat = 48 + n / 10 := by simp; omega
  have n2 : (UInt8.ofNat (48 + n % 10)).toNat = 48 + n % 10 := by simp; omega
  constructor
  · intro h
    have := congrArg (fun s : ByteArray => s.data.toList) h
    unfold restN at this
    simp only [ba_app] at this
    rw [e] at this
    simp only [List.cons_append, List.nil_append, List.cons.injEq] at this
    obtain ⟨_, b, c, _⟩ := this
    rw [byt_get (by omega), byt_get (by omega), b, c, n1, n2]
    exact ⟨rfl, rfl⟩
  · rintro ⟨h1, h2⟩
    apply ba_eq
    unfold restN
    rw [ba_app]
    rw [byt_get (by omega)] at h0 h1 h2
    conv => lhs; rw [e]
    rw [u8_eq h0, u8_eq (h1.trans n1.symm), u8_eq (h2.trans n2.symm)]
    rfl
theorem continues_con (prev : Nat) (hp : prev < 2 ^ 64) (b : ByteArray) (hb : b.size ≤ 1000000) : Con Try.prog gl 22 [U prev, STR b] (conV prev b) := by
  by_cases hs : 19 < b.size ∧ b.size ≤ 64
  rotate_left
  · rw [conV_none (fun h => hs ⟨h.1, h.2.1⟩)]
    refine con_of Try.func22 rfl (by kernel_rfl) rfl ?_
    simp only [Try.ntmps22, Try.results22, argEnv, ofC, of1, List.map]
    by_cases h1 : 19 < b.size
    all_goals
      have h2 : 19 < b.size → ¬ b.size ≤ 64 := fun x y => hs ⟨x, y⟩
      repeat' (first
 | ((with_reducible apply r_len_s); exact rfl; exact rfl)
 | ((with_reducible apply aw_seq))
 | ((with_reducible apply aw_region))
 | ((with_reducible apply thn_normal))
 | ((with_reducible apply thn_ret))
 | ((with_reducible apply aw_ret))
 | ((with_reducible apply ao_nil))
 | ((with_reducible apply r_move); exact rfl; exact rfl)
 | ((with_reducible apply r_assign); exact rfl; exact rfl)
 | ((with_reducible apply r_leq); exact rfl; exact rfl; exact rfl)
 | ((with_reducible apply r_gtr); exact rfl; exact rfl; exact rfl)
 | ((with_reducible apply r_pick_t); exact rfl; exact rfl; exact rfl)
 | ((with_reducible apply r_pick_f); exact rfl; exact rfl; exact rfl)
 | (((with_reducible apply r_guard); exact rfl; exact rfl; exact rfl; exact rfl) <;> intro hg <;> (first | (exact absurd hg (by decide)) | ((try simp only [decide_eq_true_eq, decide_eq_false_iff_not, Bool.not_eq_true', Bool.not_eq_false', Bool.not_true, Bool.not_false, Bool.not_not, Int.not_lt, Int.not_le, Nat.not_lt, Nat.not_le, gt_iff_lt, ge_iff_le, List.cons.injEq, and_true] at hg); first | (exact absurd trivial hg) | (exfalso; omega) | (have hT : True := hg; clear hT hg) | skip)))
 | (((with_reducible apply aw_cond); exact rfl) <;> intro hg <;> (first | (exact absurd hg (by decide)) | ((try simp only [decide_eq_true_eq, decide_eq_false_iff_not, Bool.not_eq_true', Bool.not_eq_false', Bool.not_true, Bool.not_false, Bool.not_not, Int.not_lt, Int.not_le, Nat.not_lt, Nat.not_le, gt_iff_lt, ge_iff_le, List.cons.injEq, and_true] at hg); first | (exact absurd trivial hg) | (exfalso; omega) | (have hT : True := hg; clear hT hg) | skip)))
 )
      all_goals exact ret2 (.cons (.tmp rfl cl_c) (.cons (.tmp rfl cl_c) (.cons (.tmp rfl cl_c) .nil)))
  obtain ⟨hs1, hs2⟩ := hs
  have hz : (b.extract 0 16).size = 16 := by rw [ByteArray.size_extract]; omega
  have c0 := rnumber_con (gl := gl) (b.extract 0 16) (by omega)
  have hnb := numS_bd (b.extract 0 16)
  have hS := conV_some (prev := prev) (b := b)
  have hN := conV_none (prev := prev) (b := b)
  unfold Cont at hS hN
  generalize numS (b.extract 0 16) = v at c0 hnb hS hN
  obtain ⟨q, e⟩ := v
  dsimp only at c0 hnb hS hN
  have hrs : (b.extract 16 b.size).size = b.size - 16 := by rw [ByteArray.size_extract]; omega
  have f0 : byt (b.extract 16 b.size) 0 = byt b 16 := byt_ext (by omega)
  have f1 : byt (b.extract 16 b.size) 1 = byt b 17 := byt_ext (by omega)
  have f2 : byt (b.extract 16 b.size) 2 = byt b 18 := byt_ext (by omega)
  have g0 := byt_lt b 16
  by_cases he : e = 0
  rotate_left
  · rw [hN (fun h => he h.2.2.1)]
    refine con_of Try.func22 rfl (by kernel_rfl) rfl ?_
    simp only [Try.ntmps22, Try.results22, argEnv, ofC, of1, List.map]
    repeat' (first
 | ((with_reducible apply r_len_s); exact rfl; exact rfl)
 | ((with_reducible apply (r_call (f := 52))); exact rfl; exact rfl; exact c0; exact rfl; exact rfl)
 | ((with_reducible apply (r_cutTo 16)); exact rfl; exact rfl; exact rfl; exact (by omega); exact rfl)
 | ((with_reducible apply (r_cutFrom 16)); exact rfl; exact rfl; exact rfl; exact (by omega); exact rfl)
 | ((with_reducible apply (r_index_v 0)); exact rfl; exact rfl; exact rfl; exact (by omega); exact f0; exact rfl)
 | ((with_reducible apply aw_seq))
 | ((with_reducible apply aw_region))
 | ((with_reducible apply thn_normal))
 | ((with_reducible apply thn_ret))
 | ((with_reducible apply aw_skip))
 | ((with_reducible apply aw_ret))
 | ((with_reducible apply ao_nil))
 | ((with_reducible apply r_move); exact rfl; exact rfl)
 | ((with_reducible apply r_assign); exact rfl; exact rfl)
 | ((with_reducible apply r_leq); exact rfl; exact rfl; exact rfl)
 | ((with_reducible apply r_gtr); exact rfl; exact rfl; exact rfl)
 | ((with_reducible apply r_eql); exact rfl; exact rfl; exact rfl)
 | ((with_reducible apply r_neq); exact rfl; exact rfl; exact rfl)
 | ((with_reducible apply r_pick_t); exact rfl; exact rfl; exact rfl)
 | ((with_reducible apply r_pick_f); exact rfl; exact rfl; exact rfl)
 | ((with_reducible apply r_extract); exact rfl; exact rfl; exact rfl)
 | (((with_reducible apply r_guard); exact rfl; exact rfl; exact rfl; exact rfl) <;> intro hg <;> (first | (exact absurd hg (by decide)) | ((try simp only [decide_eq_true_eq, decide_eq_false_iff_not, Bool.not_eq_true', Bool.not_eq_false', Bool.not_true, Bool.not_false, Bool.not_not, Int.not_lt, Int.not_le, Nat.not_lt, Nat.not_le, gt_iff_lt, ge_iff_le, List.cons.injEq, and_true] at hg); first | (exact absurd trivial hg) | (exfalso; omega) | (have hT : True := hg; clear hT hg) | skip)))
 | ((with_reducible apply r_guard_none); exact rfl; exact rfl; exact rfl; exact rfl)
 | (((with_reducible apply aw_cond); exact rfl) <;> intro hg <;> (first | (exact absurd hg (by decide)) | ((try simp only [decide_eq_true_eq, decide_eq_false_iff_not, Bool.not_eq_true', Bool.not_eq_false', Bool.not_true, Bool.not_false, Bool.not_not, Int.not_lt, Int.not_le, Nat.not_lt, Nat.not_le, gt_iff_lt, ge_iff_le, List.cons.injEq, and_true] at hg); first | (exact absurd trivial hg) | (exfalso; omega) | (have hT : True := hg; clear hT hg) | skip)))
 )
    all_goals exact ret2 (.cons (.tmp rfl cl_c) (.cons (.tmp rfl cl_c) (.cons (.tmp rfl cl_c) .nil)))
  subst he
  by_cases hm : byt b 16 = 46 ∨ byt b 16 = 43
  rotate_left
  · rw [hN (fun h => hm h.2.2.2.1)]
    have hm1 : byt b 16 ≠ 46 := fun h => hm (.inl h)
    have hm2 : byt b 16 ≠ 43 := fun h => hm (.inr h)
    refine con_of Try.func22 rfl (by kernel_rfl) rfl ?_
    simp only [Try.ntmps22, Try.results22, argEnv, ofC, of1, List.map]
    repeat' (first
 | ((with_reducible apply r_len_s); exact rfl; exact rfl)
 | ((with_reducible apply (r_call (f := 52))); exact rfl; exact rfl; exact c0; exact rfl; exact rfl)
 | ((with_reducible apply (r_cutTo 16)); exact rfl; exact rfl; exact rfl; exact (by omega); exact rfl)
 | ((with_reducible apply (r_cutFrom 16)); exact rfl; exact rfl; exact rfl; exact (by omega); exact rfl)
 | ((with_reducible apply (r_index_v 0)); exact rfl; exact rfl; exact rfl; exact (by omega); exact f0; exact rfl)
 | ((with_reducible apply aw_seq))
 | ((with_reducible apply aw_region))
 | ((with_reducible apply thn_normal))
 | ((with_reducible apply thn_ret))
 | ((with_reducible apply aw_skip))
 | ((with_reducible apply aw_ret))
 | ((with_reducible apply ao_nil))
 | ((with_reducible apply r_move); exact rfl; exact rfl)
 | ((with_reducible apply r_assign); exact rfl; exact rfl)
 | ((with_reducible apply r_leq); exact rfl; exact rfl; exact rfl)
 | ((with_reducible apply r_gtr); exact rfl; exact rfl; exact rfl)
 | ((with_reducible apply r_eql); exact rfl; exact rfl; exact rfl)
 | ((with_reducible apply r_neq); exact rfl; exact rfl; exact rfl)
 | ((with_reducible apply r_pick_t); exact rfl; exact rfl; exact rfl)
 | ((with_reducible apply r_pick_f); exact rfl; exact rfl; exact rfl)
 | ((with_reducible apply r_not); exact rfl; exact rfl)
 | ((with_reducible apply r_extract); exact rfl; exact rfl; exact rfl)
 | (((with_reducible apply r_guard); exact rfl; exact rfl; exact rfl; exact rfl) <;> intro hg <;> (first | (exact absurd hg (by decide)) | ((try simp only [decide_eq_true_eq, decide_eq_false_iff_not, Bool.not_eq_true', Bool.not_eq_false', Bool.not_true, Bool.not_false, Bool.not_not, Int.not_lt, Int.not_le, Nat.not_lt, Nat.not_le, gt_iff_lt, ge_iff_le, List.cons.injEq, and_true] at hg); first | (exact absurd trivial hg) | (exfalso; omega) | (have hT : True := hg; clear hT hg) | skip)))
 | (((with_reducible apply aw_cond); exact rfl) <;> intro hg <;> (first | (exact absurd hg (by decide)) | ((try simp only [decide_eq_true_eq, decide_eq_false_iff_not, Bool.not_eq_true', Bool.not_eq_false', Bool.not_true, Bool.not_false, Bool.not_not, Int.not_lt, Int.not_le, Nat.not_lt, Nat.not_le, gt_iff_lt, ge_iff_le, List.cons.injEq, and_true] at hg); first | (exact absurd trivial hg) | (exfalso; omega) | (have hT : True := hg; clear hT hg) | skip)))
 )
    all_goals exact ret2 (.cons (.tmp rfl cl_c) (.cons (.tmp rfl cl_c) (.cons (.tmp rfl cl_c) .nil)))
  have hps : ((b.extract 16 b.size).extract 3 (b.extract 16 b.size).size).size = b.size - 19 := by rw [ext_ext, ByteArray.size_extract]; omega
  have c3 := rchain_con (gl := gl) prev hp (b.extract 16 b.size) (by omega)
  have hcl := chainS_lt prev (b.extract 16 b.size)
  have key : ∀ (last : Bool) (m : Nat), byt b 16 = m → m = (bif last then 46 else 43) → m = (markB last).toNat → decide (m = 46) = last → Con Try.prog gl 22 [U prev, STR b] (conV prev b) := by
    intro last m hbm hm4 hml hl
    have hli : decide (((m : Nat) : Int) = 46) = last := by
      rw [← hl]
      by_cases h : m = 46
      · rw [decide_eq_true h, decide_eq_true (by omega)]
      · rw [decide_eq_false h, decide_eq_false (by omega)]
    rw [hbm] at f0
    have c1 := rest_con (gl := gl) ((b.extract 16 b.size).extract 3 (b.extract 16 b.size).size) last (by omega)
    rw [hps] at c1
    have hiff := rest_iff (r := b.extract 16 b.size) (m := markB last) (n := b.size - 19) (by omega) (by omega) (f0.trans hml)
    rw [f1, f2] at hiff
    generalize restN (markB last) (b.size - 19) ((b.extract 16 b.size).extract 3 (b.extract 16 b.size).size) = R at c1 hiff
    obtain ⟨ok, hok⟩ : ∃ ok, ((b.extract 16 b.size).toList == R.toList) = ok := ⟨_, rfl⟩
    have hokd : ok = decide (byt b 17 = 48 + (b.size - 19) / 10 ∧ byt b 18 = 48 + (b.size - 19) % 10) := by
      rw [← hok]
      by_cases hd : byt b 17 = 48 + (b.size - 19) / 10 ∧ byt b 18 = 48 + (b.size - 19) % 10
      · rw [decide_eq_true hd, ← hiff.2 hd]; simp
      · rw [decide_eq_false hd, ByteArray.toList_eq, ByteArray.toList_eq, beq_eq_false_iff_ne]
        exact fun h => hd (hiff.1 (ba_eq h))
    clear hiff
    by_cases hd : byt b 17 = 48 + (b.size - 19) / 10 ∧ byt b 18 = 48 + (b.size - 19) % 10
    rotate_left
    · rw [hN (fun h => hd ⟨h.2.2.2.2.1, h.2.2.2.2.2.1⟩)]
      rw [decide_eq_false hd] at hokd
      rw [hokd] at hok
      clear hS hN hd f1 f2
      refine con_of Try.func22 rfl (by kernel_rfl) rfl ?_
      simp only [Try.ntmps22, Try.results22, argEnv, ofC, of1, List.map]
      cases last
      all_goals
        first | (obtain rfl : m = 43 := hm4) | (obtain rfl : m = 46 := hm4)
        repeat' (first
 | ((with_reducible apply r_eqlv); exact rfl; exact rfl; exact hli; exact rfl)
 | ((with_reducible apply r_neqstr_v); exact rfl; exact rfl; exact hok; exact rfl)
 | ((with_reducible apply r_len_s); exact rfl; exact rfl)
 | ((with_reducible apply (r_call (f := 52))); exact rfl; exact rfl; exact c0; exact rfl; exact rfl)
 | ((with_reducible apply (r_call (f := 45))); exact rfl; exact rfl; exact c1; exact rfl; exact rfl)
 | ((with_reducible apply (r_call (f := 46))); exact rfl; exact rfl; exact c3; exact rfl; exact rfl)
 | ((with_reducible apply (r_cutTo 16)); exact rfl; exact rfl; exact rfl; exact (by omega); exact rfl)
 | ((with_reducible apply (r_cutFrom 16)); exact rfl; exact rfl; exact rfl; exact (by omega); exact rfl)
 | ((with_reducible apply (r_cutFrom 3)); exact rfl; exact rfl; exact rfl; exact (by omega); exact rfl)
 | ((with_reducible apply (r_index_v 0)); exact rfl; exact rfl; exact rfl; exact (by omega); exact f0; exact rfl)
 | ((with_reducible apply aw_seq))
 | ((with_reducible apply aw_region))
 | ((with_reducible apply thn_normal))
 | ((with_reducible apply thn_ret))
 | ((with_reducible apply aw_skip))
 | ((with_reducible apply aw_ret))
 | ((with_reducible apply ao_nil))
 | ((with_reducible apply r_move); exact rfl; exact rfl)
 | ((with_reducible apply r_assign); exact rfl; exact rfl)
 | ((with_reducible apply r_leq); exact rfl; exact rfl; exact rfl)
 | ((with_reducible apply r_gtr); exact rfl; exact rfl; exact rfl)
 | ((with_reducible apply r_neq); exact rfl; exact rfl; exact rfl)
 | ((with_reducible apply r_pick_t); exact rfl; exact rfl; exact rfl)
 | ((with_reducible apply r_pick_f); exact rfl; exact rfl; exact rfl)
 | ((with_reducible apply r_not); exact rfl; exact rfl)
 | ((with_reducible apply r_extract); exact rfl; exact rfl; exact rfl)
 | (((with_reducible apply r_guard); exact rfl; exact rfl; exact rfl; exact rfl) <;> intro hg <;> (first | (exact absurd hg (by decide)) | ((try simp only [decide_eq_true_eq, decide_eq_false_iff_not, Bool.not_eq_true', Bool.not_eq_false', Bool.not_true, Bool.not_false, Bool.not_not, Int.not_lt, Int.not_le, Nat.not_lt, Nat.not_le, gt_iff_lt, ge_iff_le, List.cons.injEq, and_true] at hg); first | (exact absurd trivial hg) | (exfalso; omega) | (have hT : True := hg; clear hT hg) | skip)))
 | (((with_reducible apply aw_cond); exact rfl) <;> intro hg <;> (first | (exact absurd hg (by decide)) | ((try simp only [decide_eq_true_eq, decide_eq_false_iff_not, Bool.not_eq_true', Bool.not_eq_false', Bool.not_true, Bool.not_false, Bool.not_not, Int.not_lt, Int.not_le, Nat.not_lt, Nat.not_le, gt_iff_lt, ge_iff_le, List.cons.injEq, and_true] at hg); first | (exact absurd trivial hg) | (exfalso; omega) | (have hT : True := hg; clear hT hg) | skip)))
 )
        all_goals exact ret2 (.cons (.tmp rfl cl_c) (.cons (.tmp rfl cl_c) (.cons (.tmp rfl cl_c) .nil)))
    rw [decide_eq_true hd] at hokd
    rw [hokd] at hok
    by_cases hh : q = chainS prev (b.extract 16 b.size)
    · have hS := hS ⟨hs1, hs2, rfl, hm, hd.1, hd.2, hh⟩
      rw [hbm, hl] at hS
      rw [hS]
      rw [← hh] at c3
      clear hS hN hd f1 f2
      refine con_of Try.func22 rfl (by kernel_rfl) rfl ?_
      simp only [Try.ntmps22, Try.results22, argEnv, ofC, of1, List.map]
      cases last
      all_goals
        first | (obtain rfl : m = 43 := hm4) | (obtain rfl : m = 46 := hm4)
        repeat' (first
 | ((with_reducible apply r_eqlv); exact rfl; exact rfl; exact hli; exact rfl)
 | ((with_reducible apply r_neqstr_v); exact rfl; exact rfl; exact hok; exact rfl)
 | ((with_reducible apply r_len_s); exact rfl; exact rfl)
 | ((with_reducible apply (r_call (f := 52))); exact rfl; exact rfl; exact c0; exact rfl; exact rfl)
 | ((with_reducible apply (r_call (f := 45))); exact rfl; exact rfl; exact c1; exact rfl; exact rfl)
 | ((with_reducible apply (r_call (f := 46))); exact rfl; exact rfl; exact c3; exact rfl; exact rfl)
 | ((with_reducible apply (r_cutTo 16)); exact rfl; exact rfl; exact rfl; exact (by omega); exact rfl)
 | ((with_reducible apply (r_cutFrom 16)); exact rfl; exact rfl; exact rfl; exact (by omega); exact rfl)
 | ((with_reducible apply (r_cutFrom 3)); exact rfl; exact rfl; exact rfl; exact (by omega); exact rfl)
 | ((with_reducible apply (r_index_v 0)); exact rfl; exact rfl; exact rfl; exact (by omega); exact f0; exact rfl)
 | ((with_reducible apply aw_seq))
 | ((with_reducible apply aw_region))
 | ((with_reducible apply thn_normal))
 | ((with_reducible apply aw_skip))
 | ((with_reducible apply aw_ret))
 | ((with_reducible apply ao_nil))
 | ((with_reducible apply r_move); exact rfl; exact rfl)
 | ((with_reducible apply r_assign); exact rfl; exact rfl)
 | ((with_reducible apply r_leq); exact rfl; exact rfl; exact rfl)
 | ((with_reducible apply r_gtr); exact rfl; exact rfl; exact rfl)
 | ((with_reducible apply r_neq); exact rfl; exact rfl; exact rfl)
 | ((with_reducible apply r_pick_t); exact rfl; exact rfl; exact rfl)
 | ((with_reducible apply r_pick_f); exact rfl; exact rfl; exact rfl)
 | ((with_reducible apply r_not); exact rfl; exact rfl)
 | ((with_reducible apply r_extract); exact rfl; exact rfl; exact rfl)
 | (((with_reducible apply r_guard); exact rfl; exact rfl; exact rfl; exact rfl) <;> intro hg <;> (first | (exact absurd hg (by decide)) | ((try simp only [decide_eq_true_eq, decide_eq_false_iff_not, Bool.not_eq_true', Bool.not_eq_false', Bool.not_true, Bool.not_false, Bool.not_not, Int.not_lt, Int.not_le, Nat.not_lt, Nat.not_le, gt_iff_lt, ge_iff_le, List.cons.injEq, and_true] at hg); first | (exact absurd trivial hg) | (exfalso; omega) | (have hT : True := hg; clear hT hg) | skip)))
 | (((with_reducible apply aw_cond); exact rfl) <;> intro hg <;> (first | (exact absurd hg (by decide)) | ((try simp only [decide_eq_true_eq, decide_eq_false_iff_not, Bool.not_eq_true', Bool.not_eq_false', Bool.not_true, Bool.not_false, Bool.not_not, Int.not_lt, Int.not_le, Nat.not_lt, Nat.not_le, gt_iff_lt, ge_iff_le, List.cons.injEq, and_true] at hg); first | (exact absurd trivial hg) | (exfalso; omega) | (have hT : True := hg; clear hT hg) | skip)))
 )
        all_goals exact ret2 (.cons (.tmp rfl cl_c) (.cons (.tmp rfl cl_c) (.cons (.tmp rfl cl_c) .nil)))
    · rw [hN (fun h => hh h.2.2.2.2.2.2)]
      clear hS hN hd f1 f2
      refine con_of Try.func22 rfl (by kernel_rfl) rfl ?_
      simp only [Try.ntmps22, Try.results22, argEnv, ofC, of1, List.map]
      cases last
      all_goals
        first | (obtain rfl : m = 43 := hm4) | (obtain rfl : m = 46 := hm4)
        repeat' (first
 | ((with_reducible apply r_eqlv); exact rfl; exact rfl; exact hli; exact rfl)
 | ((with_reducible apply r_neqstr_v); exact rfl; exact rfl; exact hok; exact rfl)
 | ((with_reducible apply r_len_s); exact rfl; exact rfl)
 | ((with_reducible apply (r_call (f := 52))); exact rfl; exact rfl; exact c0; exact rfl; exact rfl)
 | ((with_reducible apply (r_call (f := 45))); exact rfl; exact rfl; exact c1; exact rfl; exact rfl)
 | ((with_reducible apply (r_call (f := 46))); exact rfl; exact rfl; exact c3; exact rfl; exact rfl)
 | ((with_reducible apply (r_cutTo 16)); exact rfl; exact rfl; exact rfl; exact (by omega); exact rfl)
 | ((with_reducible apply (r_cutFrom 16)); exact rfl; exact rfl; exact rfl; exact (by omega); exact rfl)
 | ((with_reducible apply (r_cutFrom 3)); exact rfl; exact rfl; exact rfl; exact (by omega); exact rfl)
 | ((with_reducible apply (r_index_v 0)); exact rfl; exact rfl; exact rfl; exact (by omega); exact f0; exact rfl)
 | ((with_reducible apply aw_seq))
 | ((with_reducible apply aw_region))
 | ((with_reducible apply thn_normal))
 | ((with_reducible apply thn_ret))
 | ((with_reducible apply aw_skip))
 | ((with_reducible apply aw_ret))
 | ((with_reducible apply ao_nil))
 | ((with_reducible apply r_move); exact rfl; exact rfl)
 | ((with_reducible apply r_assign); exact rfl; exact rfl)
 | ((with_reducible apply r_leq); exact rfl; exact rfl; exact rfl)
 | ((with_reducible apply r_gtr); exact rfl; exact rfl; exact rfl)
 | ((with_reducible apply r_neq); exact rfl; exact rfl; exact rfl)
 | ((with_reducible apply r_pick_t); exact rfl; exact rfl; exact rfl)
 | ((with_reducible apply r_pick_f); exact rfl; exact rfl; exact rfl)
 | ((with_reducible apply r_not); exact rfl; exact rfl)
 | ((with_reducible apply r_extract); exact rfl; exact rfl; exact rfl)
 | (((with_reducible apply r_guard); exact rfl; exact rfl; exact rfl; exact rfl) <;> intro hg <;> (first | (exact absurd hg (by decide)) | ((try simp only [decide_eq_true_eq, decide_eq_false_iff_not, Bool.not_eq_true', Bool.not_eq_false', Bool.not_true, Bool.not_false, Bool.not_not, Int.not_lt, Int.not_le, Nat.not_lt, Nat.not_le, gt_iff_lt, ge_iff_le, List.cons.injEq, and_true] at hg); first | (exact absurd trivial hg) | (exfalso; omega) | (have hT : True := hg; clear hT hg) | skip)))
 | (((with_reducible apply aw_cond); exact rfl) <;> intro hg <;> (first | (exact absurd hg (by decide)) | ((try simp only [decide_eq_true_eq, decide_eq_false_iff_not, Bool.not_eq_true', Bool.not_eq_false', Bool.not_true, Bool.not_false, Bool.not_not, Int.not_lt, Int.not_le, Nat.not_lt, Nat.not_le, gt_iff_lt, ge_iff_le, List.cons.injEq, and_true] at hg); first | (exact absurd trivial hg) | (exfalso; omega) | (have hT : True := hg; clear hT hg) | skip)))
 )
        all_goals exact ret2 (.cons (.tmp rfl cl_c) (.cons (.tmp rfl cl_c) (.cons (.tmp rfl cl_c) .nil)))
  rcases hm with h | h
  · exact key true 46 h rfl rfl rfl
  · exact key false 43 h rfl rfl rfl
end Go.Proofs.Ythkjkhffljlidaa.Jo
/- The journal: the reference's reader, and the records of a stream. -/
namespace Go.Proofs.Ythkjkhffljlidaa.Jo
set_option linter.unusedVariables false
set_option linter.unusedSimpArgs false
open Go.RowKit Go.Proofs.Ythkjkhffljlidaa.Ev
variable {gl : List (Nat × List CV)}
abbrev rdV (s : ByteArray) (a : Nat) (e : Int) : CV := .agg [STR s, I a, I e]
theorem mul7 {i : Nat} (hi : i ≤ 8) : IntKind.u64.wrap (((128 ^ i : Nat) : Int) * 128) = ((128 ^ (i + 1) : Nat) : Int) := by
  have h : 128 ^ (i + 1) ≤ 128 ^ 9 := Nat.pow_le_pow_right (by omega) (by omega)
  have h9 : (128 : Nat) ^ 9 < 18446744073709551616 := by decide
  have e : ((128 ^ i : Nat) : Int) * 128 = ((128 ^ (i + 1) : Nat) : Int) := by rw [Nat.pow_succ]; push_cast; rfl
  rw [e]
  exact w64 (by omega)
theorem rnum_con (s : ByteArray) (a : Nat) (hs : s.size ≤ 1000000000000) (hat : a ≤ 1000000000000) : Con Try.prog gl 86 [STR s, I a] (.tup [U (vnum s a).1, I ((if (vnum s a).2.2 = 0 then (vnum s a).2.1 else a : Nat) : Int), I (vnum s a).2.2]) := by
  refine con_of Try.func86 rfl (by kernel_rfl) rfl ?_
  simp only [Try.ntmps86, Try.results86, argEnv, ofC, of1, List.map]
  repeat' (first
 | ((with_reducible apply aw_seq))
 | ((with_reducible apply aw_region))
 | ((with_reducible apply aw_block))
 | ((with_reducible apply thn_normal))
 | ((with_reducible apply ao_nil))
 | ((with_reducible apply r_assign); exact rfl; exact rfl)
 )
  refine aw_loopG (G := Nat × Nat × Nat) (fun ((i, n, u) : Nat × Nat × Nat) => i ≤ 9 ∧ n < 128 ^ i ∧ u = 128 ^ i ∧ vnum s a = vgo s a n i) (fun ((i, n, u) : Nat × Nat × Nat) => 10 - i) (fun ((i, n, u) : Nat × Nat × Nat) => [(0, .c (STR s)), (1, A a), (7, .c (U n)), (8, .c (U u)), (9, A i)]) (fun ((i, n, u) : Nat × Nat × Nat) => []) 0 (0, 0, 1) ?_ (by refine weak_mk rfl ?_ ?_ <;> repeat (first | exact envW_nil | exact heapW_nil | refine envW_cons rfl rfl ?_ | refine heapW_cons rfl rfl rfl ?_)) rfl ?_
  · exact ⟨Nat.zero_le _, by decide, rfl, rfl⟩
  rintro ⟨i, n, u⟩ hI
  try dsimp only at hI
  try dsimp only
  obtain ⟨h1, h2, hu, h3⟩ := hI
  by_cases hsh : s.size ≤ a + i
  · rw [h3, vgo_short h1 hsh]
    repeat' (first
 | ((with_reducible apply r_len_s); exact rfl; exact rfl)
 | ((with_reducible apply aw_seq))
 | ((with_reducible apply aw_region))
 | ((with_reducible apply aw_block))
 | ((with_reducible apply thn_normal))
 | ((with_reducible apply thn_ret))
 | ((with_reducible apply inb_ret))
 | ((with_reducible apply aw_skip))
 | ((with_reducible apply aw_ret))
 | ((with_reducible apply ao_nil))
 | ((with_reducible apply r_move); exact rfl; exact rfl)
 | ((with_reducible apply r_assign); exact rfl; exact rfl)
 | ((with_reducible apply r_lss); exact rfl; exact rfl; exact rfl)
 | ((with_reducible apply r_geq); exact rfl; exact rfl; exact rfl)
 | ((with_reducible apply r_add); exact rfl; exact rfl; exact (by first | assumption | (unfold fits; omega)); exact rfl)
 | (((with_reducible apply aw_cond); exact rfl) <;> intro hg <;> (first | (exact absurd hg (by decide)) | ((try simp only [decide_eq_true_eq, decide_eq_false_iff_not, Bool.not_eq_true', Bool.not_eq_false', Bool.not_true, Bool.not_false, Bool.not_not, Int.not_lt, Int.not_le, Nat.not_lt, Nat.not_le, gt_iff_lt, ge_iff_le, List.cons.injEq, and_true] at hg); first | (exact absurd trivial hg) | (exfalso; omega) | (have hT : True := hg; clear hT hg) | skip)))
 )
    all_goals exact ret2 (.cons (.tmp rfl cl_c) (.cons (.tmp rfl cl_c) (.cons (.tmp rfl cl_c) .nil)))
  have hc256 := byt_lt s (a + i)
  have hw := w64 (m := byt s (a + i)) (by omega)
  by_cases hb : i = 9 ∧ 1 < byt s (a + i)
  · rw [h3, vgo_big hsh hb.1 hb.2]
    obtain ⟨hb1, hb2⟩ := hb
    repeat' (first
 | ((with_reducible apply r_len_s); exact rfl; exact rfl)
 | ((with_reducible apply (r_index_n (a + i))); exact rfl; exact rfl; exact (by push_cast; rfl); exact (by omega); exact rfl)
 | ((with_reducible apply r_conv); exact rfl; exact hw; exact rfl)
 | ((with_reducible apply aw_seq))
 | ((with_reducible apply aw_region))
 | ((with_reducible apply aw_block))
 | ((with_reducible apply thn_normal))
 | ((with_reducible apply thn_ret))
 | ((with_reducible apply inb_ret))
 | ((with_reducible apply aw_skip))
 | ((with_reducible apply aw_ret))
 | ((with_reducible apply ao_nil))
 | ((with_reducible apply r_move); exact rfl; exact rfl)
 | ((with_reducible apply r_assign); exact rfl; exact rfl)
 | ((with_reducible apply r_lss); exact rfl; exact rfl; exact rfl)
 | ((with_reducible apply r_gtr); exact rfl; exact rfl; exact rfl)
 | ((with_reducible apply r_geq); exact rfl; exact rfl; exact rfl)
 | ((with_reducible apply r_eql); exact rfl; exact rfl; exact rfl)
 | ((with_reducible apply r_add); exact rfl; exact rfl; exact (by first | assumption | (unfold fits; omega)); exact rfl)
 | ((with_reducible apply r_pick_t); exact rfl; exact rfl; exact rfl)
 | (((with_reducible apply r_guard); exact rfl; exact rfl; exact rfl; exact rfl) <;> intro hg <;> (first | (exact absurd hg (by decide)) | ((try simp only [decide_eq_true_eq, decide_eq_false_iff_not, Bool.not_eq_true', Bool.not_eq_false', Bool.not_true, Bool.not_false, Bool.not_not, Int.not_lt, Int.not_le, Nat.not_lt, Nat.not_le, gt_iff_lt, ge_iff_le, List.cons.injEq, and_true] at hg); first | (exact absurd trivial hg) | (exfalso; omega) | (have hT : True := hg; clear hT hg) | skip)))
 | (((with_reducible apply aw_cond); exact rfl) <;> intro hg <;> (first | (exact absurd hg (by decide)) | ((try simp only [decide_eq_true_eq, decide_eq_false_iff_not, Bool.not_eq_true', Bool.not_eq_false', Bool.not_true, Bool.not_false, Bool.not_not, Int.not_lt, Int.not_le, Nat.not_lt, Nat.not_le, gt_iff_lt, ge_iff_le, List.cons.injEq, and_true] at hg); first | (exact absurd trivial hg) | (exfalso; omega) | (have hT : True := hg; clear hT hg) | skip)))
 )
    all_goals exact ret2 (.cons (.tmp rfl cl_c) (.cons (.tmp rfl cl_c) (.cons (.tmp rfl cl_c) .nil)))
  have h9 : i = 9 → byt s (a + i) % 128 ≤ 1 := fun h => by
    rcases Nat.lt_or_ge 1 (byt s (a + i)) with h' | h'
    · exact absurd ⟨h, h'⟩ hb
    · omega
  have hbb : i = 9 → byt s (a + i) ≤ 1 := fun h => by
    rcases Nat.lt_or_ge 1 (byt s (a + i)) with h' | h'
    · exact absurd ⟨h, h'⟩ hb
    · omega
  have hrem : ((byt s (a + i) : Nat) : Int).tmod 128 = ((byt s (a + i) % 128 : Nat) : Int) := by rw [Int.tmod_eq_emod_of_nonneg (by omega)]; omega
  have hlt := lt7 (c := byt s (a + i) % 128) h1 (by omega) h9
  have hm1 : IntKind.u64.wrap (((byt s (a + i) % 128 : Nat) : Int) * (u : Int)) = ((byt s (a + i) % 128 * 128 ^ i : Nat) : Int) := by
    rw [hu, ← Int.natCast_mul]; exact w64 hlt
  have hn' : n + byt s (a + i) % 128 * 128 ^ i < 128 ^ (i + 1) := by
    have hp : 128 ^ (i + 1) = 128 ^ i * 128 := Nat.pow_succ ..
    have hm : byt s (a + i) % 128 * 128 ^ i ≤ 127 * 128 ^ i := Nat.mul_le_mul_right _ (by omega)
    omega
  have hsum : n + byt s (a + i) % 128 * 128 ^ i < 18446744073709551616 := by
    have hor := or7 (n := n) (c := byt s (a + i) % 128) h1 (by omega) h9 h2
    by_cases h8 : i ≤ 8
    · have : 128 ^ (i + 1) ≤ 128 ^ 9 := Nat.pow_le_pow_right (by omega) (by omega)
      have e : (128 : Nat) ^ 9 < 18446744073709551616 := by decide
      omega
    · obtain rfl : i = 9 := by omega
      have e : (128 : Nat) ^ 9 = 9223372036854775808 := by decide
      have := h9 rfl
      have : byt s (a + 9) % 128 * 128 ^ 9 ≤ 1 * 128 ^ 9 := Nat.mul_le_mul_right _ this
      omega
  have ha1 : IntKind.u64.wrap ((n : Int) + ((byt s (a + i) % 128 * 128 ^ i : Nat) : Int)) = ((n + byt s (a + i) % 128 * 128 ^ i : Nat) : Int) := by
    rw [← Int.natCast_add]; exact w64 hsum
  obtain ⟨u', hu'⟩ : ∃ u', IntKind.u64.wrap ((u : Int) * 128) = u' := ⟨_, rfl⟩
  have hun : i ≤ 8 → u' = ((128 ^ (i + 1) : Nat) : Int) := fun h => by rw [← hu', hu]; exact mul7 h
  by_cases hc : 128 ≤ byt s (a + i)
  · have hi8 : i ≤ 8 := by
      rcases Nat.lt_or_ge i 9 with h | h
      · omega
      · have := hbb (by omega); omega
    rw [hun hi8] at hu'
    repeat' (first
 | ((with_reducible apply r_len_s); exact rfl; exact rfl)
 | ((with_reducible apply (r_index_n (a + i))); exact rfl; exact rfl; exact (by push_cast; rfl); exact (by omega); exact rfl)
 | ((with_reducible apply r_conv); exact rfl; exact hw; exact rfl)
 | ((with_reducible apply r_remv); exact rfl; exact rfl; exact (by decide); exact hrem; exact rfl)
 | ((with_reducible apply r_mulv); exact rfl; exact rfl; (first | exact hm1 | exact hu'); exact rfl)
 | ((with_reducible apply r_addv); exact rfl; exact rfl; exact ha1; exact rfl)
 | ((with_reducible apply aw_seq))
 | ((with_reducible apply aw_region))
 | ((with_reducible apply aw_block))
 | ((with_reducible apply thn_normal))
 | ((with_reducible apply inb_normal))
 | ((with_reducible apply aw_skip))
 | ((with_reducible apply ao_nil))
 | ((with_reducible apply r_move); exact rfl; exact rfl)
 | ((with_reducible apply r_assign); exact rfl; exact rfl)
 | ((with_reducible apply r_lss); exact rfl; exact rfl; exact rfl)
 | ((with_reducible apply r_geq); exact rfl; exact rfl; exact rfl)
 | ((with_reducible apply r_eql); exact rfl; exact rfl; exact rfl)
 | ((with_reducible apply r_add); exact rfl; exact rfl; exact (by first | assumption | (unfold fits; omega)); exact rfl)
 | ((with_reducible apply r_pick_f); exact rfl; exact rfl; exact rfl)
 | (((with_reducible apply r_guard); exact rfl; exact rfl; exact rfl; exact rfl) <;> intro hg <;> (first | (exact absurd hg (by decide)) | ((try simp only [decide_eq_true_eq, decide_eq_false_iff_not, Bool.not_eq_true', Bool.not_eq_false', Bool.not_true, Bool.not_false, Bool.not_not, Int.not_lt, Int.not_le, Nat.not_lt, Nat.not_le, gt_iff_lt, ge_iff_le, List.cons.injEq, and_true] at hg); first | (exact absurd trivial hg) | (exfalso; omega) | (have hT : True := hg; clear hT hg) | skip)))
 | (((with_reducible apply aw_cond); exact rfl) <;> intro hg <;> (first | (exact absurd hg (by decide)) | ((try simp only [decide_eq_true_eq, decide_eq_false_iff_not, Bool.not_eq_true', Bool.not_eq_false', Bool.not_true, Bool.not_false, Bool.not_not, Int.not_lt, Int.not_le, Nat.not_lt, Nat.not_le, gt_iff_lt, ge_iff_le, List.cons.injEq, and_true] at hg); first | (exact absurd trivial hg) | (exfalso; omega) | (have hT : True := hg; clear hT hg) | skip)))
 )
    refine ⟨(i + 1, n + byt s (a + i) % 128 * 128 ^ i, 128 ^ (i + 1)), ?_, ?_, by refine weak_mk rfl ?_ ?_ <;> repeat (first | exact envW_nil | exact heapW_nil | refine envW_cons rfl rfl ?_ | refine heapW_cons rfl rfl rfl ?_)⟩
    · show 10 - (i + 1) < 10 - i; omega
    · exact ⟨by show i + 1 ≤ 9; omega, hn', rfl, by rw [h3, vgo_next h1 hsh hb hc]⟩
  by_cases hz : byt s (a + i) = 0 ∧ 0 < i
  · rw [h3, vgo_zero h1 hsh hb hz.1 hz.2]
    obtain ⟨hz1, hz2⟩ := hz
    repeat' (first
 | ((with_reducible apply r_len_s); exact rfl; exact rfl)
 | ((with_reducible apply (r_index_n (a + i))); exact rfl; exact rfl; exact (by push_cast; rfl); exact (by omega); exact rfl)
 | ((with_reducible apply r_conv); exact rfl; exact hw; exact rfl)
 | ((with_reducible apply r_remv); exact rfl; exact rfl; exact (by decide); exact hrem; exact rfl)
 | ((with_reducible apply r_mulv); exact rfl; exact rfl; (first | exact hm1 | exact hu'); exact rfl)
 | ((with_reducible apply r_addv); exact rfl; exact rfl; exact ha1; exact rfl)
 | ((with_reducible apply aw_seq))
 | ((with_reducible apply aw_region))
 | ((with_reducible apply aw_block))
 | ((with_reducible apply thn_normal))
 | ((with_reducible apply thn_ret))
 | ((with_reducible apply inb_ret))
 | ((with_reducible apply aw_skip))
 | ((with_reducible apply aw_ret))
 | ((with_reducible apply ao_nil))
 | ((with_reducible apply r_move); exact rfl; exact rfl)
 | ((with_reducible apply r_assign); exact rfl; exact rfl)
 | ((with_reducible apply r_lss); exact rfl; exact rfl; exact rfl)
 | ((with_reducible apply r_gtr); exact rfl; exact rfl; exact rfl)
 | ((with_reducible apply r_geq); exact rfl; exact rfl; exact rfl)
 | ((with_reducible apply r_eql); exact rfl; exact rfl; exact rfl)
 | ((with_reducible apply r_add); exact rfl; exact rfl; exact (by first | assumption | (unfold fits; omega)); exact rfl)
 | ((with_reducible apply r_pick_t); exact rfl; exact rfl; exact rfl)
 | ((with_reducible apply r_pick_f); exact rfl; exact rfl; exact rfl)
 | (((with_reducible apply r_guard); exact rfl; exact rfl; exact rfl; exact rfl) <;> intro hg <;> (first | (exact absurd hg (by decide)) | ((try simp only [decide_eq_true_eq, decide_eq_false_iff_not, Bool.not_eq_true', Bool.not_eq_false', Bool.not_true, Bool.not_false, Bool.not_not, Int.not_lt, Int.not_le, Nat.not_lt, Nat.not_le, gt_iff_lt, ge_iff_le, List.cons.injEq, and_true] at hg); first | (exact absurd trivial hg) | (exfalso; omega) | (have hT : True := hg; clear hT hg) | skip)))
 | (((with_reducible apply aw_cond); exact rfl) <;> intro hg <;> (first | (exact absurd hg (by decide)) | ((try simp only [decide_eq_true_eq, decide_eq_false_iff_not, Bool.not_eq_true', Bool.not_eq_false', Bool.not_true, Bool.not_false, Bool.not_not, Int.not_lt, Int.not_le, Nat.not_lt, Nat.not_le, gt_iff_lt, ge_iff_le, List.cons.injEq, and_true] at hg); first | (exact absurd trivial hg) | (exfalso; omega) | (have hT : True := hg; clear hT hg) | skip)))
 )
    all_goals exact ret2 (.cons (.tmp rfl cl_c) (.cons (.tmp rfl cl_c) (.cons (.tmp rfl cl_c) .nil)))
  · rw [h3, vgo_end h1 hsh hb hc hz]
    by_cases hz1 : byt s (a + i) = 0
    all_goals
      have hi0 : byt s (a + i) = 0 → i = 0 := fun h => by
        rcases Nat.eq_zero_or_pos i with h' | h'
        · exact h'
        · exact absurd ⟨h, h'⟩ hz
      repeat' (first
 | ((with_reducible apply r_len_s); exact rfl; exact rfl)
 | ((with_reducible apply (r_index_n (a + i))); exact rfl; exact rfl; exact (by push_cast; rfl); exact (by omega); exact rfl)
 | ((with_reducible apply r_conv); exact rfl; exact hw; exact rfl)
 | ((with_reducible apply r_remv); exact rfl; exact rfl; exact (by decide); exact hrem; exact rfl)
 | ((with_reducible apply r_mulv); exact rfl; exact rfl; (first | exact hm1 | exact hu'); exact rfl)
 | ((with_reducible apply r_addv); exact rfl; exact rfl; exact ha1; exact rfl)
 | ((with_reducible apply aw_seq))
 | ((with_reducible apply aw_region))
 | ((with_reducible apply aw_block))
 | ((with_reducible apply thn_normal))
 | ((with_reducible apply thn_ret))
 | ((with_reducible apply inb_ret))
 | ((with_reducible apply aw_skip))
 | ((with_reducible apply aw_ret))
 | ((with_reducible apply ao_nil))
 | ((with_reducible apply r_move); exact rfl; exact rfl)
 | ((with_reducible apply r_assign); exact rfl; exact rfl)
 | ((with_reducible apply r_lss); exact rfl; exact rfl; exact rfl)
 | ((with_reducible apply r_gtr); exact rfl; exact rfl; exact rfl)
 | ((with_reducible apply r_geq); exact rfl; exact rfl; exact rfl)
 | ((with_reducible apply r_eql); exact rfl; exact rfl; exact rfl)
 | ((with_reducible apply r_add); exact rfl; exact rfl; exact (by first | assumption | (unfold fits; omega)); exact rfl)
 | ((with_reducible apply r_pick_t); exact rfl; exact rfl; exact rfl)
 | ((with_reducible apply r_pick_f); exact rfl; exact rfl; exact rfl)
 | (((with_reducible apply r_guard); exact rfl; exact rfl; exact rfl; exact rfl) <;> intro hg <;> (first | (exact absurd hg (by decide)) | ((try simp only [decide_eq_true_eq, decide_eq_false_iff_not, Bool.not_eq_true', Bool.not_eq_false', Bool.not_true, Bool.not_false, Bool.not_not, Int.not_lt, Int.not_le, Nat.not_lt, Nat.not_le, gt_iff_lt, ge_iff_le, List.cons.injEq, and_true] at hg); first | (exact absurd trivial hg) | (exfalso; omega) | (have hT : True := hg; clear hT hg) | skip)))
 | (((with_reducible apply aw_cond); exact rfl) <;> intro hg <;> (first | (exact absurd hg (by decide)) | ((try simp only [decide_eq_true_eq, decide_eq_false_iff_not, Bool.not_eq_true', Bool.not_eq_false', Bool.not_true, Bool.not_false, Bool.not_not, Int.not_lt, Int.not_le, Nat.not_lt, Nat.not_le, gt_iff_lt, ge_iff_le, List.cons.injEq, and_true] at hg); first | (exact absurd trivial hg) | (exfalso; omega) | (have hT : True := hg; clear hT hg) | skip)))
 )
      all_goals exact ret2 (.cons (.tmp rfl cl_c) (.cons (.tmp rfl (Or.inl (by rw [if_pos rfl]; push_cast; rfl))) (.cons (.tmp rfl cl_c) .nil)))
theorem rfail_con (s : ByteArray) (a : Nat) (e : Int) : Con Try.prog gl 87 [rdV s a 0, I e] (rdV s a e) := by
  refine con_of Try.func87 rfl (by kernel_rfl) rfl ?_
  simp only [Try.ntmps87, Try.results87, argEnv, ofC, of1, List.map]
  repeat' (first
 | ((with_reducible apply aw_seq))
 | ((with_reducible apply aw_region))
 | ((with_reducible apply thn_normal))
 | ((with_reducible apply aw_ret))
 | ((with_reducible apply ao_nil))
 | ((with_reducible apply r_move); exact rfl; exact rfl)
 | ((with_reducible apply r_field_p); exact rfl; exact rfl)
 | ((with_reducible apply r_load_pa); exact rfl; exact rfl; exact rfl; exact rfl; exact rfl)
 | ((with_reducible apply r_box_a); exact rfl; exact rfl)
 | ((with_reducible apply r_store_p); exact rfl; exact rfl; exact rfl; exact rfl; exact rfl; exact rfl)
 | ((with_reducible apply r_store_pa); exact rfl; exact rfl; exact rfl; exact rfl; exact rfl; exact rfl)
 | ((with_reducible apply r_alloc); exact rfl)
 )
  all_goals exact ret1 (.cell_a inferInstance rfl rfl rfl rfl (cl_cons cl_c (cl_cons cl_c (cl_cons cl_c cl_nil))))
theorem rnew_con (s : ByteArray) : Con Try.prog gl 75 [STR s] (rdV s 0 0) := by
  refine con_of Try.func75 rfl (by kernel_rfl) rfl ?_
  simp only [Try.ntmps75, Try.results75, argEnv, ofC, of1, List.map]
  repeat' (first
 | ((with_reducible apply aw_seq))
 | ((with_reducible apply aw_region))
 | ((with_reducible apply thn_normal))
 | ((with_reducible apply aw_ret))
 | ((with_reducible apply ao_nil))
 | ((with_reducible apply r_move); exact rfl; exact rfl)
 | ((with_reducible apply r_store_pa); exact rfl; exact rfl; exact rfl; exact rfl; exact rfl; exact rfl)
 | ((with_reducible apply r_build); exact rfl; exact rfl; exact rfl)
 | ((with_reducible apply r_alloc); exact rfl)
 )
  all_goals exact ret1 (.cell_a inferInstance rfl rfl rfl rfl (cl_cons cl_c (cl_cons cl_c (cl_cons cl_c cl_nil))))
theorem rleft_con (s : ByteArray) (a : Nat) (e : Int) (hs : s.size ≤ 1000000000000) (ha : a ≤ 1000000000000) : Con Try.prog gl 76 [rdV s a e] (I ((s.size : Int) - a)) := by
  refine con_of Try.func76 rfl (by kernel_rfl) rfl ?_
  simp only [Try.ntmps76, Try.results76, argEnv, ofC, of1, List.map]
  repeat' (first
 | ((with_reducible apply r_len_s); exact rfl; exact rfl)
 | ((with_reducible apply aw_seq))
 | ((with_reducible apply aw_region))
 | ((with_reducible apply thn_normal))
 | ((with_reducible apply aw_ret))
 | ((with_reducible apply ao_nil))
 | ((with_reducible apply r_assign); exact rfl; exact rfl)
 | ((with_reducible apply r_field_p); exact rfl; exact rfl)
 | ((with_reducible apply r_load_p); exact rfl; exact rfl; exact rfl; exact rfl)
 | ((with_reducible apply r_sub); exact rfl; exact rfl; exact (by first | assumption | (unfold fits; omega)); exact rfl)
 | ((with_reducible apply r_box_a); exact rfl; exact rfl)
 )
  all_goals exact ret1 (.tmp rfl cl_c)
theorem rread_con (s : ByteArray) (a : Nat) (hs : s.size ≤ 1000000000000) (ha : a ≤ s.size) : Con Try.prog gl 77 [rdV s a 0, I 16384] (.tup [rdV s (rtext s a).2.1 (rtext s a).2.2, STR (rtext s a).1]) := by
  have c0 := rnum_con (gl := gl) s a hs (by omega)
  obtain ⟨b1, b2, b3, b4⟩ := vnum_bd s a
  unfold rtext
  generalize vnum s a = v at c0 b1 b2 b3 b4
  obtain ⟨m, q, er⟩ := v
  dsimp only at *
  have hwm := w64 (m := 16384) (by omega)
  by_cases h1 : er = 0
  · subst h1
    rw [if_neg (by simp)]
    rw [if_pos rfl] at c0
    obtain ⟨b5, b6⟩ := b2 rfl
    by_cases h2 : 16384 < m
    · rw [if_pos h2]
      have c1 := rfail_con (gl := gl) s a 4
      refine con_of Try.func77 rfl (by kernel_rfl) rfl ?_
      simp only [Try.ntmps77, Try.results77, argEnv, ofC, of1, List.map]
      repeat' (first
 | ((with_reducible apply (r_call (f := 86))); exact rfl; exact rfl; exact c0; exact rfl; exact rfl)
 | ((with_reducible apply (r_call (f := 87))); exact rfl; exact rfl; exact c1; exact rfl; exact rfl)
 | ((with_reducible apply r_conv); exact rfl; exact hwm; exact rfl)
 | ((with_reducible apply aw_seq))
 | ((with_reducible apply aw_region))
 | ((with_reducible apply thn_normal))
 | ((with_reducible apply thn_ret))
 | ((with_reducible apply aw_skip))
 | ((with_reducible apply aw_ret))
 | ((with_reducible apply ao_nil))
 | ((with_reducible apply r_move); exact rfl; exact rfl)
 | ((with_reducible apply r_assign); exact rfl; exact rfl)
 | ((with_reducible apply r_field_p); exact rfl; exact rfl)
 | ((with_reducible apply r_load_p); exact rfl; exact rfl; exact rfl; exact rfl)
 | ((with_reducible apply r_load_pa); exact rfl; exact rfl; exact rfl; exact rfl; exact rfl)
 | ((with_reducible apply r_lss); exact rfl; exact rfl; exact rfl)
 | ((with_reducible apply r_gtr); exact rfl; exact rfl; exact rfl)
 | ((with_reducible apply r_neq); exact rfl; exact rfl; exact rfl)
 | ((with_reducible apply r_box_a); exact rfl; exact rfl)
 | ((with_reducible apply r_pick_f); exact rfl; exact rfl; exact rfl)
 | ((with_reducible apply r_store_pa); exact rfl; exact rfl; exact rfl; exact rfl; exact rfl; exact rfl)
 | ((with_reducible apply r_extract); exact rfl; exact rfl; exact rfl)
 | ((with_reducible apply r_alloc); exact rfl)
 | (((with_reducible apply r_guard); exact rfl; exact rfl; exact rfl; exact rfl) <;> intro hg <;> (first | (exact absurd hg (by decide)) | ((try simp only [decide_eq_true_eq, decide_eq_false_iff_not, Bool.not_eq_true', Bool.not_eq_false', Bool.not_true, Bool.not_false, Bool.not_not, Int.not_lt, Int.not_le, Nat.not_lt, Nat.not_le, gt_iff_lt, ge_iff_le, List.cons.injEq, and_true] at hg); first | (exact absurd trivial hg) | (exfalso; omega) | (have hT : True := hg; clear hT hg) | skip)))
 | (((with_reducible apply aw_cond); exact rfl) <;> intro hg <;> (first | (exact absurd hg (by decide)) | ((try simp only [decide_eq_true_eq, decide_eq_false_iff_not, Bool.not_eq_true', Bool.not_eq_false', Bool.not_true, Bool.not_false, Bool.not_not, Int.not_lt, Int.not_le, Nat.not_lt, Nat.not_le, gt_iff_lt, ge_iff_le, List.cons.injEq, and_true] at hg); first | (exact absurd trivial hg) | (exfalso; omega) | (have hT : True := hg; clear hT hg) | skip)))
 )
      all_goals exact ret2 (.cons (.cell_a inferInstance rfl rfl rfl rfl (cl_cons cl_c (cl_cons cl_c (cl_cons cl_c cl_nil)))) (.cons (.tmp rfl cl_c) .nil))
    · rw [if_neg h2]
      have hw : IntKind.u64.wrap ((s.size : Int) - (q : Int)) = ((s.size - q : Nat) : Int) := by
        rw [show ((s.size : Int) - (q : Int)) = ((s.size - q : Nat) : Int) by omega]
        exact w64 (by omega)
      by_cases h3 : s.size - q < m
      · rw [if_pos h3]
        have c1 := rfail_con (gl := gl) s a 3
        refine con_of Try.func77 rfl (by kernel_rfl) rfl ?_
        simp only [Try.ntmps77, Try.results77, argEnv, ofC, of1, List.map]
        repeat' (first
 | ((with_reducible apply (r_call (f := 86))); exact rfl; exact rfl; exact c0; exact rfl; exact rfl)
 | ((with_reducible apply (r_call (f := 87))); exact rfl; exact rfl; exact c1; exact rfl; exact rfl)
 | ((with_reducible apply r_len_s); exact rfl; exact rfl)
 | ((with_reducible apply r_conv); exact rfl; (first | exact hwm | exact hw); exact rfl)
 | ((with_reducible apply aw_seq))
 | ((with_reducible apply aw_region))
 | ((with_reducible apply thn_normal))
 | ((with_reducible apply thn_ret))
 | ((with_reducible apply aw_skip))
 | ((with_reducible apply aw_ret))
 | ((with_reducible apply ao_nil))
 | ((with_reducible apply r_move); exact rfl; exact rfl)
 | ((with_reducible apply r_assign); exact rfl; exact rfl)
 | ((with_reducible apply r_field_p); exact rfl; exact rfl)
 | ((with_reducible apply r_load_p); exact rfl; exact rfl; exact rfl; exact rfl)
 | ((with_reducible apply r_load_pa); exact rfl; exact rfl; exact rfl; exact rfl; exact rfl)
 | ((with_reducible apply r_lss); exact rfl; exact rfl; exact rfl)
 | ((with_reducible apply r_gtr); exact rfl; exact rfl; exact rfl)
 | ((with_reducible apply r_neq); exact rfl; exact rfl; exact rfl)
 | ((with_reducible apply r_sub); exact rfl; exact rfl; exact (by first | assumption | (unfold fits; omega)); exact rfl)
 | ((with_reducible apply r_box_a); exact rfl; exact rfl)
 | ((with_reducible apply r_pick_f); exact rfl; exact rfl; exact rfl)
 | ((with_reducible apply r_store_pa); exact rfl; exact rfl; exact rfl; exact rfl; exact rfl; exact rfl)
 | ((with_reducible apply r_extract); exact rfl; exact rfl; exact rfl)
 | ((with_reducible apply r_alloc); exact rfl)
 | (((with_reducible apply r_guard); exact rfl; exact rfl; exact rfl; exact rfl) <;> intro hg <;> (first | (exact absurd hg (by decide)) | ((try simp only [decide_eq_true_eq, decide_eq_false_iff_not, Bool.not_eq_true', Bool.not_eq_false', Bool.not_true, Bool.not_false, Bool.not_not, Int.not_lt, Int.not_le, Nat.not_lt, Nat.not_le, gt_iff_lt, ge_iff_le, List.cons.injEq, and_true] at hg); first | (exact absurd trivial hg) | (exfalso; omega) | (have hT : True := hg; clear hT hg) | skip)))
 | (((with_reducible apply aw_cond); exact rfl) <;> intro hg <;> (first | (exact absurd hg (by decide)) | ((try simp only [decide_eq_true_eq, decide_eq_false_iff_not, Bool.not_eq_true', Bool.not_eq_false', Bool.not_true, Bool.not_false, Bool.not_not, Int.not_lt, Int.not_le, Nat.not_lt, Nat.not_le, gt_iff_lt, ge_iff_le, List.cons.injEq, and_true] at hg); first | (exact absurd trivial hg) | (exfalso; omega) | (have hT : True := hg; clear hT hg) | skip)))
 )
        all_goals exact ret2 (.cons (.cell_a inferInstance rfl rfl rfl rfl (cl_cons cl_c (cl_cons cl_c (cl_cons cl_c cl_nil)))) (.cons (.tmp rfl cl_c) .nil))
      · rw [if_neg h3]
        have hm : IntKind.i64.wrap (m : Int) = (m : Int) := by simp [IntKind.wrap, IntKind.bits, IntKind.signed]; omega
        have e2 : (q : Int) + (m : Int) = ((q + m : Nat) : Int) := by push_cast; rfl
        refine con_of Try.func77 rfl (by kernel_rfl) rfl ?_
        simp only [Try.ntmps77, Try.results77, argEnv, ofC, of1, List.map]
        repeat' (first
 | (rw [e2])
 | (refine aw_drawV [1] [0] [1, 2, 3, 4, 5, 6] 2 _ ?_ rfl rfl ?_; (decide +kernel); (simp only [pk, List.drop_succ_cons, List.drop_zero, List.map_cons, List.map_nil, List.cons_append, List.nil_append]))
 | ((with_reducible apply ds_nilV2))
 | ((with_reducible apply ds_nilV1))
 | ((with_reducible apply ds_nilV))
 | ((with_reducible apply d4_nil); (decide +kernel))
 | (first | (refine d4_step [7] (by decide +kernel) rfl ?_) | (refine d4_step [8] (by decide +kernel) rfl ?_) | (refine d4_step [7, 8] (by decide +kernel) rfl ?_))
 | ((with_reducible refine List.forall_mem_cons.2 ⟨?_, ?_⟩))
 | ((with_reducible exact d4_none))
 | ((with_reducible apply d4_a); exact rfl; exact inferInstance; exact rfl)
 | ((with_reducible apply d4_pa); exact rfl; exact inferInstance; exact rfl; exact rfl; exact rfl; exact rfl; exact rfl; exact rfl; exact rfl; exact rfl)
 | ((with_reducible apply d4_p); exact rfl; exact inferInstance; exact rfl; exact rfl; exact rfl; exact rfl; exact rfl; exact rfl; exact rfl; exact rfl)
 | ((with_reducible apply d4_q); exact rfl; (simp only [pk, List.drop_succ_cons, List.drop_zero]))
 | ((with_reducible apply (r_call (f := 86))); exact rfl; exact rfl; exact c0; exact rfl; exact rfl)
 | ((with_reducible apply r_len_s); exact rfl; exact rfl)
 | ((with_reducible apply (r_conv (k2 := .u64))); exact rfl; (first | exact hwm | exact hw); exact rfl)
 | ((with_reducible apply (r_conv (k2 := .i64))); exact rfl; exact hm; exact rfl)
 | ((with_reducible apply (r_cutBoth q (q + m))); exact rfl; exact rfl; exact rfl; exact rfl; exact rfl; exact (by omega); exact (by omega); exact rfl)
 | ((with_reducible apply aw_seq))
 | ((with_reducible apply aw_region))
 | ((with_reducible apply thn_normal))
 | ((with_reducible apply aw_skip))
 | ((with_reducible apply aw_ret))
 | ((with_reducible apply ao_nil))
 | ((with_reducible apply r_move); exact rfl; exact rfl)
 | ((with_reducible apply r_assign); exact rfl; exact rfl)
 | ((with_reducible apply r_field_p); exact rfl; exact rfl)
 | ((with_reducible apply r_load_p); exact rfl; exact rfl; exact rfl; exact rfl)
 | ((with_reducible apply r_load_pa); exact rfl; exact rfl; exact rfl; exact rfl; exact rfl)
 | ((with_reducible apply r_lss); exact rfl; exact rfl; exact rfl)
 | ((with_reducible apply r_gtr); exact rfl; exact rfl; exact rfl)
 | ((with_reducible apply r_neq); exact rfl; exact rfl; exact rfl)
 | ((with_reducible apply r_add); exact rfl; exact rfl; exact (by first | assumption | (unfold fits; omega)); exact rfl)
 | ((with_reducible apply r_sub); exact rfl; exact rfl; exact (by first | assumption | (unfold fits; omega)); exact rfl)
 | ((with_reducible apply r_box_a); exact rfl; exact rfl)
 | ((with_reducible apply r_pick_f); exact rfl; exact rfl; exact rfl)
 | ((with_reducible apply r_store_p); exact rfl; exact rfl; exact rfl; exact rfl; exact rfl; exact rfl)
 | ((with_reducible apply r_extract); exact rfl; exact rfl; exact rfl)
 | ((with_reducible apply r_alloc); exact rfl)
 | (((with_reducible apply r_guard); exact rfl; exact rfl; exact rfl; exact rfl) <;> intro hg <;> (first | (exact absurd hg (by decide)) | ((try simp only [decide_eq_true_eq, decide_eq_false_iff_not, Bool.not_eq_true', Bool.not_eq_false', Bool.not_true, Bool.not_false, Bool.not_not, Int.not_lt, Int.not_le, Nat.not_lt, Nat.not_le, gt_iff_lt, ge_iff_le, List.cons.injEq, and_true] at hg); first | (exact absurd trivial hg) | (exfalso; omega) | (have hT : True := hg; clear hT hg) | skip)))
 | (((with_reducible apply aw_cond); exact rfl) <;> intro hg <;> (first | (exact absurd hg (by decide)) | ((try simp only [decide_eq_true_eq, decide_eq_false_iff_not, Bool.not_eq_true', Bool.not_eq_false', Bool.not_true, Bool.not_false, Bool.not_not, Int.not_lt, Int.not_le, Nat.not_lt, Nat.not_le, gt_iff_lt, ge_iff_le, List.cons.injEq, and_true] at hg); first | (exact absurd trivial hg) | (exfalso; omega) | (have hT : True := hg; clear hT hg) | skip)))
 )
        all_goals exact ret2 (.cons (.cell_a inferInstance rfl rfl rfl rfl (cl_cons cl_c (cl_cons cl_c (cl_cons cl_c cl_nil)))) (.cons (.tmp rfl cl_c) .nil))
  · rw [if_pos h1]
    rw [if_neg h1] at c0
    have c1 := rfail_con (gl := gl) s a er
    refine con_of Try.func77 rfl (by kernel_rfl) rfl ?_
    simp only [Try.ntmps77, Try.results77, argEnv, ofC, of1, List.map]
    repeat' (first
 | ((with_reducible apply (r_call (f := 86))); exact rfl; exact rfl; exact c0; exact rfl; exact rfl)
 | ((with_reducible apply (r_call (f := 87))); exact rfl; exact rfl; exact c1; exact rfl; exact rfl)
 | ((with_reducible apply aw_seq))
 | ((with_reducible apply aw_region))
 | ((with_reducible apply thn_normal))
 | ((with_reducible apply thn_ret))
 | ((with_reducible apply aw_skip))
 | ((with_reducible apply aw_ret))
 | ((with_reducible apply ao_nil))
 | ((with_reducible apply r_move); exact rfl; exact rfl)
 | ((with_reducible apply r_assign); exact rfl; exact rfl)
 | ((with_reducible apply r_field_p); exact rfl; exact rfl)
 | ((with_reducible apply r_load_p); exact rfl; exact rfl; exact rfl; exact rfl)
 | ((with_reducible apply r_load_pa); exact rfl; exact rfl; exact rfl; exact rfl; exact rfl)
 | ((with_reducible apply r_neq); exact rfl; exact rfl; exact rfl)
 | ((with_reducible apply r_box_a); exact rfl; exact rfl)
 | ((with_reducible apply r_store_pa); exact rfl; exact rfl; exact rfl; exact rfl; exact rfl; exact rfl)
 | ((with_reducible apply r_extract); exact rfl; exact rfl; exact rfl)
 | ((with_reducible apply r_alloc); exact rfl)
 | (((with_reducible apply aw_cond); exact rfl) <;> intro hg <;> (first | (exact absurd hg (by decide)) | ((try simp only [decide_eq_true_eq, decide_eq_false_iff_not, Bool.not_eq_true', Bool.not_eq_false', Bool.not_true, Bool.not_false, Bool.not_not, Int.not_lt, Int.not_le, Nat.not_lt, Nat.not_le, gt_iff_lt, ge_iff_le, List.cons.injEq, and_true] at hg); first | (exact absurd trivial hg) | (exfalso; omega) | (have hT : True := hg; clear hT hg) | skip)))
 )
    all_goals exact ret2 (.cons (.cell_a inferInstance rfl rfl rfl rfl (cl_cons cl_c (cl_cons cl_c (cl_cons cl_c cl_nil)))) (.cons (.tmp rfl cl_c) .nil))
def recGo (s : ByteArray) (a : Nat) (acc : List ByteArray) : List ByteArray × Bool :=
  if a < s.size then
    if (rtext s a).2.2 ≠ 0 then (acc ++ [(rtext s a).1], false)
    else if h : a < (rtext s a).2.1 then recGo s (rtext s a).2.1 (acc ++ [(rtext s a).1]) else (acc, false)
  else (acc, decide (chkS acc = 0))
termination_by s.size - a
decreasing_by omega
theorem rec_bad {s : ByteArray} {a : Nat} {acc : List ByteArray} (h : a < s.size) (he : (rtext s a).2.2 ≠ 0) : recGo s a acc = (acc ++ [(rtext s a).1], false) := by
  rw [recGo, if_pos h, if_pos he]
theorem rec_next {s : ByteArray} {a : Nat} {acc : List ByteArray} (h : a < s.size) (he : (rtext s a).2.2 = 0) : recGo s a acc = recGo s (rtext s a).2.1 (acc ++ [(rtext s a).1]) := by
  rw [recGo, if_pos h, if_neg (by simp [he]), dif_pos ((rtext_bd (s := s) (at0 := a)).1 he).1]
theorem rec_end {s : ByteArray} {a : Nat} {acc : List ByteArray} (h : ¬ a < s.size) : recGo s a acc = (acc, decide (chkS acc = 0)) := by
  rw [recGo, if_neg h]
theorem rec_many (s : ByteArray) : ∀ (k a : Nat) (acc : List ByteArray), s.size - a ≤ k → 32 < acc.length → (recGo s a acc).2 = false := by
  intro k
  induction k with
  | zero =>
    intro a acc hk hl
    rw [rec_end (by omega)]
    show decide (chkS acc = 0) = false
    rw [decide_eq_false_iff_not]
    intro h
    have := (chk_z h).2.1
    omega
  | succ k ih =>
    intro a acc hk hl
    by_cases ha : a < s.size
    · by_cases he : (rtext s a).2.2 = 0
      · rw [rec_next ha he]
        have := ((rtext_bd (s := s) (at0 := a)).1 he).1
        exact ih _ _ (by omega) (by simp; omega)
      · rw [rec_bad ha he]
    · rw [rec_end ha]
      show decide (chkS acc = 0) = false
      rw [decide_eq_false_iff_not]
      intro h
      have := (chk_z h).2.1
      omega
theorem rec_grp (s : ByteArray) : ∀ (k a : Nat) (acc : List ByteArray), s.size - a ≤ k → acc.length ≤ 32 → (∀ i (hi : i < acc.length), acc[i].size ≤ 16384) → grpGo s a acc = if (recGo s a acc).2 = true then some (recGo s a acc).1 else none := by
  intro k
  have hend : ∀ (a : Nat) (acc : List ByteArray), ¬ a < s.size → acc.length ≤ 32 → (∀ i (hi : i < acc.length), acc[i].size ≤ 16384) → grpGo s a acc = if (recGo s a acc).2 = true then some (recGo s a acc).1 else none := by
    intro a acc ha hl hs
    rw [grp_end ha, rec_end ha]
    by_cases h0 : acc = []
    · subst h0; rfl
    · rw [if_neg h0]
      show _ = if decide (chkS acc = 0) = true then _ else _
      rw [chk_ok h0 (by omega) hs]
      rfl
  induction k with
  | zero => intro a acc hk hl hs; exact hend a acc (by omega) hl hs
  | succ k ih =>
    intro a acc hk hl hs
    by_cases ha : a < s.size
    · by_cases he : (rtext s a).2.2 = 0
      · have hbd := (rtext_bd (s := s) (at0 := a)).1 he
        rw [rec_next ha he]
        by_cases h32 : acc.length = 32
        · rw [grp_bad ha (.inr h32), rec_many s (s.size - (rtext s a).2.1) _ _ (Nat.le_refl _) (by simp; omega)]
          rfl
        · rw [grp_next ha he h32]
          refine ih _ _ (by omega) (by simp; omega) (fun i hi => ?_)
          rw [List.getElem_append]
          split
          · exact hs i _
          · simp only [List.getElem_singleton]; exact hbd.2.2
      · rw [grp_bad ha (.inl he), rec_bad ha he]
        rfl
    · exact hend a acc ha hl hs
theorem recs_grp (s : ByteArray) : grp s = if (recGo s 0 []).2 = true then some (recGo s 0 []).1 else none :=
  rec_grp s s.size 0 [] (by omega) (Nat.zero_le _) (fun i hi => absurd hi (Nat.not_lt_zero _))
theorem rrecs_con (s : ByteArray) (hs : s.size ≤ 1000000000) : Con Try.prog gl 58 [STR s] (.tup [LT (recGo s 0 []).1, BO (recGo s 0 []).2]) := by
  have c0 := rnew_con (gl := gl) s
  refine con_of Try.func58 rfl (by kernel_rfl) rfl ?_
  simp only [Try.ntmps58, Try.results58, argEnv, ofC, of1, List.map]
  repeat' (first
 | ((with_reducible apply (r_call (f := 75))); exact rfl; exact rfl; exact c0; exact rfl; exact rfl)
 | ((with_reducible apply aw_seq))
 | ((with_reducible apply aw_region))
 | ((with_reducible apply aw_block))
 | ((with_reducible apply thn_normal))
 | ((with_reducible apply ao_nil))
 | ((with_reducible apply r_move); exact rfl; exact rfl)
 | ((with_reducible apply r_assign); exact rfl; exact rfl)
 | ((with_reducible apply r_store_pa); exact rfl; exact rfl; exact rfl; exact rfl; exact rfl; exact rfl)
 | ((with_reducible apply r_alloc); exact rfl)
 )
  refine aw_nilvec 5 9 1 rfl rfl ?_
  refine aw_loopG (G := Nat × Int × List ByteArray) (fun ((a, e, acc) : Nat × Int × List ByteArray) => a ≤ s.size ∧ acc.length ≤ a + 1 ∧ (e = 0 → acc.length ≤ a ∧ recGo s 0 [] = recGo s a acc) ∧ (e ≠ 0 → recGo s 0 [] = (acc, false))) (fun ((a, e, acc) : Nat × Int × List ByteArray) => (if e = 0 then s.size - a + 1 else 0)) (fun ((a, e, acc) : Nat × Int × List ByteArray) => [(4, .ptr 0 0), (5, .vec 1 acc.length)]) (fun ((a, e, acc) : Nat × Int × List ByteArray) => [(0, some (.cells 127 [.c (STR s), A a, A e])), (1, some (.vec 9 1 (acc.flatMap stC)))]) 2 (0, 0, []) ?_ (by refine weak_mk rfl ?_ ?_ <;> repeat (first | exact envW_nil | exact heapW_nil | refine envW_cons rfl rfl ?_ | refine heapW_cons rfl rfl rfl ?_)) rfl ?_
  · exact ⟨Nat.zero_le _, Nat.zero_le _, fun _ => ⟨Nat.zero_le _, rfl⟩, fun h => absurd rfl h⟩
  rintro ⟨a, e, acc⟩ hI
  try dsimp only at hI
  try dsimp only
  obtain ⟨h1, h2, h3, h4⟩ := hI
  have c1 := rleft_con (gl := gl) s a e (by omega) (by omega)
  have cc := check_con (gl := gl) acc (by omega)
  by_cases he : e = 0
  rotate_left
  · rw [h4 he]
    repeat' (first
 | ((with_reducible apply (r_call (f := 76))); exact rfl; exact rfl; exact c1; exact rfl; exact rfl)
 | ((with_reducible apply (r_callv (f := 43))); exact cc; exact rfl; exact cl_cons (cl_vec rfl (flat_len EncL.len _)) cl_nil; exact rfl; exact rfl)
 | ((with_reducible apply aw_seq))
 | ((with_reducible apply aw_region))
 | ((with_reducible apply thn_normal))
 | ((with_reducible apply thn_exit))
 | ((with_reducible apply inb_exit))
 | ((with_reducible apply aw_exit))
 | ((with_reducible apply aw_ret))
 | ((with_reducible apply ao_nil))
 | ((with_reducible apply r_move); exact rfl; exact rfl)
 | ((with_reducible apply r_assign); exact rfl; exact rfl)
 | ((with_reducible apply r_field_p); exact rfl; exact rfl)
 | ((with_reducible apply r_load_p); exact rfl; exact rfl; exact rfl; exact rfl)
 | ((with_reducible apply r_load_pa); exact rfl; exact rfl; exact rfl; exact rfl; exact rfl)
 | ((with_reducible apply r_gtr); exact rfl; exact rfl; exact rfl)
 | ((with_reducible apply r_eql); exact rfl; exact rfl; exact rfl)
 | ((with_reducible apply r_pick_t); exact rfl; exact rfl; exact rfl)
 | ((with_reducible apply r_pick_f); exact rfl; exact rfl; exact rfl)
 | (((with_reducible apply r_guard); exact rfl; exact rfl; exact rfl; exact rfl) <;> intro hg <;> (first | (exact absurd hg (by decide)) | ((try simp only [decide_eq_true_eq, decide_eq_false_iff_not, Bool.not_eq_true', Bool.not_eq_false', Bool.not_true, Bool.not_false, Bool.not_not, Int.not_lt, Int.not_le, Nat.not_lt, Nat.not_le, gt_iff_lt, ge_iff_le, List.cons.injEq, and_true] at hg); first | (exact absurd trivial hg) | (exfalso; omega) | (have hT : True := hg; clear hT hg) | skip)))
 | (((with_reducible apply aw_cond); exact rfl) <;> intro hg <;> (first | (exact absurd hg (by decide)) | ((try simp only [decide_eq_true_eq, decide_eq_false_iff_not, Bool.not_eq_true', Bool.not_eq_false', Bool.not_true, Bool.not_false, Bool.not_not, Int.not_lt, Int.not_le, Nat.not_lt, Nat.not_le, gt_iff_lt, ge_iff_le, List.cons.injEq, and_true] at hg); first | (exact absurd trivial hg) | (exfalso; omega) | (have hT : True := hg; clear hT hg) | skip)))
 )
    all_goals exact ret2 (.cons (.tmp rfl (cl_vec rfl (flat_len EncL.len _))) (.cons (.tmp rfl cl_c) .nil))
  subst he
  obtain ⟨h5, h6⟩ := h3 rfl
  by_cases ha : a < s.size
  · have c2 := rread_con (gl := gl) s a (by omega) (by omega)
    have hbd := rtext_bd (s := s) (at0 := a)
    have hbad := rec_bad (acc := acc) ha
    have hnext := rec_next (acc := acc) ha
    generalize rtext s a = v at c2 hbd hbad hnext
    obtain ⟨x, q, e⟩ := v
    dsimp only at c2 hbd hbad hnext
    repeat' (first
 | ((with_reducible apply (r_call (f := 76))); exact rfl; exact rfl; exact c1; exact rfl; exact rfl)
 | ((with_reducible apply (r_call (f := 77))); exact rfl; exact rfl; exact c2; exact rfl; exact rfl)
 | ((with_reducible apply r_litq); exact rfl; exact rfl; exact rfl; exact rfl; exact rfl; exact rfl; exact rfl)
 | ((with_reducible apply (r_appendl (enc := stC) (l2 := [x]))); exact rfl; exact rfl; exact inferInstance; exact rfl; exact rfl; exact (by show acc.length + 1 < _; omega); exact (by show (acc.length + 1) * _ ≤ _; omega); exact rfl)
 | ((with_reducible apply aw_seq))
 | ((with_reducible apply aw_region))
 | ((with_reducible apply aw_block))
 | ((with_reducible apply thn_normal))
 | ((with_reducible apply inb_normal))
 | ((with_reducible apply aw_skip))
 | ((with_reducible apply ao_nil))
 | ((with_reducible apply r_move); exact rfl; exact rfl)
 | ((with_reducible apply r_assign); exact rfl; exact rfl)
 | ((with_reducible apply r_field_p); exact rfl; exact rfl)
 | ((with_reducible apply r_load_p); exact rfl; exact rfl; exact rfl; exact rfl)
 | ((with_reducible apply r_load_pa); exact rfl; exact rfl; exact rfl; exact rfl; exact rfl)
 | ((with_reducible apply r_gtr); exact rfl; exact rfl; exact rfl)
 | ((with_reducible apply r_eql); exact rfl; exact rfl; exact rfl)
 | ((with_reducible apply r_pick_t); exact rfl; exact rfl; exact rfl)
 | ((with_reducible apply r_store_pa); exact rfl; exact rfl; exact rfl; exact rfl; exact rfl; exact rfl)
 | ((with_reducible apply r_extract); exact rfl; exact rfl; exact rfl)
 | (((with_reducible apply r_guard); exact rfl; exact rfl; exact rfl; exact rfl) <;> intro hg <;> (first | (exact absurd hg (by decide)) | ((try simp only [decide_eq_true_eq, decide_eq_false_iff_not, Bool.not_eq_true', Bool.not_eq_false', Bool.not_true, Bool.not_false, Bool.not_not, Int.not_lt, Int.not_le, Nat.not_lt, Nat.not_le, gt_iff_lt, ge_iff_le, List.cons.injEq, and_true] at hg); first | (exact absurd trivial hg) | (exfalso; omega) | (have hT : True := hg; clear hT hg) | skip)))
 | (((with_reducible apply aw_cond); exact rfl) <;> intro hg <;> (first | (exact absurd hg (by decide)) | ((try simp only [decide_eq_true_eq, decide_eq_false_iff_not, Bool.not_eq_true', Bool.not_eq_false', Bool.not_true, Bool.not_false, Bool.not_not, Int.not_lt, Int.not_le, Nat.not_lt, Nat.not_le, gt_iff_lt, ge_iff_le, List.cons.injEq, and_true] at hg); first | (exact absurd trivial hg) | (exfalso; omega) | (have hT : True := hg; clear hT hg) | skip)))
 )
    rw [show acc.length + [x].length = (acc ++ [x]).length by simp]
    refine ⟨(q, e, acc ++ [x]), ?_, ?_, by refine weak_mk rfl ?_ ?_ <;> repeat (first | exact envW_nil | exact heapW_nil | refine envW_cons rfl rfl ?_ | refine heapW_cons rfl rfl rfl ?_)⟩
    · show (if e = 0 then s.size - q + 1 else 0) < s.size - a + 1
      split
      · rename_i he; have := (hbd.1 he).1; omega
      · omega
    · refine ⟨?_, ?_, fun he => ⟨?_, ?_⟩, fun he => ?_⟩
      · show q ≤ s.size
        by_cases he : e = 0
        · exact (hbd.1 he).2.1
        · rw [hbd.2 he]; exact h1
      · show (acc ++ [x]).length ≤ q + 1
        rw [List.length_append, List.length_singleton]
        by_cases he : e = 0
        · have := (hbd.1 he).1; omega
        · rw [hbd.2 he]; omega
      · show (acc ++ [x]).length ≤ q
        rw [List.length_append, List.length_singleton]
        have := (hbd.1 he).1; omega
      · rw [h6]; exact hnext he
      · rw [h6]; exact hbad he
  · rw [h6, rec_end ha]
    by_cases hk : chkS acc = 0
    · rw [hk] at cc
      rw [decide_eq_true hk]
      repeat' (first
 | ((with_reducible apply (r_call (f := 76))); exact rfl; exact rfl; exact c1; exact rfl; exact rfl)
 | ((with_reducible apply (r_callv (f := 43))); exact cc; exact rfl; exact cl_cons (cl_vec rfl (flat_len EncL.len _)) cl_nil; exact rfl; exact rfl)
 | ((with_reducible apply aw_seq))
 | ((with_reducible apply aw_region))
 | ((with_reducible apply thn_normal))
 | ((with_reducible apply thn_exit))
 | ((with_reducible apply inb_exit))
 | ((with_reducible apply aw_exit))
 | ((with_reducible apply aw_ret))
 | ((with_reducible apply ao_nil))
 | ((with_reducible apply r_move); exact rfl; exact rfl)
 | ((with_reducible apply r_assign); exact rfl; exact rfl)
 | ((with_reducible apply r_field_p); exact rfl; exact rfl)
 | ((with_reducible apply r_load_p); exact rfl; exact rfl; exact rfl; exact rfl)
 | ((with_reducible apply r_load_pa); exact rfl; exact rfl; exact rfl; exact rfl; exact rfl)
 | ((with_reducible apply r_gtr); exact rfl; exact rfl; exact rfl)
 | ((with_reducible apply r_eql); exact rfl; exact rfl; exact rfl)
 | ((with_reducible apply r_pick_t); exact rfl; exact rfl; exact rfl)
 | ((with_reducible apply r_pick_f); exact rfl; exact rfl; exact rfl)
 | (((with_reducible apply r_guard); exact rfl; exact rfl; exact rfl; exact rfl) <;> intro hg <;> (first | (exact absurd hg (by decide)) | ((try simp only [decide_eq_true_eq, decide_eq_false_iff_not, Bool.not_eq_true', Bool.not_eq_false', Bool.not_true, Bool.not_false, Bool.not_not, Int.not_lt, Int.not_le, Nat.not_lt, Nat.not_le, gt_iff_lt, ge_iff_le, List.cons.injEq, and_true] at hg); first | (exact absurd trivial hg) | (exfalso; omega) | (have hT : True := hg; clear hT hg) | skip)))
 | (((with_reducible apply aw_cond); exact rfl) <;> intro hg <;> (first | (exact absurd hg (by decide)) | ((try simp only [decide_eq_true_eq, decide_eq_false_iff_not, Bool.not_eq_true', Bool.not_eq_false', Bool.not_true, Bool.not_false, Bool.not_not, Int.not_lt, Int.not_le, Nat.not_lt, Nat.not_le, gt_iff_lt, ge_iff_le, List.cons.injEq, and_true] at hg); first | (exact absurd trivial hg) | (exfalso; omega) | (have hT : True := hg; clear hT hg) | skip)))
 )
      all_goals exact ret2 (.cons (.tmp rfl (cl_vec rfl (flat_len EncL.len _))) (.cons (.tmp rfl (Or.inl (by simp))) .nil))
    · rw [decide_eq_false hk]
      repeat' (first
 | ((with_reducible apply (r_call (f := 76))); exact rfl; exact rfl; exact c1; exact rfl; exact rfl)
 | ((with_reducible apply (r_callv (f := 43))); exact cc; exact rfl; exact cl_cons (cl_vec rfl (flat_len EncL.len _)) cl_nil; exact rfl; exact rfl)
 | ((with_reducible apply aw_seq))
 | ((with_reducible apply aw_region))
 | ((with_reducible apply thn_normal))
 | ((with_reducible apply thn_exit))
 | ((with_reducible apply inb_exit))
 | ((with_reducible apply aw_exit))
 | ((with_reducible apply aw_ret))
 | ((with_reducible apply ao_nil))
 | ((with_reducible apply r_move); exact rfl; exact rfl)
 | ((with_reducible apply r_assign); exact rfl; exact rfl)
 | ((with_reducible apply r_field_p); exact rfl; exact rfl)
 | ((with_reducible apply r_load_p); exact rfl; exact rfl; exact rfl; exact rfl)
 | ((with_reducible apply r_load_pa); exact rfl; exact rfl; exact rfl; exact rfl; exact rfl)
 | ((with_reducible apply r_gtr); exact rfl; exact rfl; exact rfl)
 | ((with_reducible apply r_eql); exact rfl; exact rfl; exact rfl)
 | ((with_reducible apply r_pick_t); exact rfl; exact rfl; exact rfl)
 | ((with_reducible apply r_pick_f); exact rfl; exact rfl; exact rfl)
 | (((with_reducible apply r_guard); exact rfl; exact rfl; exact rfl; exact rfl) <;> intro hg <;> (first | (exact absurd hg (by decide)) | ((try simp only [decide_eq_true_eq, decide_eq_false_iff_not, Bool.not_eq_true', Bool.not_eq_false', Bool.not_true, Bool.not_false, Bool.not_not, Int.not_lt, Int.not_le, Nat.not_lt, Nat.not_le, gt_iff_lt, ge_iff_le, List.cons.injEq, and_true] at hg); first | (exact absurd trivial hg) | (exfalso; omega) | (have hT : True := hg; clear hT hg) | skip)))
 | (((with_reducible apply aw_cond); exact rfl) <;> intro hg <;> (first | (exact absurd hg (by decide)) | ((try simp only [decide_eq_true_eq, decide_eq_false_iff_not, Bool.not_eq_true', Bool.not_eq_false', Bool.not_true, Bool.not_false, Bool.not_not, Int.not_lt, Int.not_le, Nat.not_lt, Nat.not_le, gt_iff_lt, ge_iff_le, List.cons.injEq, and_true] at hg); first | (exact absurd trivial hg) | (exfalso; omega) | (have hT : True := hg; clear hT hg) | skip)))
 )
      all_goals exact ret2 (.cons (.tmp rfl (cl_vec rfl (flat_len EncL.len _))) (.cons (.tmp rfl (Or.inl (by simp [hk]))) .nil))
end Go.Proofs.Ythkjkhffljlidaa.Jo
/- The disk in plain Lean: its state, and what each call does. -/
namespace Go.Proofs.Ythkjkhffljlidaa.Dk
set_option linter.unusedVariables false
set_option linter.unusedSimpArgs false
structure DS where
  blocks : List ByteArray
  pend : List (Int × ByteArray)
  down : Bool
  armed : Bool
  steps : Int
  mask : Int
def bitOf (m : Int) (k : Nat) : Bool := m / 2 ^ (k % 64) % 2 == 1
def settleGo (bit : Nat → Bool) : Nat → List (Int × ByteArray) → List ByteArray → List ByteArray
  | _, [], b => b
  | k, x :: r, b => settleGo bit (k + 1) r (if bit k then b.set x.1.toNat x.2 else b)
def DS.settle (s : DS) (bit : Nat → Bool) : DS := { s with blocks := settleGo bit 0 s.pend s.blocks, pend := [] }
def DS.crash (s : DS) (m : Int) : DS := { (s.settle (bitOf m)) with armed := false, steps := 0, mask := 0, down := true }
def DS.step (s : DS) : DS × Bool := if s.armed then (if s.steps = 0 then (s.crash s.mask, false) else ({ s with steps := s.steps - 1 }, true)) else (s, true)
def inB (s : DS) (n : Int) : Bool := decide (0 ≤ n) && decide (n < s.blocks.length)
def DS.write (s : DS) (n : Int) (t : ByteArray) : DS × Int :=
  if s.down then (s, 17) else if inB s n then (if 64 < t.size then (s, 4) else (if s.step.2 then ({ s.step.1 with pend := s.step.1.pend ++ [(n, t)] }, 0) else (s.step.1, 17))) else (s, 9)
def newest : List (Int × ByteArray) → Int → Option ByteArray
  | [], _ => none
  | x :: r, n => (newest r n).or (if x.1 = n then some x.2 else none)
def DS.read (s : DS) (n : Int) : ByteArray × Int :=
  if s.down then (ByteArray.empty, 17) else if inB s n then ((newest s.pend n).getD (s.blocks.getD n.toNat ByteArray.empty), 0) else (ByteArray.empty, 9)
def DS.flush (s : DS) : DS × Int := if s.down then (s, 17) else if s.step.2 then (s.step.1.settle (fun _ => true), 0) else (s.step.1, 17)
def DS.hit (s : DS) (m : Int) : DS × Int := if s.down then (s, 17) else (s.crash m, 0)
def DS.new (n : Nat) : DS := ⟨List.replicate n ByteArray.empty, [], false, false, 0, 0⟩
structure Fine (s : DS) : Prop where
  len : 1 ≤ s.blocks.length ∧ s.blocks.length ≤ 4096
  text : ∀ x ∈ s.blocks, x.size ≤ 64
  pend : ∀ x ∈ s.pend, (∃ m : Nat, x.1 = (m : Int) ∧ m < s.blocks.length) ∧ x.2.size ≤ 64
  steps : 0 ≤ s.steps ∧ s.steps ≤ 1099511627776
  mask : 0 ≤ s.mask ∧ s.mask < 18446744073709551616
theorem settleGo_len (bit : Nat → Bool) : ∀ (p : List (Int × ByteArray)) (k : Nat) (b : List ByteArray), (settleGo bit k p b).length = b.length
  | [], _, _ => rfl
  | x :: r, k, b => by
    simp only [settleGo]
    rw [settleGo_len bit r]
    split <;> simp
theorem settleGo_mem (bit : Nat → Bool) : ∀ (p : List (Int × ByteArray)) (k : Nat) (b : List ByteArray) (Q : ByteArray → Prop), (∀ x ∈ p, Q x.2) → (∀ x ∈ b, Q x) → ∀ x ∈ settleGo bit k p b, Q x
  | [], _, b, Q, _, hb => hb
  | x :: r, k, b, Q, hp, hb => by
    simp only [settleGo]
    refine settleGo_mem bit r (k + 1) _ Q (fun y hy => hp y (List.mem_cons_of_mem _ hy)) ?_
    split
    · intro y hy
      rcases List.mem_or_eq_of_mem_set hy with h | h
      · exact hb y h
      · rw [h]; exact hp x List.mem_cons_self
    · exact hb
theorem settleGo_snoc (bit : Nat → Bool) : ∀ (p : List (Int × ByteArray)) (k : Nat) (b : List ByteArray) (x : Int × ByteArray), settleGo bit k (p ++ [x]) b = if bit (k + p.length) then (settleGo bit k p b).set x.1.toNat x.2 else settleGo bit k p b
  | [], k, b, x => by simp [settleGo]
  | y :: r, k, b, x => by
    simp only [List.cons_append, settleGo]
    rw [settleGo_snoc bit r (k + 1) _ x, List.length_cons, show k + 1 + r.length = k + (r.length + 1) from by omega]
theorem Fine.settle {s : DS} (h : Fine s) (bit : Nat → Bool) : Fine (s.settle bit) :=
  ⟨by show 1 ≤ (settleGo bit 0 s.pend s.blocks).length ∧ _; rw [settleGo_len]; exact ⟨h.len.1, by show (settleGo bit 0 s.pend s.blocks).length ≤ _; rw [settleGo_len]; exact h.len.2⟩,
   settleGo_mem bit s.pend 0 s.blocks _ (fun x hx => (h.pend x hx).2) h.text, by simp [DS.settle], h.steps, h.mask⟩
theorem Fine.crash {s : DS} (h : Fine s) (m : Int) : Fine (s.crash m) := by
  have := h.settle (bitOf m)
  exact ⟨this.len, this.text, this.pend, ⟨by simp [DS.crash], by simp [DS.crash]⟩, ⟨by simp [DS.crash], by simp [DS.crash]⟩⟩
theorem Fine.step {s : DS} (h : Fine s) : Fine s.step.1 := by
  unfold DS.step
  split
  · split
    · exact h.crash _
    · have := h.steps
      exact ⟨h.len, h.text, h.pend, ⟨by simp; omega, by simp; omega⟩, h.mask⟩
  · exact h
theorem step_blocks (s : DS) : s.step.1.blocks.length = s.blocks.length := by
  unfold DS.step
  split
  · split
    · simp [DS.crash, DS.settle, settleGo_len]
    · rfl
  · rfl
theorem inB_iff (s : DS) (n : Int) : inB s n = true ↔ ∃ m : Nat, n = (m : Int) ∧ m < s.blocks.length := by
  unfold inB
  simp only [Bool.and_eq_true, decide_eq_true_eq]
  constructor
  · rintro ⟨h1, h2⟩; exact ⟨n.toNat, by omega, by omega⟩
  · rintro ⟨m, rfl, h⟩; exact ⟨by omega, by omega⟩
theorem Fine.push {s : DS} (h : Fine s) {m : Nat} {t : ByteArray} (hm : m < s.blocks.length) (ht : t.size ≤ 64) : Fine { s with pend := s.pend ++ [((m : Int), t)] } :=
  ⟨h.len, h.text, fun x hx => by
    rcases List.mem_append.1 hx with hx | hx
    · exact h.pend x hx
    · simp at hx; subst hx; exact ⟨⟨m, rfl, hm⟩, ht⟩, h.steps, h.mask⟩
theorem Fine.new (n : Nat) (h1 : 1 ≤ n) (h2 : n ≤ 4096) : Fine (DS.new n) :=
  ⟨by simp [DS.new]; omega, fun x hx => by simp [DS.new] at hx; rw [hx.2]; decide, by simp [DS.new], by simp [DS.new], by simp [DS.new]⟩
theorem newest_snoc : ∀ (p : List (Int × ByteArray)) (x : Int × ByteArray) (n : Int), newest (p ++ [x]) n = if x.1 = n then some x.2 else newest p n
  | [], x, n => by simp [newest]
  | y :: r, x, n => by
    simp only [List.cons_append, newest]
    rw [newest_snoc r x n]
    split <;> simp
theorem newest_none {p : List (Int × ByteArray)} {n : Int} (h : ∀ x ∈ p, x.1 ≠ n) : newest p n = none := by
  induction p with
  | nil => rfl
  | cons y r ih =>
    simp only [newest]
    rw [ih (fun x hx => h x (List.mem_cons_of_mem _ hx)), if_neg (h y List.mem_cons_self)]
    rfl
end Go.Proofs.Ythkjkhffljlidaa.Dk
/- What a call leaves alone: all blocks but those of a set. Nothing here names a program. -/
namespace Go.Proofs.Ythkjkhffljlidaa.Kit
set_option linter.unusedVariables false
set_option linter.unusedSimpArgs false
open Go.RowKit
structure Keeps (S : Nat → Prop) (w w' : World) : Prop where
  os : w'.os = w.os
  tape : w'.tape = w.tape
  output : w'.output = w.output
  size : w.heap.size ≤ w'.heap.size
  block : ∀ k, k < w.heap.size → ¬ S k → w'.heap[k]? = w.heap[k]?
section
variable {S : Nat → Prop} {w w' w'' : World}
theorem Keeps.refl (S : Nat → Prop) (w : World) : Keeps S w w := ⟨rfl, rfl, rfl, Nat.le_refl _, fun _ _ _ => rfl⟩
theorem Keeps.trans {S' : Nat → Prop} (h : Keeps S w w') (h' : Keeps S' w' w'') (hs : ∀ k, k < w.heap.size → S' k → S k) : Keeps S w w'' :=
  ⟨h'.os.trans h.os, h'.tape.trans h.tape, h'.output.trans h.output, Nat.le_trans h.size h'.size, fun k hk hn => (h'.block k (Nat.lt_of_lt_of_le hk h.size) (fun hc => hn (hs k hk hc))).trans (h.block k hk hn)⟩
theorem Keeps.trans' (h : Keeps S w w') (h' : Keeps S w' w'') : Keeps S w w'' := h.trans h' (fun _ _ h => h)
theorem Keeps.of_below (h : Below w.heap.size w w') : Keeps S w w' := ⟨h.os, h.tape, h.output, h.size, fun k hk _ => h.block k hk⟩
theorem Keeps.below (h : Keeps S w w') {B : Nat} (hB : ∀ k, k < B → k < w.heap.size ∧ ¬ S k) : Below B w w' := ⟨h.os, h.tape, h.output, h.size, fun k hk => h.block k (hB k hk).1 (hB k hk).2⟩
theorem Keeps.mono {S' : Nat → Prop} (h : Keeps S w w') (hs : ∀ k, S k → S' k) : Keeps S' w w' := ⟨h.os, h.tape, h.output, h.size, fun k hk hn => h.block k hk (fun hc => hn (hs k hc))⟩
theorem Keeps.drew (h : Keeps S w w') : Keeps S w w'.drew := ⟨h.os, h.tape, h.output, h.size, h.block⟩
theorem Keeps.alloc (h : Keeps S w w') (o : Obj) : Keeps S w (w'.alloc o) :=
  h.trans' (Keeps.of_below ((Below.refl _ _).alloc (Nat.le_refl _) _))
theorem Keeps.setCell (h : Keeps S w w') {p : Addr} (hp : S p.block ∨ w.heap.size ≤ p.block) (u : Value) : Keeps S w (w'.setCell p u) :=
  ⟨h.os, h.tape, h.output, by simpa [World.setCell] using h.size, fun k hk hn => by
    rw [Below.heap_setCell w' p u k (by rintro rfl; rcases hp with hp | hp; exact hn hp; omega)]
    exact h.block k hk hn⟩
theorem Keeps.grown (h : Keeps S w w') {row : Option Nat} (hg : w'.grownBy w'' row) (hr : ∀ k, row = some k → S k ∨ w.heap.size ≤ k) : Keeps S w w'' :=
  ⟨hg.os.trans h.os, hg.tape.trans h.tape, hg.output.trans h.output, Nat.le_trans h.size hg.size, fun k hk hn => by
    rw [hg.block k (Nat.lt_of_lt_of_le hk h.size) (fun e => by rcases hr k e.symm with hc | hc; exact hn hc; omega)]
    exact h.block k hk hn⟩
theorem Keeps.turned (h : Keeps S w w') {b : Nat} (hg : w'.mapTurned w'' b) (hr : S b) : Keeps S w w'' :=
  h.grown hg.grown (fun k hk => Or.inl (by cases hk; exact hr))
end
section
variable {α : Type} {E : TypeId} {size : Nat} {enc : α → List Value} {w w' : World}
theorem Own.keeps {S : Nat → Prop} {B : Nat} {v : Value} {l : List α} (h : Own E size enc w B v l) (hk : Keeps S w w') (hn : ∀ k, v.ownBlock = some k → ¬ S k) : Own E size enc w' B v l := by
  have hlt := fun k hk => (World.ownsRow.lt h k hk).2
  obtain ⟨h1, h2⟩ := h
  refine ⟨h1, ?_⟩
  rcases h2 with hn' | ⟨g, cap, cur, rfl, hg, hh, r⟩
  · exact Or.inl hn'
  · exact Or.inr ⟨g, cap, cur, rfl, hg, by rw [hk.block g (hlt g rfl) (hn g rfl)]; exact hh, r⟩
theorem Sl.keeps {S : Nat → Prop} {v : Value} {l : List α} (h : Sl size enc w w.heap.size v l) (hk : Keeps S w w') (hn : ∀ k, v.ownBlock = some k → l ≠ [] → ¬ S k) : Sl size enc w' w'.heap.size v l :=
  (h.other (fun k h1 h2 h3 => hk.block k h3 (hn k h1 h2))).mono hk.size
theorem blk_keeps {S : Nat → Prop} {g : Nat} {o : Obj} (h : w.heap[g]? = some o) (hk : Keeps S w w') (hn : ¬ S g) : w'.heap[g]? = some o := by
  rw [hk.block g (Array.getElem?_eq_some_iff.1 h).1 hn]; exact h
end
end Go.Proofs.Ythkjkhffljlidaa.Kit
