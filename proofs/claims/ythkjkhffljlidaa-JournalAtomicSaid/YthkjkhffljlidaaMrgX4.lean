/- DiskWalk6 JD JK JL JM: texts laid together. -/
import Derived.Test.YthkjkhffljlidaaMrgX3
import Derived.Test.YthkjkhffljlidaaMrgX0
import Derived.Test.YthkjkhffljlidaaMrgX2
import Derived.Test.YthkjkhffljlidaaMrgE4
set_option maxRecDepth 100000
set_option maxHeartbeats 64000000
/- The walks of Flush, Arm, Crash, Recover, and of all methods of a nil disk. -/
namespace Go.Proofs.Ythkjkhffljlidaa.Dk
set_option linter.unusedVariables false
set_option linter.unusedSimpArgs false
open Go.RowKit Go.ChangeMaps
theorem flush_any {w : World} {d : Nat} {bv pv : Value} {gm n : Nat} {s : DS} (h : DAt w d bv pv gm n s) (hn : n ≤ 1000000) :
    Calls Try.prog 24 #[.pointer (some ⟨d, 0, none⟩)] w (DPost w d bv pv gm (n + 1) s.flush.1 (.int .i64 s.flush.2)) := by
  have H := Lib.hid h
  have z6 := blkc h.blk 6 _ rfl
  clear h
  rcases (Bool.eq_false_or_eq_true s.down).symm with hd | hd
  rotate_left
  · have HW : Hid (s.flush = (s, 17)) := by unfold Hid DS.flush; rw [hd]; rfl
    rw [hd] at z6
    clear hd
    go_enter Try.func24, Try.ntmps24
    go_wp2
    go_ret
    rw [HW.out]
    exact DPost.same H.out _
  rw [hd] at z6
  rcases (Bool.eq_false_or_eq_true s.step.2).symm with hst | hst
  · have HW : Hid (s.flush = (s.step.1, 17)) := by unfold Hid DS.flush; rw [hd, hst]; rfl
    have HST := Lib.hid hst
    clear hd hst
    go_enter Try.func24, Try.ntmps24
    go_wp2_with fail
    refine (step_any H.out hn).mono ?_
    rintro e w2 ⟨rfl, pv', hd2, hk2, hp2⟩
    rw [HST.out]
    have HD := Lib.hid (DPost.flag (r := .int .i64 17) hd2 hk2 hp2)
    clear hd2 hk2 hp2
    go_wp2
    go_ret
    rw [HW.out]
    exact HD.out
  · have HW : Hid (s.flush = (s.step.1.settle (fun _ => true), 0)) := by unfold Hid DS.flush; rw [hd, hst]; rfl
    have HST := Lib.hid hst
    clear hd hst
    go_enter Try.func24, Try.ntmps24
    go_wp2_with fail
    refine (step_any H.out hn).mono ?_
    rintro e w2 ⟨rfl, pv', hd2, hk2, hp2⟩
    rw [HST.out]
    have H2 := Lib.hid hd2; have HK := Lib.hid hk2; have HP := Lib.hid hp2
    clear hd2 hk2 hp2
    go_wp2_with fail
    refine (settle_all H2.out hn (fun _ => true) (fun _ => rfl)).mono ?_
    rintro e w3 ⟨rfl, hd3, hk3⟩
    have H3 := Lib.hid hd3; have HK3 := Lib.hid hk3
    clear hd3 hk3
    go_wp2
    go_ret
    rw [HW.out]
    refine DPost.flag H3.out (HK.out.trans HK3.out (fun k _ e => ?_)) (fun k hk => by simp [Value.ownBlock] at hk)
    rcases e with e | e | e | e
    · exact Or.inl e
    · exact Ow.b e
    · exact Ow.p (HP.out k e)
    · exact Or.inr (Or.inr (Or.inr e))
theorem arm_any {w : World} {d : Nat} {bv pv : Value} {gm n : Nat} {s : DS} (h : DAt w d bv pv gm n s) (i m : Int) (hm : 0 ≤ m ∧ m < 18446744073709551616) :
    Calls Try.prog 35 #[.pointer (some ⟨d, 0, none⟩), .int .i64 i, .int .u64 m] w (DPost w d bv pv gm (n + 1) (s.arm i m).1 (.int .i64 (s.arm i m).2)) := by
  have H := Lib.hid h
  have z6 := blkc h.blk 6 _ rfl
  have z3 := blkc h.blk 3 _ rfl; have z4 := blkc h.blk 4 _ rfl; have z5 := blkc h.blk 5 _ rfl
  have y3 := blkf h.blk 3; have y4 := blkf h.blk 4; have y5 := blkf h.blk 5
  have HM := Lib.hid hm
  clear h hm
  rcases (Bool.eq_false_or_eq_true s.down).symm with hd | hd
  rotate_left
  · have HW : Hid (s.arm i m = (s, 17)) := by unfold Hid DS.arm; rw [hd]; rfl
    rw [hd] at z6
    clear hd
    go_enter Try.func35, Try.ntmps35
    go_wp2
    go_ret
    rw [HW.out]
    exact DPost.same H.out _
  rw [hd] at z6
  by_cases h1 : i < 0
  · have HW : Hid (s.arm i m = (s, 9)) := by unfold Hid DS.arm; rw [hd, if_neg (by simp), if_neg (by omega)]
    have b1 : decide (i < 0) = true := by simpa using h1
    clear hd
    go_enter Try.func35, Try.ntmps35
    go_wp2
    go_ret
    rw [HW.out]
    exact DPost.same H.out _
  have b1 : decide (i < 0) = false := by simpa using h1
  by_cases h2 : 1099511627776 < i
  · have HW : Hid (s.arm i m = (s, 9)) := by unfold Hid DS.arm; rw [hd, if_neg (by simp), if_neg (by omega)]
    have b2 : decide (1099511627776 < i) = true := by simpa using h2
    clear hd
    go_enter Try.func35, Try.ntmps35
    go_wp2
    go_ret
    rw [HW.out]
    exact DPost.same H.out _
  have b2 : decide (1099511627776 < i) = false := by simpa using h2
  have HW : Hid (s.arm i m = ({ s with armed := true, steps := i, mask := m }, 0)) := by unfold Hid DS.arm; rw [hd, if_neg (by simp), if_pos (by omega)]
  have HF : Hid (Fine { s with armed := true, steps := i, mask := m }) := Lib.hid ⟨H.out.fine.len, H.out.fine.text, H.out.fine.pend, ⟨by simp; omega, by simp; omega⟩, HM.out⟩
  have HDN := Lib.hid hd
  clear hd
  go_enter Try.func35, Try.ntmps35
  go_wp2
  go_ret
  rw [HW.out]
  have k1 : Kit.Keeps (fun j => j = d) w (((w.setCell ⟨d, 3, none⟩ (.bool true)).setCell ⟨d, 4, none⟩ (.int .i64 i)).setCell ⟨d, 5, none⟩ (.int .u64 m)) :=
    (((Kit.Keeps.refl (fun j => j = d) w).setCell (p := ⟨d, 3, none⟩) (Or.inl rfl) _).setCell (p := ⟨d, 4, none⟩) (Or.inl rfl) _).setCell (p := ⟨d, 5, none⟩) (Or.inl rfl) _
  exact DPost.flag (H.out.flag (s' := { s with armed := true, steps := i, mask := m }) k1 rfl rfl HF.out (blk_set (blk_set (blk_set H.out.blk 3 _) 4 _) 5 _)) (k1.mono (fun k e => by cases e; exact Ow.d)) (fun _ h => h)
theorem hit_any {w : World} {d : Nat} {bv pv : Value} {gm n : Nat} {s : DS} (h : DAt w d bv pv gm n s) (hn : n ≤ 1000000) (m : Int) (hm : 0 ≤ m ∧ m < 18446744073709551616) :
    Calls Try.prog 61 #[.pointer (some ⟨d, 0, none⟩), .int .u64 m] w (DPost w d bv pv gm (n + 1) (s.hit m).1 (.int .i64 (s.hit m).2)) := by
  have H := Lib.hid h
  have z6 := blkc h.blk 6 _ rfl
  have HM := Lib.hid hm
  clear h hm
  rcases (Bool.eq_false_or_eq_true s.down).symm with hd | hd
  rotate_left
  · have HW : Hid (s.hit m = (s, 17)) := by unfold Hid DS.hit; rw [hd]; rfl
    rw [hd] at z6
    clear hd
    go_enter Try.func61, Try.ntmps61
    go_wp2
    go_ret
    rw [HW.out]
    exact DPost.same H.out _
  rw [hd] at z6
  have HW : Hid (s.hit m = (s.crash m, 0)) := by unfold Hid DS.hit; rw [hd]; rfl
  clear hd
  go_enter Try.func61, Try.ntmps61
  go_wp2_with fail
  refine (crash_any H.out hn m HM.out).mono ?_
  rintro e w2 ⟨rfl, hd2, hk2⟩
  have H2 := Lib.hid hd2; have HK := Lib.hid hk2
  clear hd2 hk2
  go_wp2
  go_ret
  rw [HW.out]
  exact DPost.flag H2.out HK.out (fun k hk => by simp [Value.ownBlock] at hk)
theorem recover_any {w : World} {d : Nat} {bv pv : Value} {gm n : Nat} {s : DS} (h : DAt w d bv pv gm n s) :
    Calls Try.prog 62 #[.pointer (some ⟨d, 0, none⟩)] w (DPost w d bv pv gm (n + 1) s.recover.1 (.int .i64 s.recover.2)) := by
  have H := Lib.hid h
  have z6 := blkc h.blk 6 _ rfl
  have y6 := blkf h.blk 6
  clear h
  rcases (Bool.eq_false_or_eq_true s.down).symm with hd | hd
  · have HW : Hid (s.recover = (s, 14)) := by unfold Hid DS.recover; rw [hd]; rfl
    rw [hd] at z6
    clear hd
    go_enter Try.func62, Try.ntmps62
    go_wp2
    go_ret
    rw [HW.out]
    exact DPost.same H.out _
  · have HW : Hid (s.recover = ({ s with down := false }, 0)) := by unfold Hid DS.recover; rw [hd]; rfl
    have HF : Hid (Fine { s with down := false }) := Lib.hid ⟨H.out.fine.len, H.out.fine.text, H.out.fine.pend, H.out.fine.steps, H.out.fine.mask⟩
    rw [hd] at z6
    clear hd
    go_enter Try.func62, Try.ntmps62
    go_wp2
    go_ret
    rw [HW.out]
    have k1 : Kit.Keeps (fun j => j = d) w (w.setCell ⟨d, 6, none⟩ (.bool false)) := (Kit.Keeps.refl (fun j => j = d) w).setCell (p := ⟨d, 6, none⟩) (Or.inl rfl) _
    exact DPost.flag (H.out.flag (s' := { s with down := false }) k1 rfl rfl HF.out (blk_set H.out.blk 6 _)) (k1.mono (fun k e => by cases e; exact Ow.d)) (fun _ h => h)
end Go.Proofs.Ythkjkhffljlidaa.Dk
/- The disk as an object of a walk. -/
namespace Go.Proofs.Ythkjkhffljlidaa.Jo
set_option linter.unusedVariables false
set_option linter.unusedSimpArgs false
open Go.RowKit Go.Proofs.Ythkjkhffljlidaa.Ev Go.Proofs.Ythkjkhffljlidaa.Dk
variable {gl : List (Nat × List CV)}
theorem own_stab {w w' : World} {B E size n : Nat} {v : Value} {xs : List Value} (h : w.ownsRow B E size v n xs) (hk : ∀ k, v.ownBlock = some k → w'.heap[k]? = w.heap[k]?) : w'.ownsRow B E size v n xs := by
  obtain ⟨f1, f2⟩ := h
  refine ⟨f1, ?_⟩
  rcases f2 with f2 | ⟨g, cap, cur, rfl, g1, g2, g3⟩
  · exact .inl f2
  · exact .inr ⟨g, cap, cur, rfl, g1, (hk g rfl).trans g2, g3⟩
theorem dat_stab {w w' : World} {d : Nat} {bv pv : Value} {gm n : Nat} {s : DS} (h : DAt w d bv pv gm n s) (hk : ∀ k, Ow d bv pv gm k → w'.heap[k]? = w.heap[k]?) : DAt w' d bv pv gm n s := by
  refine ⟨(hk d (.inl rfl)).trans h.blk, own_stab h.blocks (fun k e => hk k (.inr (.inl e))), own_stab h.pend (fun k e => hk k (.inr (.inr (.inl e)))), ?_, h.fine, h.cnt, h.d1, h.d2, h.d3⟩
  obtain ⟨D, ⟨es, cl, hb, r⟩, h2⟩ := h.map
  exact ⟨D, ⟨es, cl, (hk gm (.inr (.inr (.inr rfl)))).trans hb, r⟩, h2⟩
def dskP (s : DS) (c : Nat) : ObjP where
  holds := fun w g fp => ∃ bv pv gm n, DAt w g bv pv gm n s ∧ n ≤ c ∧ ∀ k, fp k ↔ Ow g bv pv gm k
  stable := fun w w' g fp ⟨bv, pv, gm, n, h, hc, hf⟩ hk => ⟨bv, pv, gm, n, dat_stab h (fun k hk' => hk k ((hf k).2 hk')), hc, hf⟩
theorem vals_eq {F : Nat → Prop} {w : World} {g : Nat} {vals : List Value} {vs : Array Value} (hlen : (OA.p :: vals.map (fun v => OA.c (.v v))).length = vs.size) (hv : ∀ (i : Nat) (x : OA) (u : Value), (OA.p :: vals.map (fun v => OA.c (.v v)))[i]? = some x → vs[i]? = some u → x.rel F w g u) : vs = (refP g :: vals).toArray := by
  apply Array.ext_getElem?
  intro i
  cases i with
  | zero =>
    have h0 : 0 < vs.size := by rw [← hlen]; simp
    have := hv 0 .p vs[0] rfl (by simp [h0])
    have e : vs[0] = refP g := this
    simp [h0, e]
  | succ i =>
    by_cases hi : i < vals.length
    · have hia : i + 1 < vs.size := by rw [← hlen]; simpa using hi
      have : RC F w (.v vals[i]) vs[i + 1] := hv (i + 1) (.c (.v vals[i])) vs[i + 1] (by simp [hi]) (by simp [hia])
      have := rc_val this
      simp [hia, hi, this]
    · rw [Array.getElem?_eq_none (by rw [← hlen]; simp; omega), Array.getElem?_eq_none (by simp; omega)]
theorem ocon_dpost {f : FuncId} {s s' : DS} {c : Nat} {r : Value} {vals : List Value} (hcall : callableB Try.prog f = true) (h : ∀ w d bv pv gm n, DAt w d bv pv gm n s → n ≤ c → Calls Try.prog f (Value.pointer (some ⟨d, 0, none⟩) :: vals).toArray w (DPost w d bv pv gm (n + 1) s' r)) : OCon Try.prog gl f (.p :: vals.map (fun v => .c (.v v))) (dskP s c) (.v r) (dskP s' (c + 1)) := by
  refine ⟨hcall, fun w F fp g vs hF hgl ⟨bv, pv, gm, n, hd, hc, hf⟩ hg hfp hlen hv => ?_⟩
  rw [vals_eq hlen hv]
  refine (h w g bv pv gm n hd hc).mono fun e w' ⟨he, pv', hd', hk, hn⟩ => ⟨r, Ow g bv pv' gm, he, ⟨hk.os, hk.tape, hk.output, hk.size, fun k h1 h2 => hk.block k h1 (fun h3 => h2 ((hf k).2 h3)), ⟨bv, pv', gm, n + 1, hd', by omega, fun k => Iff.rfl⟩, .inl rfl, fun k hk => ⟨hd'.lt hk, ?_⟩⟩, .v r⟩
  rcases hk with h1 | h1 | h1 | h1
  · exact .inl ((hf k).2 (.inl h1))
  · exact .inl ((hf k).2 (.inr (.inl h1)))
  · rcases hn k h1 with h2 | h2
    · exact .inl ((hf k).2 (.inr (.inr (.inl h2))))
    · exact .inr h2
  · exact .inl ((hf k).2 (.inr (.inr (.inr h1))))
theorem ocon_same {f : FuncId} {s : DS} {c : Nat} {r : Value} {x : CV} {vals : List Value} (hcall : callableB Try.prog f = true) (hx : ∀ F w, RC F w x r) (h : ∀ w d bv pv gm n, DAt w d bv pv gm n s → Calls Try.prog f (Value.pointer (some ⟨d, 0, none⟩) :: vals).toArray w fun e w' => e = .returned r ∧ w = w') : OCon Try.prog gl f (.p :: vals.map (fun v => .c (.v v))) (dskP s c) x (dskP s c) := by
  refine ⟨hcall, fun w F fp g vs hF hgl ⟨bv, pv, gm, n, hd, hc, hf⟩ hg hfp hlen hv => ?_⟩
  rw [vals_eq hlen hv]
  refine (h w g bv pv gm n hd).mono fun e w' ⟨he, hw⟩ => ?_
  subst hw
  exact ⟨r, fp, he, ⟨rfl, rfl, rfl, Nat.le_refl _, fun _ _ _ => rfl, ⟨bv, pv, gm, n, hd, hc, hf⟩, hg, fun k hk => ⟨(hfp k hk).1, .inl hk⟩⟩, hx _ _⟩
theorem dsk_write (s : DS) (c : Nat) (hc : c ≤ 1000000) (i : Int) (t : ByteArray) (ht : t.size ≤ maxLen) : OCon Try.prog gl 23 [.p, .c (I i), .c (STR t)] (dskP s c) (I (s.write i t).2) (dskP (s.write i t).1 (c + 1)) :=
  ocon_dpost (vals := [.int .i64 i, .string t]) (by kernel_rfl) (fun w d bv pv gm n h hn => write_any h (by omega) i t ht)
theorem dsk_flush (s : DS) (c : Nat) (hc : c ≤ 1000000) : OCon Try.prog gl 24 [.p] (dskP s c) (I s.flush.2) (dskP s.flush.1 (c + 1)) :=
  ocon_dpost (vals := []) (by kernel_rfl) (fun w d bv pv gm n h hn => flush_any h (by omega))
theorem dsk_arm (s : DS) (c : Nat) (i m : Int) (hm : 0 ≤ m ∧ m < 18446744073709551616) : OCon Try.prog gl 35 [.p, .c (I i), .c (U m)] (dskP s c) (I (s.arm i m).2) (dskP (s.arm i m).1 (c + 1)) :=
  ocon_dpost (vals := [.int .i64 i, .int .u64 m]) (by kernel_rfl) (fun w d bv pv gm n h hn => arm_any h i m hm)
theorem dsk_crash (s : DS) (c : Nat) (hc : c ≤ 1000000) (m : Int) (hm : 0 ≤ m ∧ m < 18446744073709551616) : OCon Try.prog gl 61 [.p, .c (U m)] (dskP s c) (I (s.hit m).2) (dskP (s.hit m).1 (c + 1)) :=
  ocon_dpost (vals := [.int .u64 m]) (by kernel_rfl) (fun w d bv pv gm n h hn => hit_any h (by omega) m hm)
theorem dsk_recover (s : DS) (c : Nat) : OCon Try.prog gl 62 [.p] (dskP s c) (I s.recover.2) (dskP s.recover.1 (c + 1)) :=
  ocon_dpost (vals := []) (by kernel_rfl) (fun w d bv pv gm n h hn => recover_any h)
theorem dsk_read (s : DS) (c : Nat) (i : Int) : OCon Try.prog gl 20 [.p, .c (I i)] (dskP s c) (.tup [STR (s.read i).1, I (s.read i).2]) (dskP s c) :=
  ocon_same (vals := [.int .i64 i]) (by kernel_rfl) (fun F w => rc_tup (us := [.string (s.read i).1, .int .i64 (s.read i).2])) (fun w d bv pv gm n h => read_any h i)
theorem dsk_blocks (s : DS) (c : Nat) : OCon Try.prog gl 109 [.p] (dskP s c) (I s.blocks.length) (dskP s c) :=
  ocon_same (vals := []) (by kernel_rfl) (fun F w => .v _) (fun w d bv pv gm n h => blocks_any h)
theorem dsk_down (s : DS) (c : Nat) : OCon Try.prog gl 60 [.p] (dskP s c) (BO s.down) (dskP s c) :=
  ocon_same (vals := []) (by kernel_rfl) (fun F w => .v _) (fun w d bv pv gm n h => down_any h)
theorem dsk_new (m : Nat) (hm : 1 ≤ m ∧ m ≤ 4096) : NCon Try.prog gl 27 [I m] [.p, .c (I 0)] (dskP (DS.new m) 0) := by
  refine ⟨by kernel_rfl, fun w F vs hF hgl hlen hv => ?_⟩
  have e : vs = #[.int .i64 m] := by
    apply Array.ext_getElem?
    intro i
    have h1 : vs.size = 1 := by rw [← hlen]; rfl
    cases i with
    | zero =>
      have := rc_val (hv 0 (I m) vs[0] rfl (by simp [h1]))
      simp [h1, this]
    | succ i => simp [h1]
  subst e
  refine (new_any (m : Int) w).mono fun e w' hp => ?_
  rcases hp with ⟨m', d, bv, gm, e1, e2, e3, he, hd, hnew, hb⟩ | ⟨h, _⟩
  · have : m' = m := by omega
    subst this
    refine ⟨_, d, Ow d bv (.slice none 0 0) gm, he, ⟨hb, ⟨bv, _, gm, 0, hd, Nat.le_refl _, fun k => Iff.rfl⟩, .inl rfl, fun k hk => ⟨hnew k hk, hd.lt hk⟩⟩, rfl, fun i x u hx hu => ?_⟩
    match i with
    | 0 => simp at hx hu; subst hx; subst hu; exact ⟨rfl, fun fn h => by cases h⟩
    | 1 => simp at hx hu; subst hx; subst hu; exact ⟨.v _, fun fn h => by cases h⟩
    | i + 2 => simp at hx
  · omega
end Go.Proofs.Ythkjkhffljlidaa.Jo
/- The journal: find. -/
namespace Go.Proofs.Ythkjkhffljlidaa.Jo
set_option linter.unusedVariables false
set_option linter.unusedSimpArgs false
open Go.RowKit Go.Proofs.Ythkjkhffljlidaa.Ev Go.Proofs.Ythkjkhffljlidaa.Dk
variable {gl : List (Nat × List CV)}
theorem grpGo_len (s : ByteArray) : ∀ (k a : Nat) (acc : List ByteArray), s.size - a ≤ k → acc.length ≤ 32 → ∀ l, grpGo s a acc = some l → l.length ≤ 32 := by
  intro k
  induction k with
  | zero =>
    intro a acc hk hacc l h
    rw [grp_end (by omega)] at h
    split at h
    · cases h
    · cases h; exact hacc
  | succ k ih =>
    intro a acc hk hacc l h
    by_cases ha : a < s.size
    · by_cases hb : (rtext s a).2.2 ≠ 0 ∨ acc.length = 32
      · rw [grp_bad ha hb] at h; cases h
      · have h0 : (rtext s a).2.2 = 0 := Decidable.not_not.1 (fun e => hb (.inl e))
        have h32 : acc.length ≠ 32 := fun e => hb (.inr e)
        rw [grp_next ha h0 h32] at h
        have := (rtext_bd (s := s) (at0 := a)).1 h0
        exact ih _ _ (by omega) (by simp; omega) l h
    · rw [grp_end ha] at h
      split at h
      · cases h
      · cases h; exact hacc
theorem grp_len {s : ByteArray} {l : List ByteArray} (h : grp s = some l) : l.length ≤ 32 := grpGo_len s _ 0 [] (Nat.le_refl _) (Nat.zero_le _) l h
def findG (h : Nat) (st : List UInt8) (i : Nat) : List ByteArray → JS → JS
  | [], s => s
  | b :: bl, s =>
    match contS h b with
    | none => s
    | some (h', last) =>
      if last = true then
        match grp ⟨(st ++ (b.extract 19 b.size).data.toList).toArray⟩ with
        | none => s
        | some l => findG h' [] (i + 1) bl (s.add l (i + 1) h')
      else findG h' (st ++ (b.extract 19 b.size).data.toList) (i + 1) bl s
theorem findG_none {h i : Nat} {st : List UInt8} {b : ByteArray} {bl : List ByteArray} {s : JS} (hc : contS h b = none) : findG h st i (b :: bl) s = s := by rw [findG, hc]
theorem findG_more {h i h' : Nat} {st : List UInt8} {b : ByteArray} {bl : List ByteArray} {s : JS} (hc : contS h b = some (h', false)) : findG h st i (b :: bl) s = findG h' (st ++ (b.extract 19 b.size).data.toList) (i + 1) bl s := by
  rw [findG, hc]; simp
theorem findG_bad {h i h' : Nat} {st : List UInt8} {b : ByteArray} {bl : List ByteArray} {s : JS} (hc : contS h b = some (h', true)) (hg : grp ⟨(st ++ (b.extract 19 b.size).data.toList).toArray⟩ = none) : findG h st i (b :: bl) s = s := by
  rw [findG, hc]
  simp only [if_true, hg]
theorem findG_last {h i h' : Nat} {st : List UInt8} {b : ByteArray} {bl l : List ByteArray} {s : JS} (hc : contS h b = some (h', true)) (hg : grp ⟨(st ++ (b.extract 19 b.size).data.toList).toArray⟩ = some l) : findG h st i (b :: bl) s = findG h' [] (i + 1) bl (s.add l (i + 1) h') := by
  rw [findG, hc]
  simp only [if_true, hg]
theorem cont_bd {prev h : Nat} {b : ByteArray} {last : Bool} (hc : contS prev b = some (h, last)) : 19 < b.size ∧ b.size ≤ 64 ∧ h < 2 ^ 64 := by
  unfold contS at hc
  split at hc
  · rename_i hcc
    simp only [Option.some.injEq, Prod.mk.injEq] at hcc hc
    exact ⟨hcc.1, hcc.2.1, hc.1 ▸ numS_bd _⟩
  · cases hc
abbrev J0 : JS := ⟨[], 0, 0, false⟩
theorem find_j (kd : Nat) (bl : List ByteArray) (hbl : bl.length ≤ 100000) (hbs : ∀ x ∈ bl, x.size ≤ 64) : OCon Try.prog gl 57 [.p, .c (LT bl)] (jP kd J0) (.tup []) (jP kd (findG 0 [] 0 bl J0)) := by
  refine ocon_of Try.func57 rfl (by kernel_rfl) rfl (by intro x hx h e; subst e; first | (simp at hx; done) | (intro g; simp at hx; subst hx; rfl)) ?_
  intro fr hfr
  simp only [Try.ntmps57, Try.results57, argEnvO, avOf, of1, List.map]
  repeat' (first
 | ((with_reducible apply r_load_o); exact rfl; exact rfl; exact jP_cell (by decide) (fun _ => rfl); exact rfl)
 | ((with_reducible apply r_nilp); exact rfl; exact rfl)
 | ((with_reducible apply aw_seq))
 | ((with_reducible apply aw_region))
 | ((with_reducible apply aw_block))
 | ((with_reducible apply thn_normal))
 | ((with_reducible apply ao_nil))
 | ((with_reducible apply r_move); exact rfl; exact rfl)
 | ((with_reducible apply r_assign); exact rfl; exact rfl)
 | ((with_reducible apply r_field_p); exact rfl; exact rfl)
 | ((with_reducible apply r_len_f); exact rfl; exact inferInstance; exact rfl)
 | ((with_reducible apply r_alloc); exact rfl)
 )
  refine aw_boxObj 2 (t := TB) (vs := [.pointer none, .slice none 0 0]) (p := bldP []) rfl bld_new ?_
  refine aw_loopG (G := Nat × Nat × List UInt8 × JS) (fun ((i, h, st, s) : Nat × Nat × List UInt8 × JS) => i ≤ bl.length ∧ h < 2 ^ 64 ∧ st.length ≤ 45 * i ∧ s.recs.length ≤ 32 * i ∧ s.gr.length ≤ i ∧ findG 0 [] 0 bl J0 = findG h st i (bl.drop i) s) (fun ((i, h, st, s) : Nat × Nat × List UInt8 × JS) => bl.length - i) (fun ((i, h, st, s) : Nat × Nat × List UInt8 × JS) => [(0, .ptr 0 0), (4, .c (U h)), (5, .ptr 2 0), (17, .c (LT bl)), (18, A bl.length), (19, A i)]) (fun ((i, h, st, s) : Nat × Nat × List UInt8 × JS) => [(1, fr), (0, some (.obj (jP kd s))), (2, some (.obj (bldP st)))]) 3 (0, 0, [], J0) ?_ (by refine weak_mkF hfr rfl rfl rfl ?_ ?_ <;> repeat (first | exact envW_nil | exact heapW_nil | refine envW_cons rfl rfl ?_ | refine heapW_cons rfl rfl rfl ?_)) rfl ?_
  · exact ⟨Nat.zero_le _, by decide, Nat.zero_le _, Nat.zero_le _, Nat.zero_le _, by rw [List.drop_zero]⟩
  rintro ⟨i, h, st, s⟩ hI
  try dsimp only at hI
  try dsimp only
  obtain ⟨h1, h2, h3, h4, h5, h6⟩ := hI
  by_cases hi : i < bl.length
  rotate_left
  · have e : bl.drop i = [] := List.drop_eq_nil_of_le (by omega)
    rw [e, findG] at h6
    rw [h6]
    repeat' (first
 | ((with_reducible apply aw_seq))
 | ((with_reducible apply aw_region))
 | ((with_reducible apply thn_normal))
 | ((with_reducible apply thn_exit))
 | ((with_reducible apply inb_exit))
 | ((with_reducible apply aw_exit))
 | ((with_reducible apply ao_nil))
 | ((with_reducible apply r_lss); exact rfl; exact rfl; exact rfl)
 | (((with_reducible apply aw_cond); exact rfl) <;> intro hg <;> (first | (exact absurd hg (by decide)) | ((try simp only [decide_eq_true_eq, decide_eq_false_iff_not, Bool.not_eq_true', Bool.not_eq_false', Bool.not_true, Bool.not_false, Bool.not_not, Int.not_lt, Int.not_le, Nat.not_lt, Nat.not_le, gt_iff_lt, ge_iff_le, List.cons.injEq, and_true] at hg); first | (exact absurd trivial hg) | (exfalso; omega) | (have hT : True := hg; clear hT hg) | skip)))
 )
    all_goals first | exact ⟨⟨.inr rfl, .inr ⟨by decide, [], rfl, .nil⟩⟩, rfl, rfl⟩ | exact ⟨⟨.inl rfl, .inr ⟨by decide, [], rfl, .nil⟩⟩, rfl, rfl⟩
  have hsz := hbs bl[i] (List.getElem_mem hi)
  rw [List.drop_eq_getElem_cons hi] at h6
  have c0 := split_con (gl := gl) h h2 bl[i] (by omega)
  unfold splV at c0
  cases hc : contS h bl[i] with
  | none =>
    rw [hc] at c0
    rw [findG_none hc] at h6
    rw [h6]
    repeat' (first
 | ((with_reducible apply r_call); exact rfl; exact rfl; exact c0; exact rfl; exact rfl)
 | ((with_reducible apply aw_seq))
 | ((with_reducible apply aw_region))
 | ((with_reducible apply aw_block))
 | ((with_reducible apply thn_normal))
 | ((with_reducible apply thn_ret))
 | ((with_reducible apply inb_ret))
 | ((with_reducible apply aw_skip))
 | ((with_reducible apply aw_ret))
 | ((with_reducible apply ao_nil))
 | ((with_reducible apply r_move); exact rfl; exact rfl)
 | ((with_reducible apply r_assign); exact rfl; exact rfl)
 | ((with_reducible apply r_lss); exact rfl; exact rfl; exact rfl)
 | ((with_reducible apply r_not); exact rfl; exact rfl)
 | ((with_reducible apply r_index_f); exact rfl; exact inferInstance; exact rfl; exact rfl; (first | assumption | omega); exact rfl)
 | ((with_reducible apply r_load_f0); exact rfl; exact inferInstance; exact List.getElem?_eq_getElem (by first | assumption | omega); exact rfl; exact rfl)
 | ((with_reducible apply r_extract); exact rfl; exact rfl; exact rfl)
 | (((with_reducible apply aw_cond); exact rfl) <;> intro hg <;> (first | (exact absurd hg (by decide)) | ((try simp only [decide_eq_true_eq, decide_eq_false_iff_not, Bool.not_eq_true', Bool.not_eq_false', Bool.not_true, Bool.not_false, Bool.not_not, Int.not_lt, Int.not_le, Nat.not_lt, Nat.not_le, gt_iff_lt, ge_iff_le, List.cons.injEq, and_true] at hg); first | (exact absurd trivial hg) | (exfalso; omega) | (have hT : True := hg; clear hT hg) | skip)))
 )
    all_goals first | exact ⟨⟨.inr rfl, .inr ⟨by decide, [], rfl, .nil⟩⟩, rfl, rfl⟩ | exact ⟨⟨.inl rfl, .inr ⟨by decide, [], rfl, .nil⟩⟩, rfl, rfl⟩
  | some v =>
    obtain ⟨h', last⟩ := v
    rw [hc] at c0
    obtain ⟨b1, b2, b3⟩ := cont_bd hc
    have hps : (bl[i].extract 19 bl[i].size).size = bl[i].size - 19 := by rw [ByteArray.size_extract]; omega
    have c1 := bld_write (gl := gl) st (bl[i].extract 19 bl[i].size) (by omega)
    have hstl : (st ++ (bl[i].extract 19 bl[i].size).data.toList).length ≤ 45 * (i + 1) := by rw [List.length_append, ba_size]; omega
    cases last with
    | false =>
      rw [findG_more hc] at h6
      repeat' (first
 | ((with_reducible apply r_call); exact rfl; exact rfl; exact c0; exact rfl; exact rfl)
 | ((with_reducible apply (r_callO 2)); exact c1; exact rfl; exact rfl; exact rfl; exact rfl)
 | ((with_reducible apply aw_seq))
 | ((with_reducible apply aw_region))
 | ((with_reducible apply aw_block))
 | ((with_reducible apply thn_normal))
 | ((with_reducible apply thn_exit))
 | ((with_reducible apply inb_exit))
 | ((with_reducible apply aw_skip))
 | ((with_reducible apply aw_exit))
 | ((with_reducible apply ao_nil))
 | ((with_reducible apply r_move); exact rfl; exact rfl)
 | ((with_reducible apply r_assign); exact rfl; exact rfl)
 | ((with_reducible apply r_lss); exact rfl; exact rfl; exact rfl)
 | ((with_reducible apply r_eql); exact rfl; exact rfl; exact rfl)
 | ((with_reducible apply r_add); exact rfl; exact rfl; exact (by first | assumption | (unfold fits; omega)); exact rfl)
 | ((with_reducible apply r_not); exact rfl; exact rfl)
 | ((with_reducible apply r_index_f); exact rfl; exact inferInstance; exact rfl; exact rfl; (first | assumption | omega); exact rfl)
 | ((with_reducible apply r_load_f0); exact rfl; exact inferInstance; exact List.getElem?_eq_getElem (by first | assumption | omega); exact rfl; exact rfl)
 | ((with_reducible apply r_extract); exact rfl; exact rfl; exact rfl)
 | (((with_reducible apply aw_cond); exact rfl) <;> intro hg <;> (first | (exact absurd hg (by decide)) | ((try simp only [decide_eq_true_eq, decide_eq_false_iff_not, Bool.not_eq_true', Bool.not_eq_false', Bool.not_true, Bool.not_false, Bool.not_not, Int.not_lt, Int.not_le, Nat.not_lt, Nat.not_le, gt_iff_lt, ge_iff_le, List.cons.injEq, and_true] at hg); first | (exact absurd trivial hg) | (exfalso; omega) | (have hT : True := hg; clear hT hg) | skip)))
 )
      refine ⟨(i + 1, h', st ++ (bl[i].extract 19 bl[i].size).data.toList, s), ?_, ?_, by refine weak_mkF hfr rfl rfl rfl ?_ ?_ <;> repeat (first | exact envW_nil | exact heapW_nil | refine envW_cons rfl rfl ?_ | refine heapW_cons rfl rfl rfl ?_)⟩
      · show _ - (i + 1) < _ - i; omega
      · exact ⟨hi, b3, hstl, by show s.recs.length ≤ 32 * (i + 1); omega, by show s.gr.length ≤ i + 1; omega, h6⟩
    | true =>
      have c2 := bld_string (gl := gl) (st ++ (bl[i].extract 19 bl[i].size).data.toList)
      have c3 := group_con (gl := gl) ⟨(st ++ (bl[i].extract 19 bl[i].size).data.toList).toArray⟩ (by show (List.toArray _).size ≤ _; simp only [List.size_toArray]; omega)
      cases hg : grp ⟨(st ++ (bl[i].extract 19 bl[i].size).data.toList).toArray⟩ with
      | none =>
        rw [hg] at c3
        rw [findG_bad hc hg] at h6
        rw [h6]
        repeat' (first
 | ((with_reducible apply r_call); exact rfl; exact rfl; (first | exact c0 | exact c3); exact rfl; exact rfl)
 | ((with_reducible apply (r_callO 2)); (first | exact c1 | exact c2); exact rfl; exact rfl; exact rfl; exact rfl)
 | ((with_reducible apply aw_seq))
 | ((with_reducible apply aw_region))
 | ((with_reducible apply aw_block))
 | ((with_reducible apply thn_normal))
 | ((with_reducible apply thn_ret))
 | ((with_reducible apply inb_ret))
 | ((with_reducible apply aw_skip))
 | ((with_reducible apply aw_ret))
 | ((with_reducible apply ao_nil))
 | ((with_reducible apply r_move); exact rfl; exact rfl)
 | ((with_reducible apply r_assign); exact rfl; exact rfl)
 | ((with_reducible apply r_lss); exact rfl; exact rfl; exact rfl)
 | ((with_reducible apply r_eql); exact rfl; exact rfl; exact rfl)
 | ((with_reducible apply r_not); exact rfl; exact rfl)
 | ((with_reducible apply r_index_f); exact rfl; exact inferInstance; exact rfl; exact rfl; (first | assumption | omega); exact rfl)
 | ((with_reducible apply r_load_f0); exact rfl; exact inferInstance; exact List.getElem?_eq_getElem (by first | assumption | omega); exact rfl; exact rfl)
 | ((with_reducible apply r_extract); exact rfl; exact rfl; exact rfl)
 | (((with_reducible apply aw_cond); exact rfl) <;> intro hg <;> (first | (exact absurd hg (by decide)) | ((try simp only [decide_eq_true_eq, decide_eq_false_iff_not, Bool.not_eq_true', Bool.not_eq_false', Bool.not_true, Bool.not_false, Bool.not_not, Int.not_lt, Int.not_le, Nat.not_lt, Nat.not_le, gt_iff_lt, ge_iff_le, List.cons.injEq, and_true] at hg); first | (exact absurd trivial hg) | (exfalso; omega) | (have hT : True := hg; clear hT hg) | skip)))
 )
        all_goals first | exact ⟨⟨.inr rfl, .inr ⟨by decide, [], rfl, .nil⟩⟩, rfl, rfl⟩ | exact ⟨⟨.inl rfl, .inr ⟨by decide, [], rfl, .nil⟩⟩, rfl, rfl⟩
      | some l =>
        rw [hg] at c3
        rw [findG_last hc hg] at h6
        have hl := grp_len hg
        have c4 := add_j (gl := gl) kd s l (i + 1) h' (by omega) (by omega)
        have e1 : (i : Int) + 1 = ((i + 1 : Nat) : Int) := by push_cast; rfl
        repeat' (first
 | (rw [e1])
 | ((with_reducible apply r_call); exact rfl; exact rfl; (first | exact c0 | exact c3); exact rfl; exact rfl)
 | ((with_reducible apply (r_callO 2)); (first | exact c1 | exact c2 | exact bld_reset); exact rfl; exact rfl; exact rfl; exact rfl)
 | ((with_reducible apply (r_callO 0)); exact c4; exact rfl; exact rfl; exact rfl; exact rfl)
 | ((with_reducible apply aw_seq))
 | ((with_reducible apply aw_region))
 | ((with_reducible apply aw_block))
 | ((with_reducible apply thn_normal))
 | ((with_reducible apply inb_normal))
 | ((with_reducible apply aw_skip))
 | ((with_reducible apply ao_nil))
 | ((with_reducible apply r_move); exact rfl; exact rfl)
 | ((with_reducible apply r_assign); exact rfl; exact rfl)
 | ((with_reducible apply r_lss); exact rfl; exact rfl; exact rfl)
 | ((with_reducible apply r_eql); exact rfl; exact rfl; exact rfl)
 | ((with_reducible apply r_add); exact rfl; exact rfl; exact (by first | assumption | (unfold fits; omega)); exact rfl)
 | ((with_reducible apply r_not); exact rfl; exact rfl)
 | ((with_reducible apply r_index_f); exact rfl; exact inferInstance; exact rfl; exact rfl; (first | assumption | omega); exact rfl)
 | ((with_reducible apply r_load_f0); exact rfl; exact inferInstance; exact List.getElem?_eq_getElem (by first | assumption | omega); exact rfl; exact rfl)
 | ((with_reducible apply r_extract); exact rfl; exact rfl; exact rfl)
 | (((with_reducible apply aw_cond); exact rfl) <;> intro hg <;> (first | (exact absurd hg (by decide)) | ((try simp only [decide_eq_true_eq, decide_eq_false_iff_not, Bool.not_eq_true', Bool.not_eq_false', Bool.not_true, Bool.not_false, Bool.not_not, Int.not_lt, Int.not_le, Nat.not_lt, Nat.not_le, gt_iff_lt, ge_iff_le, List.cons.injEq, and_true] at hg); first | (exact absurd trivial hg) | (exfalso; omega) | (have hT : True := hg; clear hT hg) | skip)))
 )
        refine ⟨(i + 1, h', [], s.add l (i + 1) h'), ?_, ?_, by refine weak_mkF hfr rfl rfl rfl ?_ ?_ <;> repeat (first | exact envW_nil | exact heapW_nil | refine envW_cons rfl rfl ?_ | refine heapW_cons rfl rfl rfl ?_)⟩
        · show _ - (i + 1) < _ - i; omega
        · exact ⟨hi, b3, Nat.zero_le _, by rw [JS.recs_add, List.length_append]; show _ ≤ 32 * (i + 1); omega, by show (s.gr ++ [l]).length ≤ i + 1; simp; omega, h6⟩
end Go.Proofs.Ythkjkhffljlidaa.Jo
/- The journal: readAll, Open. -/
namespace Go.Proofs.Ythkjkhffljlidaa.Jo
set_option linter.unusedVariables false
set_option linter.unusedSimpArgs false
open Go.RowKit Go.Proofs.Ythkjkhffljlidaa.Ev Go.Proofs.Ythkjkhffljlidaa.Dk
variable {gl : List (Nat × List CV)}
instance methBlocks : MethT Try.prog 35 "Blocks" 109 := methT_of ptrD (by kernel_rfl)
instance methRead : MethT Try.prog 35 "Read" 20 := methT_of ptrD (by kernel_rfl)
instance methWrite : MethT Try.prog 35 "Write" 23 := methT_of ptrD (by kernel_rfl)
instance methFlush : MethT Try.prog 35 "Flush" 24 := methT_of ptrD (by kernel_rfl)
instance concD : ConcT Try.prog 35 := ⟨by kernel_rfl⟩
def contents (s : DS) : List ByteArray := (List.range s.blocks.length).map (fun n : Nat => (s.read (n : Int)).1)
theorem contents_len (s : DS) : (contents s).length = s.blocks.length := by simp [contents]
theorem contents_succ (s : DS) {n : Nat} (h : n < s.blocks.length) : (contents s).take (n + 1) = (contents s).take n ++ [(s.read (n : Int)).1] := by
  rw [List.take_succ_eq_append_getElem (by rw [contents_len]; exact h)]
  simp [contents]
theorem read_up {s : DS} (hd : s.down = false) {n : Nat} (h : n < s.blocks.length) : (s.read n).2 = 0 := by
  unfold DS.read inB
  rw [hd, if_neg (by decide), if_pos (by simp [h])]
theorem newest_in : ∀ (p : List (Int × ByteArray)) (n : Int) (x : ByteArray), newest p n = some x → ∃ y ∈ p, y.2 = x
  | [], n, x, h => by cases h
  | y :: p, n, x, h => by
    simp only [newest] at h
    cases hn : newest p n with
    | some z =>
      rw [hn] at h
      simp only [Option.some_or, Option.some.injEq] at h; subst h
      obtain ⟨y', h1, h2⟩ := newest_in p n z hn
      exact ⟨y', List.mem_cons_of_mem _ h1, h2⟩
    | none =>
      rw [hn] at h
      simp only [Option.none_or] at h
      split at h
      · simp only [Option.some.injEq] at h; exact ⟨y, List.mem_cons_self .., h⟩
      · cases h
theorem read_size {s : DS} (hf : Fine s) (n : Int) : (s.read n).1.size ≤ 64 := by
  unfold DS.read
  split
  · exact Nat.zero_le _
  split
  · cases hn : newest s.pend n with
    | some x =>
      obtain ⟨y, h1, h2⟩ := newest_in _ _ _ hn
      have := (hf.pend y h1).2
      show x.size ≤ 64
      rw [← h2]; exact this
    | none =>
      show (s.blocks.getD n.toNat ByteArray.empty).size ≤ 64
      rw [List.getD_eq_getElem?_getD]
      cases hg : s.blocks[n.toNat]? with
      | some x => exact hf.text x (List.mem_of_getElem? hg)
      | none => exact Nat.zero_le _
  · exact Nat.zero_le _
theorem contents_size {s : DS} (hf : Fine s) : ∀ x ∈ contents s, x.size ≤ 64 := fun x hx => by
  unfold contents at hx
  obtain ⟨n, _, rfl⟩ := List.mem_map.1 hx
  exact read_size hf n
theorem readAll_up (s : DS) (c : Nat) (hd : s.down = false) (hl : s.blocks.length ≤ 4096) : OCon Try.prog gl 56 [.o (ifcP 35)] (dskP s c) (.tup [LT (contents s), I 0]) (dskP s c) := by
  have c0 := dsk_blocks (gl := gl) s c
  refine ocon_of Try.func56 rfl (by kernel_rfl) rfl (by intro x hx h e; subst e; first | (simp at hx; done) | (intro g; simp at hx; subst hx; rfl)) ?_
  intro fr hfr
  simp only [Try.ntmps56, Try.results56, argEnvO, avOf, of1, List.map]
  repeat' (first
 | ((with_reducible apply aw_seq))
 | ((with_reducible apply aw_region))
 | ((with_reducible apply thn_normal))
 | ((with_reducible apply ao_nil))
 | ((with_reducible apply r_move); exact rfl; exact rfl)
 | ((with_reducible apply r_assign); exact rfl; exact rfl)
 )
  refine ao_nilvec 4 9 1 rfl rfl ?_
  repeat' (first
 | ((with_reducible apply (r_invokeO0 (t := 35))); exact rfl; exact c0; exact rfl; exact rfl)
 | ((with_reducible apply aw_block))
 | ((with_reducible apply thn_normal))
 | ((with_reducible apply ao_nil))
 | ((with_reducible apply r_move); exact rfl; exact rfl)
 )
  refine aw_loopG (G := Nat) (fun (n : Nat) => n ≤ s.blocks.length) (fun (n : Nat) => s.blocks.length - n) (fun (n : Nat) => [(0, .ref 0 (ifcP 35)), (4, .vec 2 n), (9, A s.blocks.length), (10, A n)]) (fun (n : Nat) => [(1, fr), (0, some (.obj (dskP s c))), (2, some (.vec 9 1 (((contents s).take n).flatMap stC)))]) 3 0 ?_ (by refine weak_mkF hfr rfl rfl rfl ?_ ?_ <;> repeat (first | exact envW_nil | exact heapW_nil | refine envW_cons rfl rfl ?_ | refine heapW_cons rfl rfl rfl ?_)) rfl ?_
  · exact Nat.zero_le _
  rintro n hI
  try dsimp only at hI
  try dsimp only
  have hml : ((contents s).take n).length = n := by rw [List.length_take, contents_len]; omega
  by_cases hn : n < s.blocks.length
  · have c1 := dsk_read (gl := gl) s c n
    rw [read_up hd hn] at c1
    have hst := contents_succ s hn
    generalize (s.read n).1 = x at c1 hst
    repeat' (first
 | ((with_reducible apply (r_invokeO (t := 35))); exact rfl; exact c1; exact rfl; exact rfl; exact rfl; exact rfl)
 | ((with_reducible apply r_litq); exact rfl; exact rfl; exact rfl; exact rfl; exact rfl; exact rfl; exact rfl)
 | ((with_reducible apply (r_appendl (enc := stC) (l2 := [x]))); exact rfl; exact rfl; exact inferInstance; exact hml; exact rfl; exact (by show n + 1 < _; omega); exact (by show (n + 1) * _ ≤ _; omega); exact rfl)
 | ((with_reducible apply aw_seq))
 | ((with_reducible apply aw_region))
 | ((with_reducible apply aw_block))
 | ((with_reducible apply thn_normal))
 | ((with_reducible apply inb_normal))
 | ((with_reducible apply aw_skip))
 | ((with_reducible apply ao_nil))
 | ((with_reducible apply r_move); exact rfl; exact rfl)
 | ((with_reducible apply r_assign); exact rfl; exact rfl)
 | ((with_reducible apply r_lss); exact rfl; exact rfl; exact rfl)
 | ((with_reducible apply r_neq); exact rfl; exact rfl; exact rfl)
 | ((with_reducible apply r_add); exact rfl; exact rfl; exact (by first | assumption | (unfold fits; omega)); exact rfl)
 | ((with_reducible apply r_extract); exact rfl; exact rfl; exact rfl)
 | (((with_reducible apply aw_cond); exact rfl) <;> intro hg <;> (first | (exact absurd hg (by decide)) | ((try simp only [decide_eq_true_eq, decide_eq_false_iff_not, Bool.not_eq_true', Bool.not_eq_false', Bool.not_true, Bool.not_false, Bool.not_not, Int.not_lt, Int.not_le, Nat.not_lt, Nat.not_le, gt_iff_lt, ge_iff_le, List.cons.injEq, and_true] at hg); first | (exact absurd trivial hg) | (exfalso; omega) | (have hT : True := hg; clear hT hg) | skip)))
 )
    rw [← hst]
    refine ⟨n + 1, ?_, ?_, by refine weak_mkF hfr rfl rfl rfl ?_ ?_ <;> repeat (first | exact envW_nil | exact heapW_nil | refine envW_cons rfl rfl ?_ | refine heapW_cons rfl rfl rfl ?_)⟩
    · show _ - (n + 1) < _ - n; omega
    · show n + 1 ≤ _; omega
  · obtain rfl : n = s.blocks.length := by omega
    rw [← contents_len, List.take_length] at hml ⊢
    repeat' (first
 | ((with_reducible apply aw_seq))
 | ((with_reducible apply aw_region))
 | ((with_reducible apply thn_normal))
 | ((with_reducible apply thn_exit))
 | ((with_reducible apply inb_exit))
 | ((with_reducible apply aw_exit))
 | ((with_reducible apply aw_ret))
 | ((with_reducible apply ao_nil))
 | ((with_reducible apply r_move); exact rfl; exact rfl)
 | ((with_reducible apply r_assign); exact rfl; exact rfl)
 | ((with_reducible apply r_lss); exact rfl; exact rfl; exact rfl)
 | (((with_reducible apply aw_cond); exact rfl) <;> intro hg <;> (first | (exact absurd hg (by decide)) | ((try simp only [decide_eq_true_eq, decide_eq_false_iff_not, Bool.not_eq_true', Bool.not_eq_false', Bool.not_true, Bool.not_false, Bool.not_not, Int.not_lt, Int.not_le, Nat.not_lt, Nat.not_le, gt_iff_lt, ge_iff_le, List.cons.injEq, and_true] at hg); first | (exact absurd trivial hg) | (exfalso; omega) | (have hT : True := hg; clear hT hg) | skip)))
 )
    all_goals exact ⟨ret2 (.cons (.tmp rfl (cl_vec rfl (by rw [flat_len EncL.len]))) (.cons (.tmp rfl cl_c) .nil)), rfl, rfl⟩
def openD (s : DS) : JS := findG 0 [] 0 (contents s) J0
theorem open_up (s : DS) (c kd : Nat) (hd : s.down = false) (hf : Fine s) : OConE Try.prog gl 28 [.p] ((dskP s c).at kd) (fun kj : Nat => .tup [ptrV kj 0, I 0]) (fun kj => starP ((dskP s c).at kd) kj (jP kd (openD s))) := by
  have c0 := (readAll_up (gl := gl) s c hd hf.len.2).at0 kd
  have c1 := find_j (gl := gl) kd (contents s) (by rw [contents_len]; have := hf.len; omega) (contents_size hf)
  refine oconE_of Try.func28 rfl (by kernel_rfl) rfl (by intro x hx h e; subst e; first | (simp at hx; done) | (intro g; simp at hx; subst hx; rfl)) ?_
  intro fr hfr
  simp only [Try.ntmps28, Try.results28, argEnvO, avOf, of1, List.map]
  repeat' (first
 | ((with_reducible apply r_eqnilp); exact rfl; exact rfl; exact rfl)
 | ((with_reducible apply r_mkif); exact rfl; exact rfl)
 | ((with_reducible apply (r_callO 0)); exact c0; exact rfl; exact rfl; exact rfl; exact rfl)
 | ((with_reducible apply aw_seq))
 | ((with_reducible apply aw_region))
 | ((with_reducible apply thn_normal))
 | ((with_reducible apply aw_skip))
 | ((with_reducible apply ao_nil))
 | ((with_reducible apply r_move); exact rfl; exact rfl)
 | ((with_reducible apply r_assign); exact rfl; exact rfl)
 | ((with_reducible apply r_neq); exact rfl; exact rfl; exact rfl)
 | ((with_reducible apply r_box_a); exact rfl; exact rfl)
 | ((with_reducible apply r_build); exact rfl; exact rfl; exact rfl)
 | ((with_reducible apply r_extract); exact rfl; exact rfl; exact rfl)
 | (((with_reducible apply aw_cond); exact rfl) <;> intro hg <;> (first | (exact absurd hg (by decide)) | ((try simp only [decide_eq_true_eq, decide_eq_false_iff_not, Bool.not_eq_true', Bool.not_eq_false', Bool.not_true, Bool.not_false, Bool.not_not, Int.not_lt, Int.not_le, Nat.not_lt, Nat.not_le, gt_iff_lt, ge_iff_le, List.cons.injEq, and_true] at hg); first | (exact absurd trivial hg) | (exfalso; omega) | (have hT : True := hg; clear hT hg) | skip)))
 )
  refine ao_boxObjR 2 0 kd (t := TJ) (vs := [ifcP TD kd, .slice none 0 0, .int .i64 0, .int .i64 0, .int .u64 0, .bool false]) (q := jP kd J0) rfl rfl rfl (fun w g h => jP_new kd w g h) ?_
  refine r_callO 2 c1 rfl rfl rfl rfl ?_
  refine ao_root 2 rfl (fun kj => ?_)
  refine ao_slot 6 2 kj rfl rfl rfl ?_
  refine ao_join 0 2 kj rfl rfl rfl ?_
  repeat' (first
 | ((with_reducible apply aw_seq))
 | ((with_reducible apply aw_region))
 | ((with_reducible apply thn_normal))
 | ((with_reducible apply aw_ret))
 | ((with_reducible apply ao_nil))
 | ((with_reducible apply r_move); exact rfl; exact rfl)
 | ((with_reducible apply r_assign); exact rfl; exact rfl)
 )
  all_goals exact ret_o kj (ret2 (.cons (.tmp rfl cl_c) (.cons (.tmp rfl cl_c) .nil))) rfl rfl
end Go.Proofs.Ythkjkhffljlidaa.Jo
/- The journal: Room, write, Append. -/
namespace Go.Proofs.Ythkjkhffljlidaa.Jo
set_option linter.unusedVariables false
set_option linter.unusedSimpArgs false
open Go.RowKit Go.Proofs.Ythkjkhffljlidaa.Ev Go.Proofs.Ythkjkhffljlidaa.Dk
variable {gl : List (Nat × List CV)}
abbrev DJ (d : DS) (c kd kj : Nat) (t : JS) : ObjP := starP ((dskP d c).at kd) kj (jP kd t)
theorem dskP_mono {d : DS} {c c' : Nat} (h : c ≤ c') {w : World} {g : Nat} {fp : Nat → Prop} (hp : (dskP d c).holds w g fp) : (dskP d c').holds w g fp := by
  obtain ⟨bv, pv, gm, n, h1, h2, h3⟩ := hp
  exact ⟨bv, pv, gm, n, h1, by omega, h3⟩
theorem at_mono {d : DS} {c c' kd : Nat} (h : c ≤ c') : ∀ w g fp, ((dskP d c).at kd).holds w g fp → fp g → ∃ fp', ((dskP d c').at kd).holds w g fp' ∧ fp' g ∧ ∀ j, fp' j → fp j :=
  fun w g fp hp hg => ⟨fp, ⟨hp.1, dskP_mono h hp.2⟩, hg, fun _ h => h⟩
theorem DJ_mono {d : DS} {c c' kd kj : Nat} {t : JS} (h : c ≤ c') : ∀ w g fp, (DJ d c kd kj t).holds w g fp → fp g → ∃ fp', (DJ d c' kd kj t).holds w g fp' ∧ fp' g ∧ ∀ j, fp' j → fp j :=
  fun w g fp ⟨f1, f2, h1, h2, h3, h4, h5, h6⟩ hg => ⟨fp, ⟨f1, f2, ⟨h1.1, dskP_mono h h1.2⟩, h2, h3, h4, h5, h6⟩, hg, fun _ h => h⟩
theorem room_dj (d : DS) (c kd kj : Nat) (t : JS) (hl : d.blocks.length ≤ 4096) (hu : t.used ≤ 1000000) : OCon Try.prog gl 18 [.c (ptrV kj 0)] (DJ d c kd kj t) (I ((d.blocks.length : Int) - (t.used : Nat))) (DJ d c kd kj t) := by
  have c0 := ((dsk_blocks (gl := gl) d c).at kd).left kj (jP kd t)
  refine ocon_of Try.func18 rfl (by kernel_rfl) rfl (by intro x hx h e; subst e; first | (simp at hx; done) | (intro g; simp at hx; subst hx; rfl)) ?_
  intro fr hfr
  simp only [Try.ntmps18, Try.results18, argEnvO, avOf, of1, List.map]
  repeat' (first
 | ((with_reducible apply (r_load_oc 0)); exact rfl; exact rfl; exact star_load (jP_cell (by decide) (fun _ => rfl)); exact rfl)
 | ((with_reducible apply r_nilc); exact rfl; exact rfl)
 | ((with_reducible apply r_field_c); exact rfl; exact rfl)
 | ((with_reducible apply r_eqnil1); exact rfl; exact rfl; exact rfl)
 | ((with_reducible apply (r_invokeq (t := 35) 0)); exact rfl; exact c0; exact rfl; exact rfl; exact rfl)
 | ((with_reducible apply aw_seq))
 | ((with_reducible apply aw_region))
 | ((with_reducible apply thn_normal))
 | ((with_reducible apply aw_skip))
 | ((with_reducible apply aw_ret))
 | ((with_reducible apply ao_nil))
 | ((with_reducible apply r_move); exact rfl; exact rfl)
 | ((with_reducible apply r_assign); exact rfl; exact rfl)
 | ((with_reducible apply r_sub); exact rfl; exact rfl; exact (by first | assumption | (unfold fits; omega)); exact rfl)
 | (((with_reducible apply aw_cond); exact rfl) <;> intro hg <;> (first | (exact absurd hg (by decide)) | ((try simp only [decide_eq_true_eq, decide_eq_false_iff_not, Bool.not_eq_true', Bool.not_eq_false', Bool.not_true, Bool.not_false, Bool.not_not, Int.not_lt, Int.not_le, Nat.not_lt, Nat.not_le, gt_iff_lt, ge_iff_le, List.cons.injEq, and_true] at hg); first | (exact absurd trivial hg) | (exfalso; omega) | (have hT : True := hg; clear hT hg) | skip)))
 | (refine aw_drawq ?_ ?_; (kernel_rfl))
 | ((with_reducible apply ds_nil))
 )
  all_goals exact ⟨ret1 (.tmp rfl cl_c), rfl, rfl⟩
def writeS (d : DS) (n : Nat) : List ByteArray → DS × Int
  | [] => d.flush
  | b :: l => if (d.write (n : Int) b).2 ≠ 0 then d.write (n : Int) b else writeS (d.write (n : Int) b).1 (n + 1) l
theorem write_dj (d : DS) (c kd kj : Nat) (t : JS) (bl : List ByteArray) (hc : c + bl.length ≤ 900000) (hu : t.used ≤ 1000000) (hs : ∀ x ∈ bl, x.size ≤ 1000) : OCon Try.prog gl 48 [.c (ptrV kj 0), .c (LT bl)] (DJ d c kd kj t) (I (writeS d t.used bl).2) (DJ (writeS d t.used bl).1 (c + bl.length + 1) kd kj t) := by
  refine ocon_of Try.func48 rfl (by kernel_rfl) rfl (by intro x hx h e; subst e; first | (simp at hx; done) | (intro g; simp at hx; subst hx; rfl)) ?_
  intro fr hfr
  simp only [Try.ntmps48, Try.results48, argEnvO, avOf, of1, List.map]
  repeat' (first
 | ((with_reducible apply aw_seq))
 | ((with_reducible apply aw_region))
 | ((with_reducible apply aw_block))
 | ((with_reducible apply thn_normal))
 | ((with_reducible apply ao_nil))
 | ((with_reducible apply r_move); exact rfl; exact rfl)
 | ((with_reducible apply r_assign); exact rfl; exact rfl)
 | ((with_reducible apply r_len_f); exact rfl; exact inferInstance; exact rfl)
 )
  refine aw_loopG (G := Nat × DS) (fun ((i, d') : Nat × DS) => i ≤ bl.length ∧ writeS d t.used bl = writeS d' (t.used + i) (bl.drop i)) (fun ((i, d') : Nat × DS) => bl.length - i) (fun ((i, d') : Nat × DS) => [(0, .c (ptrV kj 0)), (8, .c (LT bl)), (9, A bl.length), (10, A i)]) (fun ((i, d') : Nat × DS) => [(1, fr), (0, some (.obj (DJ d' (c + i) kd kj t)))]) 2 (0, d) ?_ (by refine weak_mkF hfr rfl rfl rfl ?_ ?_ <;> repeat (first | exact envW_nil | exact heapW_nil | refine envW_cons rfl rfl ?_ | refine heapW_cons rfl rfl rfl ?_)) rfl ?_
  · exact ⟨Nat.zero_le _, by rw [List.drop_zero]; rfl⟩
  rintro ⟨i, d'⟩ hI
  try dsimp only at hI
  try dsimp only
  obtain ⟨h1, h2⟩ := hI
  by_cases hi : i < bl.length
  · rw [List.drop_eq_getElem_cons hi, writeS] at h2
    have hsz := hs bl[i] (List.getElem_mem hi)
    have c0 := ((dsk_write (gl := gl) d' (c + i) (by omega) ((t.used + i : Nat) : Int) bl[i] (by unfold maxLen; omega)).at kd).left kj (jP kd t)
    have e1 : ((t.used : Nat) : Int) + (i : Int) = ((t.used + i : Nat) : Int) := by push_cast; rfl
    generalize d'.write ((t.used + i : Nat) : Int) bl[i] = v at c0 h2
    obtain ⟨d2, e⟩ := v
    dsimp only at c0 h2
    repeat' (first
 | (refine aw_drawt 13 ?_ ?_; (kernel_rfl); (simp only [List.take_succ_cons, List.take_zero, List.drop_succ_cons, List.drop_zero]))
 | (rw [e1])
 | ((with_reducible apply (r_load_oc 0)); exact rfl; exact rfl; exact star_load (jP_cell (by decide) (fun _ => rfl)); exact rfl)
 | ((with_reducible apply r_nilc); exact rfl; exact rfl)
 | ((with_reducible apply r_nilIfc); exact rfl; exact rfl)
 | ((with_reducible apply r_field_c); exact rfl; exact rfl)
 | ((with_reducible apply aw_seq))
 | ((with_reducible apply aw_region))
 | ((with_reducible apply aw_block))
 | ((with_reducible apply thn_normal))
 | ((with_reducible apply aw_skip))
 | ((with_reducible apply ao_nil))
 | ((with_reducible apply r_move); exact rfl; exact rfl)
 | ((with_reducible apply r_assign); exact rfl; exact rfl)
 | ((with_reducible apply r_lss); exact rfl; exact rfl; exact rfl)
 | ((with_reducible apply r_add); exact rfl; exact rfl; exact (by first | assumption | (unfold fits; omega)); exact rfl)
 | ((with_reducible apply r_index_f); exact rfl; exact inferInstance; exact rfl; exact rfl; (first | assumption | omega); exact rfl)
 | ((with_reducible apply r_load_f0); exact rfl; exact inferInstance; exact List.getElem?_eq_getElem (by first | assumption | omega); exact rfl; exact rfl)
 | (((with_reducible apply aw_cond); exact rfl) <;> intro hg <;> (first | (exact absurd hg (by decide)) | ((try simp only [decide_eq_true_eq, decide_eq_false_iff_not, Bool.not_eq_true', Bool.not_eq_false', Bool.not_true, Bool.not_false, Bool.not_not, Int.not_lt, Int.not_le, Nat.not_lt, Nat.not_le, gt_iff_lt, ge_iff_le, List.cons.injEq, and_true] at hg); first | (exact absurd trivial hg) | (exfalso; omega) | (have hT : True := hg; clear hT hg) | skip)))
 | ((with_reducible apply ds_nil))
 )
    refine r_invokeC (t := 35) 0 rfl c0 rfl rfl rfl rfl ?_
    by_cases he : e = 0
    · rw [if_neg (by simp [he])] at h2
      subst he
      repeat' (first
 | ((with_reducible apply aw_seq))
 | ((with_reducible apply aw_region))
 | ((with_reducible apply thn_normal))
 | ((with_reducible apply inb_normal))
 | ((with_reducible apply aw_skip))
 | ((with_reducible apply ao_nil))
 | ((with_reducible apply r_move); exact rfl; exact rfl)
 | ((with_reducible apply r_assign); exact rfl; exact rfl)
 | ((with_reducible apply r_neq); exact rfl; exact rfl; exact rfl)
 | ((with_reducible apply r_add); exact rfl; exact rfl; exact (by first | assumption | (unfold fits; omega)); exact rfl)
 | (((with_reducible apply aw_cond); exact rfl) <;> intro hg <;> (first | (exact absurd hg (by decide)) | ((try simp only [decide_eq_true_eq, decide_eq_false_iff_not, Bool.not_eq_true', Bool.not_eq_false', Bool.not_true, Bool.not_false, Bool.not_not, Int.not_lt, Int.not_le, Nat.not_lt, Nat.not_le, gt_iff_lt, ge_iff_le, List.cons.injEq, and_true] at hg); first | (exact absurd trivial hg) | (exfalso; omega) | (have hT : True := hg; clear hT hg) | skip)))
 )
      rw [show c + i + 1 = c + (i + 1) by omega]
      refine ⟨(i + 1, d2), ?_, ?_, by refine weak_mkF hfr rfl rfl rfl ?_ ?_ <;> repeat (first | exact envW_nil | exact heapW_nil | refine envW_cons rfl rfl ?_ | refine heapW_cons rfl rfl rfl ?_)⟩
      · show _ - (i + 1) < _ - i; omega
      · exact ⟨hi, by rw [h2]; rfl⟩
    · rw [if_pos he] at h2
      rw [h2]
      refine ao_objW 0 (DJ d2 (c + bl.length + 1) kd kj t) rfl (DJ_mono (by omega)) ?_
      repeat' (first
 | ((with_reducible apply aw_seq))
 | ((with_reducible apply aw_region))
 | ((with_reducible apply thn_normal))
 | ((with_reducible apply thn_ret))
 | ((with_reducible apply inb_ret))
 | ((with_reducible apply aw_ret))
 | ((with_reducible apply ao_nil))
 | ((with_reducible apply r_move); exact rfl; exact rfl)
 | ((with_reducible apply r_assign); exact rfl; exact rfl)
 | ((with_reducible apply r_neq); exact rfl; exact rfl; exact rfl)
 | (((with_reducible apply aw_cond); exact rfl) <;> intro hg <;> (first | (exact absurd hg (by decide)) | ((try simp only [decide_eq_true_eq, decide_eq_false_iff_not, Bool.not_eq_true', Bool.not_eq_false', Bool.not_true, Bool.not_false, Bool.not_not, Int.not_lt, Int.not_le, Nat.not_lt, Nat.not_le, gt_iff_lt, ge_iff_le, List.cons.injEq, and_true] at hg); first | (exact absurd trivial hg) | (exfalso; omega) | (have hT : True := hg; clear hT hg) | skip)))
 )
      all_goals exact ⟨ret1 (.tmp rfl cl_c), rfl, rfl⟩
  · obtain rfl : i = bl.length := by omega
    rw [List.drop_length, writeS] at h2
    have c1 := ((dsk_flush (gl := gl) d' (c + bl.length) (by omega)).at kd).left kj (jP kd t)
    rw [h2]
    repeat' (first
 | ((with_reducible apply (r_load_oc 0)); exact rfl; exact rfl; exact star_load (jP_cell (by decide) (fun _ => rfl)); exact rfl)
 | ((with_reducible apply r_nilc); exact rfl; exact rfl)
 | ((with_reducible apply r_nilIfc); exact rfl; exact rfl)
 | ((with_reducible apply r_field_c); exact rfl; exact rfl)
 | ((with_reducible apply (r_invokeC0 (t := 35) 0)); exact rfl; exact c1; exact rfl; exact rfl)
 | ((with_reducible apply aw_seq))
 | ((with_reducible apply aw_region))
 | ((with_reducible apply thn_normal))
 | ((with_reducible apply thn_exit))
 | ((with_reducible apply inb_exit))
 | ((with_reducible apply aw_exit))
 | ((with_reducible apply aw_ret))
 | ((with_reducible apply ao_nil))
 | ((with_reducible apply r_move); exact rfl; exact rfl)
 | ((with_reducible apply r_assign); exact rfl; exact rfl)
 | ((with_reducible apply r_lss); exact rfl; exact rfl; exact rfl)
 | (((with_reducible apply aw_cond); exact rfl) <;> intro hg <;> (first | (exact absurd hg (by decide)) | ((try simp only [decide_eq_true_eq, decide_eq_false_iff_not, Bool.not_eq_true', Bool.not_eq_false', Bool.not_true, Bool.not_false, Bool.not_not, Int.not_lt, Int.not_le, Nat.not_lt, Nat.not_le, gt_iff_lt, ge_iff_le, List.cons.injEq, and_true] at hg); first | (exact absurd trivial hg) | (exfalso; omega) | (have hT : True := hg; clear hT hg) | skip)))
 )
    all_goals exact ⟨ret1 (.tmp rfl cl_c), rfl, rfl⟩
def appS (t : JS) (d : DS) (g : List ByteArray) : JS × DS × Int :=
  if t.stop = true then (t, d, 17)
  else if (divS t.head g).2.2 ≠ 0 then (t, d, (divS t.head g).2.2)
  else if d.blocks.length < t.used + (divS t.head g).1.length then (t, d, 12)
  else if (writeS d t.used (divS t.head g).1).2 ≠ 0 then ({ t with stop := true }, (writeS d t.used (divS t.head g).1).1, 17)
  else (t.add g (t.used + (divS t.head g).1.length) (divS t.head g).2.1, (writeS d t.used (divS t.head g).1).1, 0)
theorem divB_size : ∀ (k prev : Nat) (s : ByteArray), s.size ≤ k → ∀ x ∈ (divB prev s).1, x.size ≤ 64
  | 0, prev, s, h => by rw [divB_nil (by omega)]; exact fun x hx => by cases hx
  | k + 1, prev, s, h => by
    by_cases h0 : s.size = 0
    · rw [divB_nil h0]; exact fun x hx => by cases hx
    · rw [divB_cons h0 rfl rfl rfl]
      have hs : (s.extract (min s.size 45) s.size).size ≤ k := by rw [ByteArray.size_extract]; omega
      intro x hx
      rcases List.mem_cons.1 hx with rfl | hx
      · rw [ByteArray.size_append, hexS_size, restN_size, ByteArray.size_extract]; omega
      · exact divB_size k _ _ hs x hx
theorem divS_size (prev : Nat) (g : List ByteArray) : ∀ x ∈ (divS prev g).1, x.size ≤ 64 := by
  unfold divS
  split
  · exact fun x hx => by cases hx
  · exact divB_size _ _ _ (Nat.le_refl _)
theorem divS_lt (prev : Nat) (g : List ByteArray) (hp : prev < 2 ^ 64) : (divS prev g).2.1 < 2 ^ 64 := by
  unfold divS
  split
  · show 0 < 2 ^ 64; decide
  · exact (divB_len _ _ _ (Nat.le_refl _)).2 hp
theorem append_dj (d : DS) (c kd kj : Nat) (t : JS) (g : List ByteArray) (hc : c ≤ 800000) (hl : d.blocks.length ≤ 4096) (hu : t.used ≤ 4096) (hh : t.head < 2 ^ 64) (hg : g.length ≤ 100000000) (hr : t.recs.length ≤ 100000000) (hgr : t.gr.length ≤ 100000000) : OCon Try.prog gl 17 [.c (ptrV kj 0), .c (LT g)] (DJ d c kd kj t) (I (appS t d g).2.2) (DJ (appS t d g).2.1 (c + 5000) kd kj (appS t d g).1) := by
  have c0 := divide_con (gl := gl) t.head hh g (by omega)
  have hds := divS_size t.head g
  unfold appS
  generalize divS t.head g = v at c0 hds
  obtain ⟨bl, h, e⟩ := v
  dsimp only at c0 hds ⊢
  refine ocon_of Try.func17 rfl (by kernel_rfl) rfl (by intro x hx h e; subst e; first | (simp at hx; done) | (intro g; simp at hx; subst hx; rfl)) ?_
  intro fr hfr
  simp only [Try.ntmps17, Try.results17, argEnvO, avOf, of1, List.map]
  by_cases h1 : t.stop = true
  · rw [if_pos h1]
    refine aw_objW 0 (DJ d (c + 5000) kd kj t) rfl (DJ_mono (by omega)) ?_
    repeat' (first
 | (rw [h1])
 | ((with_reducible apply (r_load_oc 0)); exact rfl; exact rfl; exact star_load (jP_cell (by decide) (fun _ => rfl)); exact rfl)
 | ((with_reducible apply r_nilc); exact rfl; exact rfl)
 | ((with_reducible apply r_field_c); exact rfl; exact rfl)
 | ((with_reducible apply r_eqnil1); exact rfl; exact rfl; exact rfl)
 | ((with_reducible apply aw_seq))
 | ((with_reducible apply aw_region))
 | ((with_reducible apply thn_normal))
 | ((with_reducible apply thn_ret))
 | ((with_reducible apply aw_skip))
 | ((with_reducible apply aw_ret))
 | ((with_reducible apply ao_nil))
 | ((with_reducible apply r_move); exact rfl; exact rfl)
 | ((with_reducible apply r_assign); exact rfl; exact rfl)
 | (((with_reducible apply aw_cond); exact rfl) <;> intro hg <;> (first | (exact absurd hg (by decide)) | ((try simp only [decide_eq_true_eq, decide_eq_false_iff_not, Bool.not_eq_true', Bool.not_eq_false', Bool.not_true, Bool.not_false, Bool.not_not, Int.not_lt, Int.not_le, Nat.not_lt, Nat.not_le, gt_iff_lt, ge_iff_le, List.cons.injEq, and_true] at hg); first | (exact absurd trivial hg) | (exfalso; omega) | (have hT : True := hg; clear hT hg) | skip)))
 )
    all_goals exact ⟨ret1 (.tmp rfl cl_c), rfl, rfl⟩
  rw [if_neg h1]
  have h1 : t.stop = false := by simpa using h1
  by_cases h2 : e = 0
  rotate_left
  · rw [if_pos h2]
    refine aw_objW 0 (DJ d (c + 5000) kd kj t) rfl (DJ_mono (by omega)) ?_
    repeat' (first
 | (rw [h1])
 | ((with_reducible apply (r_call (f := 42))); exact rfl; exact rfl; exact c0; exact rfl; exact rfl)
 | ((with_reducible apply (r_load_oc 0)); exact rfl; exact rfl; exact star_load (jP_cell (by decide) (fun _ => rfl)); exact rfl)
 | ((with_reducible apply r_nilc); exact rfl; exact rfl)
 | ((with_reducible apply r_field_c); exact rfl; exact rfl)
 | ((with_reducible apply r_eqnil1); exact rfl; exact rfl; exact rfl)
 | ((with_reducible apply aw_seq))
 | ((with_reducible apply aw_region))
 | ((with_reducible apply thn_normal))
 | ((with_reducible apply thn_ret))
 | ((with_reducible apply aw_skip))
 | ((with_reducible apply aw_ret))
 | ((with_reducible apply ao_nil))
 | ((with_reducible apply r_move); exact rfl; exact rfl)
 | ((with_reducible apply r_assign); exact rfl; exact rfl)
 | ((with_reducible apply r_neq); exact rfl; exact rfl; exact rfl)
 | ((with_reducible apply r_extract); exact rfl; exact rfl; exact rfl)
 | (((with_reducible apply aw_cond); exact rfl) <;> intro hg <;> (first | (exact absurd hg (by decide)) | ((try simp only [decide_eq_true_eq, decide_eq_false_iff_not, Bool.not_eq_true', Bool.not_eq_false', Bool.not_true, Bool.not_false, Bool.not_not, Int.not_lt, Int.not_le, Nat.not_lt, Nat.not_le, gt_iff_lt, ge_iff_le, List.cons.injEq, and_true] at hg); first | (exact absurd trivial hg) | (exfalso; omega) | (have hT : True := hg; clear hT hg) | skip)))
 )
    all_goals exact ⟨ret1 (.tmp rfl cl_c), rfl, rfl⟩
  rw [if_neg (by simp [h2])]
  subst h2
  by_cases h3 : d.blocks.length < t.used + bl.length
  · rw [if_pos h3]
    have c1 := room_dj (gl := gl) d (c + 5000) kd kj t hl (by omega)
    refine aw_objW 0 (DJ d (c + 5000) kd kj t) rfl (DJ_mono (by omega)) ?_
    repeat' (first
 | (rw [h1])
 | ((with_reducible apply (r_call (f := 42))); exact rfl; exact rfl; exact c0; exact rfl; exact rfl)
 | ((with_reducible apply (r_callqO (f := 18) 0)); exact c1; exact rfl; exact rfl; exact rfl; exact rfl; exact rfl)
 | ((with_reducible apply (r_load_oc 0)); exact rfl; exact rfl; exact star_load (jP_cell (by decide) (fun _ => rfl)); exact rfl)
 | ((with_reducible apply r_nilc); exact rfl; exact rfl)
 | ((with_reducible apply r_field_c); exact rfl; exact rfl)
 | ((with_reducible apply r_eqnil1); exact rfl; exact rfl; exact rfl)
 | ((with_reducible apply aw_seq))
 | ((with_reducible apply aw_region))
 | ((with_reducible apply thn_normal))
 | ((with_reducible apply thn_ret))
 | ((with_reducible apply aw_skip))
 | ((with_reducible apply aw_ret))
 | ((with_reducible apply ao_nil))
 | ((with_reducible apply r_move); exact rfl; exact rfl)
 | ((with_reducible apply r_assign); exact rfl; exact rfl)
 | ((with_reducible apply r_gtr); exact rfl; exact rfl; exact rfl)
 | ((with_reducible apply r_neq); exact rfl; exact rfl; exact rfl)
 | ((with_reducible apply r_len_f); exact rfl; exact inferInstance; exact rfl)
 | ((with_reducible apply r_extract); exact rfl; exact rfl; exact rfl)
 | (((with_reducible apply aw_cond); exact rfl) <;> intro hg <;> (first | (exact absurd hg (by decide)) | ((try simp only [decide_eq_true_eq, decide_eq_false_iff_not, Bool.not_eq_true', Bool.not_eq_false', Bool.not_true, Bool.not_false, Bool.not_not, Int.not_lt, Int.not_le, Nat.not_lt, Nat.not_le, gt_iff_lt, ge_iff_le, List.cons.injEq, and_true] at hg); first | (exact absurd trivial hg) | (exfalso; omega) | (have hT : True := hg; clear hT hg) | skip)))
 )
    all_goals exact ⟨ret1 (.tmp rfl cl_c), rfl, rfl⟩
  rw [if_neg h3]
  obtain ⟨c', hc'⟩ : ∃ c', c' = c + 4999 - bl.length := ⟨_, rfl⟩
  have c1 := room_dj (gl := gl) d c' kd kj t hl (by omega)
  have c2 := write_dj (gl := gl) d c' kd kj t bl (by omega) (by omega) (fun x hx => by have := hds x hx; omega)
  rw [show c' + bl.length + 1 = c + 5000 by omega] at c2
  generalize writeS d t.used bl = v at c2
  obtain ⟨d2, e2⟩ := v
  dsimp only at c2 ⊢
  refine aw_objW 0 (DJ d c' kd kj t) rfl (DJ_mono (by omega)) ?_
  by_cases h4 : e2 = 0
  · rw [if_neg (by simp [h4])]
    subst h4
    have c3 := (add_j (gl := gl) kd t g (t.used + bl.length) h (by omega) (by omega)).right ((dskP d2 (c + 5000)).at kd) kj
    have e1 : ((t.used : Nat) : Int) + (bl.length : Int) = ((t.used + bl.length : Nat) : Int) := by push_cast; rfl
    repeat' (first
 | (rw [h1])
 | (rw [e1])
 | ((with_reducible apply (r_call (f := 42))); exact rfl; exact rfl; exact c0; exact rfl; exact rfl)
 | ((with_reducible apply (r_callqO (f := 18) 0)); exact c1; exact rfl; exact rfl; exact rfl; exact rfl; exact rfl)
 | ((with_reducible apply (r_callO (f := 48) 0)); exact c2; exact rfl; exact rfl; exact rfl; exact rfl)
 | ((with_reducible apply (r_callO (f := 49) 0)); exact c3; exact rfl; exact rfl; exact rfl; exact rfl)
 | ((with_reducible apply (r_load_oc 0)); exact rfl; exact rfl; exact star_load (jP_cell (by decide) (fun _ => rfl)); exact rfl)
 | ((with_reducible apply r_nilc); exact rfl; exact rfl)
 | ((with_reducible apply r_field_c); exact rfl; exact rfl)
 | ((with_reducible apply r_eqnil1); exact rfl; exact rfl; exact rfl)
 | ((with_reducible apply aw_seq))
 | ((with_reducible apply aw_region))
 | ((with_reducible apply thn_normal))
 | ((with_reducible apply aw_skip))
 | ((with_reducible apply aw_ret))
 | ((with_reducible apply ao_nil))
 | ((with_reducible apply r_move); exact rfl; exact rfl)
 | ((with_reducible apply r_assign); exact rfl; exact rfl)
 | ((with_reducible apply r_gtr); exact rfl; exact rfl; exact rfl)
 | ((with_reducible apply r_neq); exact rfl; exact rfl; exact rfl)
 | ((with_reducible apply r_add); exact rfl; exact rfl; exact (by first | assumption | (unfold fits; omega)); exact rfl)
 | ((with_reducible apply r_len_f); exact rfl; exact inferInstance; exact rfl)
 | ((with_reducible apply r_extract); exact rfl; exact rfl; exact rfl)
 | (((with_reducible apply aw_cond); exact rfl) <;> intro hg <;> (first | (exact absurd hg (by decide)) | ((try simp only [decide_eq_true_eq, decide_eq_false_iff_not, Bool.not_eq_true', Bool.not_eq_false', Bool.not_true, Bool.not_false, Bool.not_not, Int.not_lt, Int.not_le, Nat.not_lt, Nat.not_le, gt_iff_lt, ge_iff_le, List.cons.injEq, and_true] at hg); first | (exact absurd trivial hg) | (exfalso; omega) | (have hT : True := hg; clear hT hg) | skip)))
 )
    all_goals exact ⟨ret1 (.tmp rfl cl_c), rfl, rfl⟩
  · rw [if_pos h4]
    repeat' (first
 | (rw [h1])
 | ((with_reducible apply (r_call (f := 42))); exact rfl; exact rfl; exact c0; exact rfl; exact rfl)
 | ((with_reducible apply (r_callqO (f := 18) 0)); exact c1; exact rfl; exact rfl; exact rfl; exact rfl; exact rfl)
 | ((with_reducible apply (r_callO (f := 48) 0)); exact c2; exact rfl; exact rfl; exact rfl; exact rfl)
 | ((with_reducible apply (r_store_oc 0 (DJ d2 (c + 5000) kd kj { t with stop := true }))); exact rfl; exact rfl; exact rfl; exact rfl; exact rfl; exact star_store (jP_stop kd t))
 | ((with_reducible apply (r_load_oc 0)); exact rfl; exact rfl; exact star_load (jP_cell (by decide) (fun _ => rfl)); exact rfl)
 | ((with_reducible apply r_nilc); exact rfl; exact rfl)
 | ((with_reducible apply r_field_c); exact rfl; exact rfl)
 | ((with_reducible apply r_eqnil1); exact rfl; exact rfl; exact rfl)
 | ((with_reducible apply aw_seq))
 | ((with_reducible apply aw_region))
 | ((with_reducible apply thn_normal))
 | ((with_reducible apply thn_ret))
 | ((with_reducible apply aw_skip))
 | ((with_reducible apply aw_ret))
 | ((with_reducible apply ao_nil))
 | ((with_reducible apply r_move); exact rfl; exact rfl)
 | ((with_reducible apply r_assign); exact rfl; exact rfl)
 | ((with_reducible apply r_gtr); exact rfl; exact rfl; exact rfl)
 | ((with_reducible apply r_neq); exact rfl; exact rfl; exact rfl)
 | ((with_reducible apply r_len_f); exact rfl; exact inferInstance; exact rfl)
 | ((with_reducible apply r_extract); exact rfl; exact rfl; exact rfl)
 | (((with_reducible apply aw_cond); exact rfl) <;> intro hg <;> (first | (exact absurd hg (by decide)) | ((try simp only [decide_eq_true_eq, decide_eq_false_iff_not, Bool.not_eq_true', Bool.not_eq_false', Bool.not_true, Bool.not_false, Bool.not_not, Int.not_lt, Int.not_le, Nat.not_lt, Nat.not_le, gt_iff_lt, ge_iff_le, List.cons.injEq, and_true] at hg); first | (exact absurd trivial hg) | (exfalso; omega) | (have hT : True := hg; clear hT hg) | skip)))
 )
    all_goals exact ⟨ret1 (.tmp rfl cl_c), rfl, rfl⟩
end Go.Proofs.Ythkjkhffljlidaa.Jo
