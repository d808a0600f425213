/- The walks of Flush, Arm, Crash, Recover, and of all methods of a nil disk. -/
import Derived.Test.YtgcbfpimfmkbmaaDiskWalk5
namespace Go.Proofs.Ytgcbfpimfmkbmaa.Dk
set_option linter.unusedVariables false
set_option linter.unusedSimpArgs false
open Go.RowKit Go.ChangeMaps

set_option maxRecDepth 100000 in
set_option maxHeartbeats 2000000 in
theorem flush_any {w : World} {d : Nat} {bv pv : Value} {gm n : Nat} {s : DS} (h : DAt w d bv pv gm n s) (hn : n ≤ 1000000) :
    Calls Try.prog 21 #[.pointer (some ⟨d, 0, none⟩)] w (DPost w d bv pv gm (n + 1) s.flush.1 (.int .i64 s.flush.2)) := by
  have H := Lib.hid h
  have z6 := blkc h.blk 6 _ rfl
  clear h
  rcases (Bool.eq_false_or_eq_true s.down).symm with hd | hd
  rotate_left
  · have HW : Hid (s.flush = (s, 17)) := by unfold Hid DS.flush; rw [hd]; rfl
    rw [hd] at z6
    clear hd
    go_enter Try.func21, Try.ntmps21
    go_wp2
    go_ret
    rw [HW.out]
    exact DPost.same H.out _
  rw [hd] at z6
  rcases (Bool.eq_false_or_eq_true s.step.2).symm with hst | hst
  · have HW : Hid (s.flush = (s.step.1, 17)) := by unfold Hid DS.flush; rw [hd, hst]; rfl
    have HST := Lib.hid hst
    clear hd hst
    go_enter Try.func21, Try.ntmps21
    go_wp2_with fail
    refine (step_any H.out hn).mono ?_
    rintro e w2 ⟨rfl, pv', hd2, hk2, hp2⟩
    rw [HST.out]
    have HD := Lib.hid (DPost.flag (r := .int .i64 17) hd2 hk2 hp2)
    clear hd2 hk2 hp2
    go_wp2
    go_ret
    rw [HW.out]
    exact HD.out
  · have HW : Hid (s.flush = (s.step.1.settle (fun _ => true), 0)) := by unfold Hid DS.flush; rw [hd, hst]; rfl
    have HST := Lib.hid hst
    clear hd hst
    go_enter Try.func21, Try.ntmps21
    go_wp2_with fail
    refine (step_any H.out hn).mono ?_
    rintro e w2 ⟨rfl, pv', hd2, hk2, hp2⟩
    rw [HST.out]
    have H2 := Lib.hid hd2; have HK := Lib.hid hk2; have HP := Lib.hid hp2
    clear hd2 hk2 hp2
    go_wp2_with fail
    refine (settle_all H2.out hn (fun _ => true) (fun _ => rfl)).mono ?_
    rintro e w3 ⟨rfl, hd3, hk3⟩
    have H3 := Lib.hid hd3; have HK3 := Lib.hid hk3
    clear hd3 hk3
    go_wp2
    go_ret
    rw [HW.out]
    refine DPost.flag H3.out (HK.out.trans HK3.out (fun k _ e => ?_)) (fun k hk => by simp [Value.ownBlock] at hk)
    rcases e with e | e | e | e
    · exact Or.inl e
    · exact Ow.b e
    · exact Ow.p (HP.out k e)
    · exact Or.inr (Or.inr (Or.inr e))

set_option maxRecDepth 100000 in
set_option maxHeartbeats 2000000 in
theorem arm_any {w : World} {d : Nat} {bv pv : Value} {gm n : Nat} {s : DS} (h : DAt w d bv pv gm n s) (i m : Int) (hm : 0 ≤ m ∧ m < 18446744073709551616) :
    Calls Try.prog 27 #[.pointer (some ⟨d, 0, none⟩), .int .i64 i, .int .u64 m] w (DPost w d bv pv gm (n + 1) (s.arm i m).1 (.int .i64 (s.arm i m).2)) := by
  have H := Lib.hid h
  have z6 := blkc h.blk 6 _ rfl
  have z3 := blkc h.blk 3 _ rfl; have z4 := blkc h.blk 4 _ rfl; have z5 := blkc h.blk 5 _ rfl
  have y3 := blkf h.blk 3; have y4 := blkf h.blk 4; have y5 := blkf h.blk 5
  have HM := Lib.hid hm
  clear h hm
  rcases (Bool.eq_false_or_eq_true s.down).symm with hd | hd
  rotate_left
  · have HW : Hid (s.arm i m = (s, 17)) := by unfold Hid DS.arm; rw [hd]; rfl
    rw [hd] at z6
    clear hd
    go_enter Try.func27, Try.ntmps27
    go_wp2
    go_ret
    rw [HW.out]
    exact DPost.same H.out _
  rw [hd] at z6
  by_cases h1 : i < 0
  · have HW : Hid (s.arm i m = (s, 9)) := by unfold Hid DS.arm; rw [hd, if_neg (by simp), if_neg (by omega)]
    have b1 : decide (i < 0) = true := by simpa using h1
    clear hd
    go_enter Try.func27, Try.ntmps27
    go_wp2
    go_ret
    rw [HW.out]
    exact DPost.same H.out _
  have b1 : decide (i < 0) = false := by simpa using h1
  by_cases h2 : 1099511627776 < i
  · have HW : Hid (s.arm i m = (s, 9)) := by unfold Hid DS.arm; rw [hd, if_neg (by simp), if_neg (by omega)]
    have b2 : decide (1099511627776 < i) = true := by simpa using h2
    clear hd
    go_enter Try.func27, Try.ntmps27
    go_wp2
    go_ret
    rw [HW.out]
    exact DPost.same H.out _
  have b2 : decide (1099511627776 < i) = false := by simpa using h2
  have HW : Hid (s.arm i m = ({ s with armed := true, steps := i, mask := m }, 0)) := by unfold Hid DS.arm; rw [hd, if_neg (by simp), if_pos (by omega)]
  have HF : Hid (Fine { s with armed := true, steps := i, mask := m }) := Lib.hid ⟨H.out.fine.len, H.out.fine.text, H.out.fine.pend, ⟨by simp; omega, by simp; omega⟩, HM.out⟩
  have HDN := Lib.hid hd
  clear hd
  go_enter Try.func27, Try.ntmps27
  go_wp2
  go_ret
  rw [HW.out]
  have k1 : Kit.Keeps (fun j => j = d) w (((w.setCell ⟨d, 3, none⟩ (.bool true)).setCell ⟨d, 4, none⟩ (.int .i64 i)).setCell ⟨d, 5, none⟩ (.int .u64 m)) :=
    (((Kit.Keeps.refl (fun j => j = d) w).setCell (p := ⟨d, 3, none⟩) (Or.inl rfl) _).setCell (p := ⟨d, 4, none⟩) (Or.inl rfl) _).setCell (p := ⟨d, 5, none⟩) (Or.inl rfl) _
  exact DPost.flag (H.out.flag (s' := { s with armed := true, steps := i, mask := m }) k1 rfl rfl HF.out (blk_set (blk_set (blk_set H.out.blk 3 _) 4 _) 5 _)) (k1.mono (fun k e => by cases e; exact Ow.d)) (fun _ h => h)

set_option maxRecDepth 100000 in
set_option maxHeartbeats 2000000 in
theorem hit_any {w : World} {d : Nat} {bv pv : Value} {gm n : Nat} {s : DS} (h : DAt w d bv pv gm n s) (hn : n ≤ 1000000) (m : Int) (hm : 0 ≤ m ∧ m < 18446744073709551616) :
    Calls Try.prog 24 #[.pointer (some ⟨d, 0, none⟩), .int .u64 m] w (DPost w d bv pv gm (n + 1) (s.hit m).1 (.int .i64 (s.hit m).2)) := by
  have H := Lib.hid h
  have z6 := blkc h.blk 6 _ rfl
  have HM := Lib.hid hm
  clear h hm
  rcases (Bool.eq_false_or_eq_true s.down).symm with hd | hd
  rotate_left
  · have HW : Hid (s.hit m = (s, 17)) := by unfold Hid DS.hit; rw [hd]; rfl
    rw [hd] at z6
    clear hd
    go_enter Try.func24, Try.ntmps24
    go_wp2
    go_ret
    rw [HW.out]
    exact DPost.same H.out _
  rw [hd] at z6
  have HW : Hid (s.hit m = (s.crash m, 0)) := by unfold Hid DS.hit; rw [hd]; rfl
  clear hd
  go_enter Try.func24, Try.ntmps24
  go_wp2_with fail
  refine (crash_any H.out hn m HM.out).mono ?_
  rintro e w2 ⟨rfl, hd2, hk2⟩
  have H2 := Lib.hid hd2; have HK := Lib.hid hk2
  clear hd2 hk2
  go_wp2
  go_ret
  rw [HW.out]
  exact DPost.flag H2.out HK.out (fun k hk => by simp [Value.ownBlock] at hk)

set_option maxRecDepth 100000 in
set_option maxHeartbeats 2000000 in
theorem recover_any {w : World} {d : Nat} {bv pv : Value} {gm n : Nat} {s : DS} (h : DAt w d bv pv gm n s) :
    Calls Try.prog 25 #[.pointer (some ⟨d, 0, none⟩)] w (DPost w d bv pv gm (n + 1) s.recover.1 (.int .i64 s.recover.2)) := by
  have H := Lib.hid h
  have z6 := blkc h.blk 6 _ rfl
  have y6 := blkf h.blk 6
  clear h
  rcases (Bool.eq_false_or_eq_true s.down).symm with hd | hd
  · have HW : Hid (s.recover = (s, 14)) := by unfold Hid DS.recover; rw [hd]; rfl
    rw [hd] at z6
    clear hd
    go_enter Try.func25, Try.ntmps25
    go_wp2
    go_ret
    rw [HW.out]
    exact DPost.same H.out _
  · have HW : Hid (s.recover = ({ s with down := false }, 0)) := by unfold Hid DS.recover; rw [hd]; rfl
    have HF : Hid (Fine { s with down := false }) := Lib.hid ⟨H.out.fine.len, H.out.fine.text, H.out.fine.pend, H.out.fine.steps, H.out.fine.mask⟩
    rw [hd] at z6
    clear hd
    go_enter Try.func25, Try.ntmps25
    go_wp2
    go_ret
    rw [HW.out]
    have k1 : Kit.Keeps (fun j => j = d) w (w.setCell ⟨d, 6, none⟩ (.bool false)) := (Kit.Keeps.refl (fun j => j = d) w).setCell (p := ⟨d, 6, none⟩) (Or.inl rfl) _
    exact DPost.flag (H.out.flag (s' := { s with down := false }) k1 rfl rfl HF.out (blk_set H.out.blk 6 _)) (k1.mono (fun k e => by cases e; exact Ow.d)) (fun _ h => h)

theorem nil_read (i : Int) (w : World) : Calls Try.prog 12 #[.pointer none, .int .i64 i] w fun e w' => e = .returned (.tuple #[.string ByteArray.empty, .int .i64 1]) ∧ w = w' := by
  go_enter Try.func12, Try.ntmps12
  go_wp2
  go_ret2
  exact ⟨rfl, rfl⟩
theorem nil_write (i : Int) (t : ByteArray) (w : World) : Calls Try.prog 26 #[.pointer none, .int .i64 i, .string t] w fun e w' => e = .returned (.int .i64 1) ∧ w = w' := by
  go_enter Try.func26, Try.ntmps26
  go_wp2
  go_ret
  exact ⟨rfl, rfl⟩
theorem nil_flush (w : World) : Calls Try.prog 21 #[.pointer none] w fun e w' => e = .returned (.int .i64 1) ∧ w = w' := by
  go_enter Try.func21, Try.ntmps21
  go_wp2
  go_ret
  exact ⟨rfl, rfl⟩
theorem nil_arm (i m : Int) (w : World) : Calls Try.prog 27 #[.pointer none, .int .i64 i, .int .u64 m] w fun e w' => e = .returned (.int .i64 1) ∧ w = w' := by
  go_enter Try.func27, Try.ntmps27
  go_wp2
  go_ret
  exact ⟨rfl, rfl⟩
theorem nil_crash (m : Int) (w : World) : Calls Try.prog 24 #[.pointer none, .int .u64 m] w fun e w' => e = .returned (.int .i64 1) ∧ w = w' := by
  go_enter Try.func24, Try.ntmps24
  go_wp2
  go_ret
  exact ⟨rfl, rfl⟩
theorem nil_recover (w : World) : Calls Try.prog 25 #[.pointer none] w fun e w' => e = .returned (.int .i64 1) ∧ w = w' := by
  go_enter Try.func25, Try.ntmps25
  go_wp2
  go_ret
  exact ⟨rfl, rfl⟩
theorem nil_blocks (w : World) : Calls Try.prog 13 #[.pointer none] w fun e w' => e = .returned (.int .i64 0) ∧ w = w' := by
  go_enter Try.func13, Try.ntmps13
  go_wp2
  go_ret
  exact ⟨rfl, rfl⟩
theorem nil_pending (w : World) : Calls Try.prog 14 #[.pointer none] w fun e w' => e = .returned (.int .i64 0) ∧ w = w' := by
  go_enter Try.func14, Try.ntmps14
  go_wp2
  go_ret
  exact ⟨rfl, rfl⟩
theorem nil_down (w : World) : Calls Try.prog 15 #[.pointer none] w fun e w' => e = .returned (.bool false) ∧ w = w' := by
  go_enter Try.func15, Try.ntmps15
  go_wp2
  go_ret
  exact ⟨rfl, rfl⟩
end Go.Proofs.Ytgcbfpimfmkbmaa.Dk
