/- The walks of crash, step, and the calls that change a disk. -/
import Derived.Test.YtgcbfpimfmkbmaaDiskWalk3
namespace Go.Proofs.Ytgcbfpimfmkbmaa.Dk
set_option linter.unusedVariables false
set_option linter.unusedSimpArgs false
open Go.RowKit Go.ChangeMaps

theorem DAt.flag {w w' : World} {d : Nat} {bv pv : Value} {gm n : Nat} {s s' : DS} (h : DAt w d bv pv gm n s) (hk : Kit.Keeps (fun j => j = d) w w') (hb : s'.blocks = s.blocks) (hp : s'.pend = s.pend) (hf : Fine s')
    (hblk : w'.heap[d]? = some (.cells #[bv, pv, .map (some gm), .bool s'.armed, .int .i64 s'.steps, .int .u64 s'.mask, .bool s'.down] 60 (0, 0))) : DAt w' d bv pv gm n s' :=
  ⟨hblk, by rw [hb]; exact h.blocks.keeps hk (fun j hj => (h.d2 j hj).1), by rw [hp]; exact h.pend.keeps hk (fun j hj => (h.d3 j hj).1), by rw [hp]; exact h.map.keeps hk (fun e => h.d1 e.symm), hf, by rw [hp]; exact h.cnt, h.d1, h.d2, h.d3⟩

set_option maxRecDepth 100000 in
set_option maxHeartbeats 1000000 in
theorem crash_any {w : World} {d : Nat} {bv pv : Value} {gm n : Nat} {s : DS} (h : DAt w d bv pv gm n s) (hn : n ≤ 1000000) (m : Int) (hm : 0 ≤ m ∧ m < 18446744073709551616) :
    Calls Try.prog 37 #[.pointer (some ⟨d, 0, none⟩), .int .u64 m] w fun e w' => e = .returned (.tuple #[]) ∧ DAt w' d bv (.slice none 0 0) gm n (s.crash m) ∧ Kit.Keeps (Ow d bv pv gm) w w' := by
  have H := Lib.hid h
  have hA := newB w (.cells #[.int .u64 m] 28)
  have HX := Lib.hid (blk_new w #[.int .u64 m] 28)
  have HG : Hid (¬ Ow d bv pv gm w.heap.size) := Lib.hid (fun e => by have := h.lt e; omega)
  have H1 := Lib.hid (h.below hA)
  have HM := Lib.hid hm
  clear h hm
  go_enter Try.func37, Try.ntmps37
  go_wp2_with fail
  refine (settle_mask H1.out hn m HM.out _ HX.out HG.out (bitOf m) rfl).mono ?_
  rintro e w2 ⟨rfl, hd2, hk2⟩
  have HK : Hid (Kit.Keeps (Ow d bv pv gm) w w2) := Lib.hid ((Kit.Keeps.of_below hA).trans' hk2)
  have H2 := Lib.hid hd2
  have z3 := blkc hd2.blk 3 _ rfl; have z4 := blkc hd2.blk 4 _ rfl; have z5 := blkc hd2.blk 5 _ rfl; have z6 := blkc hd2.blk 6 _ rfl
  have y3 := blkf hd2.blk 3; have y4 := blkf hd2.blk 4; have y5 := blkf hd2.blk 5; have y6 := blkf hd2.blk 6
  have HF := Lib.hid (H.out.fine.crash m)
  clear hd2 hk2 hA H1
  go_wp2
  go_end0
  have k1 : Kit.Keeps (fun j => j = d) w2 ((((w2.setCell ⟨d, 3, none⟩ (.bool false)).setCell ⟨d, 4, none⟩ (.int .i64 0)).setCell ⟨d, 5, none⟩ (.int .u64 0)).setCell ⟨d, 6, none⟩ (.bool true)) :=
    ((((Kit.Keeps.refl (fun j => j = d) w2).setCell (p := ⟨d, 3, none⟩) (Or.inl rfl) _).setCell (p := ⟨d, 4, none⟩) (Or.inl rfl) _).setCell (p := ⟨d, 5, none⟩) (Or.inl rfl) _).setCell (p := ⟨d, 6, none⟩) (Or.inl rfl) _
  exact ⟨rfl, H2.out.flag k1 rfl rfl HF.out (blk_set (blk_set (blk_set (blk_set H2.out.blk 3 _) 4 _) 5 _) 6 _), HK.out.trans k1 (fun k _ e => by cases e; exact Ow.d)⟩

/-- What step leaves. -/
def StepPost (w : World) (d : Nat) (bv pv : Value) (gm n : Nat) (s : DS) (e : Ending) (w' : World) : Prop :=
  e = .returned (.bool s.step.2) ∧ ∃ pv', DAt w' d bv pv' gm n s.step.1 ∧ Kit.Keeps (Ow d bv pv gm) w w' ∧ (∀ k, pv'.ownBlock = some k → pv.ownBlock = some k)
set_option maxRecDepth 100000 in
set_option maxHeartbeats 1000000 in
theorem step_any {w : World} {d : Nat} {bv pv : Value} {gm n : Nat} {s : DS} (h : DAt w d bv pv gm n s) (hn : n ≤ 1000000) :
    Calls Try.prog 34 #[.pointer (some ⟨d, 0, none⟩)] w (StepPost w d bv pv gm n s) := by
  have H := Lib.hid h
  have z3 := blkc h.blk 3 _ rfl; have z4 := blkc h.blk 4 _ rfl; have z5 := blkc h.blk 5 _ rfl; have y4 := blkf h.blk 4
  have hst := h.fine.steps
  have HM := Lib.hid h.fine.mask
  obtain ⟨hs1, hs2⟩ := hst
  clear h
  rcases (Bool.eq_false_or_eq_true s.armed).symm with ha | ha
  · have HS : Hid (s.step = (s, true)) := by unfold Hid DS.step; rw [ha]; rfl
    rw [ha] at z3
    clear ha
    go_enter Try.func34, Try.ntmps34
    go_wp2
    go_ret
    show StepPost _ _ _ _ _ _ _ _ _
    unfold StepPost
    rw [HS.out]
    exact ⟨rfl, pv, H.out, Kit.Keeps.refl _ _, fun _ h => h⟩
  · rw [ha] at z3
    by_cases h0 : s.steps = 0
    · have HS : Hid (s.step = (s.crash s.mask, false)) := by unfold Hid DS.step; rw [ha, if_pos rfl, if_pos h0]
      have b0 : (s.steps == 0) = true := by simpa using h0
      rw [h0] at z4
      clear ha h0 b0
      go_enter Try.func34, Try.ntmps34
      go_wp2_with fail
      refine (crash_any H.out hn s.mask HM.out).mono ?_
      rintro e w2 ⟨rfl, hd2, hk2⟩
      have H2 := Lib.hid hd2; have HK := Lib.hid hk2
      clear hd2 hk2
      go_wp2
      go_ret
      show StepPost _ _ _ _ _ _ _ _ _
      unfold StepPost
      rw [HS.out]
      exact ⟨rfl, _, H2.out, HK.out, fun k hk => by simp [Value.ownBlock] at hk⟩
    · have HS : Hid (s.step = ({ s with steps := s.steps - 1 }, true)) := by unfold Hid DS.step; rw [ha, if_pos rfl, if_neg h0]
      have b0 : (s.steps == 0) = false := by simpa using h0
      have HF := Lib.hid H.out.fine.step
      rw [HS.out] at HF
      clear ha
      go_enter Try.func34, Try.ntmps34
      go_wp2
      go_ret
      show StepPost _ _ _ _ _ _ _ _ _
      unfold StepPost
      rw [HS.out]
      have k1 : Kit.Keeps (fun j => j = d) w (w.setCell ⟨d, 4, none⟩ (.int .i64 (s.steps - 1))) := (Kit.Keeps.refl (fun j => j = d) w).setCell (p := ⟨d, 4, none⟩) (Or.inl rfl) _
      exact ⟨rfl, pv, H.out.flag k1 rfl rfl HF.out (blk_set H.out.blk 4 _), k1.mono (fun k e => by cases e; exact Ow.d), fun _ h => h⟩
end Go.Proofs.Ytgcbfpimfmkbmaa.Dk
