/- The walks of Write, Flush, Arm, Crash, Recover. -/
import Derived.Test.YtgcbfpimfmkbmaaDiskWalk4
namespace Go.Proofs.Ytgcbfpimfmkbmaa.Dk
set_option linter.unusedVariables false
set_option linter.unusedSimpArgs false
open Go.RowKit Go.ChangeMaps

theorem DPost.same {w : World} {d : Nat} {bv pv : Value} {gm n : Nat} {s : DS} (h : DAt w d bv pv gm n s) (r : Value) : DPost w d bv pv gm (n + 1) s r (.returned r) w :=
  ⟨rfl, pv, h.mono (by omega), Kit.Keeps.refl _ _, fun _ h => Or.inl h⟩
theorem DPost.flag {w : World} {d : Nat} {bv pv : Value} {gm n : Nat} {s : DS} {r : Value} {w' : World} {pv' : Value} (h : DAt w' d bv pv' gm n s) (hk : Kit.Keeps (Ow d bv pv gm) w w') (hp : ∀ k, pv'.ownBlock = some k → pv.ownBlock = some k) : DPost w d bv pv gm (n + 1) s r (.returned r) w' :=
  ⟨rfl, pv', h.mono (by omega), hk, fun k e => Or.inl (hp k e)⟩

/-- behind the append: the row has grown, nothing else has changed -/
theorem push_keep {w2 w3 : World} {pv : Value} (hg : w2.grownBy w3 pv.ownBlock) : Kit.Keeps (fun j => pv.ownBlock = some j) w2 w3 :=
  ⟨hg.os, hg.tape, hg.output, hg.size, fun k hk hn => hg.block k hk (fun e => hn e.symm)⟩
/-- behind the whole write -/
theorem DAt.push {w2 w3 w5 : World} {d : Nat} {bv pv : Value} {gm n : Nat} {s : DS} (h : DAt w2 d bv pv gm n s) {m : Nat} (hm : m < s.blocks.length) {t : ByteArray} (ht : t.size ≤ 64) {g cap : Nat} (hg : w2.grownBy w3 pv.ownBlock) (hv : pv.ownBlock = some g ∨ g = w2.heap.size + 1)
    (ho : Kit.Own 72 2 wrEnc w3 0 (.slice (some ⟨g, 0, none⟩) (s.pend.length + 1) cap) (s.pend ++ [((m : Int), t)]))
    (ht5 : (w3.setCell ⟨d, 1, none⟩ (.slice (some ⟨g, 0, none⟩) (s.pend.length + 1) cap)).mapTurned w5 gm) (hmp : MapIs w5 gm (n + 1) (fun x => if (m : Int) = x then some t else newest s.pend x)) :
    DAt w5 d bv (.slice (some ⟨g, 0, none⟩) (s.pend.length + 1) cap) gm (n + 1) { s with pend := s.pend ++ [((m : Int), t)] } ∧ Kit.Keeps (Ow d bv pv gm) w2 w5 ∧ (∀ k, (Value.slice (some ⟨g, 0, none⟩) (s.pend.length + 1) cap).ownBlock = some k → pv.ownBlock = some k ∨ w2.heap.size ≤ k) := by
  have k1 := push_keep hg
  have ld := h.lt (k := d) Ow.d
  have lm := h.lt (k := gm) Ow.m
  have b3 := Kit.blk_keeps h.blk k1 (fun e => (h.d3 d e).1 rfl)
  have k2 : Kit.Keeps (fun j => j = d) w3 (w3.setCell ⟨d, 1, none⟩ (.slice (some ⟨g, 0, none⟩) (s.pend.length + 1) cap)) := (Kit.Keeps.refl (fun j => j = d) w3).setCell (p := ⟨d, 1, none⟩) (Or.inl rfl) _
  have b4 := blk_set b3 1 (.slice (some ⟨g, 0, none⟩) (s.pend.length + 1) cap)
  have k3 : Kit.Keeps (fun j => j = gm) (w3.setCell ⟨d, 1, none⟩ (.slice (some ⟨g, 0, none⟩) (s.pend.length + 1) cap)) w5 := (Kit.Keeps.refl _ _).turned ht5 rfl
  have b5 := Kit.blk_keeps b4 k3 h.d1
  have hgd : g ≠ d ∧ g ≠ gm ∧ bv.ownBlock ≠ some g := by
    rcases hv with hv | hv
    · exact h.d3 g hv
    · refine ⟨by omega, by omega, fun e => ?_⟩
      have := h.lt (k := g) (Ow.b e); omega
  refine ⟨⟨b5, ?_, ?_, hmp.congr (fun x _ => (newest_snoc s.pend ((m : Int), t) x).symm), h.fine.push hm ht, by have := h.cnt; simp; omega, h.d1, h.d2, ?_⟩, ?_, ?_⟩
  · refine ((h.blocks.keeps k1 (fun j hj e => (h.d3 j e).2.2 hj)).keeps k2 (fun j hj => (h.d2 j hj).1)).keeps k3 (fun j hj => (h.d2 j hj).2)
  · refine (ho.keeps k2 (fun j hj => ?_)).keeps k3 (fun j hj => ?_)
    · simp [Value.ownBlock] at hj; subst hj; exact hgd.1
    · simp [Value.ownBlock] at hj; subst hj; exact hgd.2.1
  · intro j hj
    simp [Value.ownBlock] at hj; subst hj; exact hgd
  · refine ((k1.mono (fun k e => Ow.p e)).trans k2 (fun k _ e => by cases e; exact Ow.d)).trans k3 (fun k _ e => by cases e; exact Ow.m)
  · intro j hj
    simp [Value.ownBlock] at hj; subst hj
    rcases hv with hv | hv
    · exact Or.inl hv
    · right; omega

set_option maxRecDepth 100000 in
set_option maxHeartbeats 2000000 in
theorem write_any {w : World} {d : Nat} {bv pv : Value} {gm n : Nat} {s : DS} (h : DAt w d bv pv gm n s) (hn : n ≤ 1000000) (i : Int) (t : ByteArray) (ht : t.size ≤ maxLen) :
    Calls Try.prog 26 #[.pointer (some ⟨d, 0, none⟩), .int .i64 i, .string t] w (DPost w d bv pv gm (n + 1) (s.write i t).1 (.int .i64 (s.write i t).2)) := by
  have H := Lib.hid h
  have z6 := blkc h.blk 6 _ rfl
  unfold maxLen at ht
  clear h
  rcases (Bool.eq_false_or_eq_true s.down).symm with hd | hd
  rotate_left
  · have HW : Hid (s.write i t = (s, 17)) := by unfold Hid DS.write; rw [hd]; rfl
    rw [hd] at z6
    clear hd
    go_enter Try.func26, Try.ntmps26
    go_wp2
    go_ret
    rw [HW.out]
    exact DPost.same H.out _
  rw [hd] at z6
  rcases (Bool.eq_false_or_eq_true (inB s i)).symm with hi | hi
  · have HW : Hid (s.write i t = (s, 9)) := by unfold Hid DS.write; rw [hd, hi]; rfl
    have HI := Lib.hid hi
    clear hd hi
    go_enter Try.func26, Try.ntmps26
    go_wp2_with fail
    refine (has_any H.out i).mono ?_
    rintro e w1 ⟨rfl, rfl⟩
    rw [HI.out]
    go_wp2
    go_ret
    rw [HW.out]
    exact DPost.same H.out _
  obtain ⟨m, rfl, hm⟩ := (inB_iff s i).1 hi
  have HI := Lib.hid hi
  by_cases hs : 64 < t.size
  · have HW : Hid (s.write m t = (s, 4)) := by unfold Hid DS.write; rw [hd, hi]; simp [hs]
    have b1 : decide (64 < t.size) = true := by simpa using hs
    have b2 : decide ((64 : Int) < (t.size : Int)) = true := by simp; omega
    clear hd hi
    go_enter Try.func26, Try.ntmps26
    go_wp2_with fail
    refine (has_any H.out m).mono ?_
    rintro e w1 ⟨rfl, rfl⟩
    rw [HI.out]
    go_wp2
    go_ret
    rw [HW.out]
    exact DPost.same H.out _
  have b1 : decide (64 < t.size) = false := by simpa using hs
  have b2 : decide ((64 : Int) < (t.size : Int)) = false := by simp; omega
  rcases (Bool.eq_false_or_eq_true s.step.2).symm with hst | hst
  · have HW : Hid (s.write m t = (s.step.1, 17)) := by unfold Hid DS.write; rw [hd, hi, hst]; simp [hs]
    have HST := Lib.hid hst
    clear hd hi hst
    go_enter Try.func26, Try.ntmps26
    go_wp2_with fail
    refine (has_any H.out m).mono ?_
    rintro e w1 ⟨rfl, rfl⟩
    rw [HI.out]
    go_wp2_with fail
    refine (step_any H.out hn).mono ?_
    rintro e w2 ⟨rfl, pv', hd2, hk2, hp2⟩
    rw [HST.out]
    have HD := Lib.hid (DPost.flag (r := .int .i64 17) hd2 hk2 hp2)
    clear hd2 hk2 hp2
    go_wp2
    go_ret
    rw [HW.out]
    exact HD.out
  · have HW : Hid (s.write m t = ({ s.step.1 with pend := s.step.1.pend ++ [((m : Int), t)] }, 0)) := by unfold Hid DS.write; rw [hd, hi, hst]; simp [hs]
    have HST := Lib.hid hst
    have HBL := Lib.hid (step_blocks s)
    clear hd hi hst
    go_enter Try.func26, Try.ntmps26
    go_wp2_with fail
    refine (has_any H.out m).mono ?_
    rintro e w1 ⟨rfl, rfl⟩
    rw [HI.out]
    go_wp2_with fail
    refine (step_any H.out hn).mono ?_
    rintro e w2 ⟨rfl, pv', hd2, hk2, hp2⟩
    rw [HST.out]
    generalize s.step.1 = s1 at *
    have H2 := Lib.hid hd2; have HK := Lib.hid hk2; have HP := Lib.hid hp2
    have hcn := hd2.cnt
    obtain ⟨ap, capp, rfl⟩ := hd2.pform
    have z1 := blkc hd2.blk 1 _ rfl
    have ld := hd2.lt (k := d) Ow.d
    clear hd2 hk2 hp2 z6
    go_wp2_with (at_builtin; refine Kit.wp_push T_wr (by rfl) _ _ (by rfl) w2 0 _ _ (by rfl) H2.out.pend ((m : Int), t) _ _ w2.heap.size rfl (by rfl) ?c1 ?c2 ?c3 (Nat.zero_le _) ?_)
    case c1 => rfl
    case c2 => unfold maxLen; omega
    case c3 => omega
    intro g3 cap3 w3 hown3 _ hgr3 hsz3 hv3 hgl3
    have HO3 := Lib.hid hown3; have HG3 := Lib.hid hgr3; have HV3 := Lib.hid hv3
    have k1 := push_keep hgr3
    have b3 := Kit.blk_keeps H2.out.blk k1 (fun e => (H2.out.d3 d e).1 rfl)
    have z1' := blkc b3 1 _ rfl
    have y1' := blkf b3 1
    have z2' := blkc b3 2 _ rfl
    have k2 : Kit.Keeps (fun j => j = d) w3 (w3.setCell ⟨d, 1, none⟩ (.slice (some ⟨g3, 0, none⟩) (s1.pend.length + 1) cap3)) := (Kit.Keeps.refl (fun j => j = d) w3).setCell (p := ⟨d, 1, none⟩) (Or.inl rfl) _
    have hm3 := (H2.out.map.keeps k1 (fun e => (H2.out.d3 gm e).2.1 rfl)).keeps k2 (fun e => H2.out.d1 e.symm)
    obtain ⟨D, hD1, hD2⟩ := hm3
    have HD1 := Lib.hid hD1; have HD2 := Lib.hid hD2
    have HIM := Lib.hid hD1.isMap
    have HML : Hid (m ≤ 1000000) := Lib.hid (by have := H.out.fine.len; omega)
    have HTL : Hid (t.size ≤ maxLen) := Lib.hid (by unfold maxLen; omega)
    clear hown3 hgr3 hv3 k1 b3 k2 hD1 hD2 z1 ht
    go_wp2_with (at_mapUpdate; refine wpList_mapUpdate_in _ rfl _ _ _ 57 rfl 3 9 (Maps.int_keyed Try.underlying3) Try.underlying57 _ gm n D rfl HD1.out (by unfold maxLen; omega) _ _ (.int .i64 (m : Int)) rfl rfl (Maps.keyOf_int_mk Try.underlying3 (wf_nat m HML.out)) (.lit (.string t.data.toList)) [] (plainElem_string Try.underlying9 HTL.out) ?_)
    intro w5 hown5 hturn5
    have HX := Lib.hid (H2.out.push (by rw [HBL.out]; exact hm) (by omega) HG3.out HV3.out HO3.out hturn5 (MapIs.put HIM.out HD2.out m t hown5))
    clear hown5 hturn5
    go_wp2
    go_ret
    rw [HW.out]
    obtain ⟨x1, x2, x3⟩ := HX.out
    refine ⟨rfl, _, x1, HK.out.trans x2 (fun k _ e => ?_), fun k hk => ?_⟩
    · rcases e with e | e | e | e
      · exact Or.inl e
      · exact Ow.b e
      · exact Ow.p (HP.out k e)
      · exact Or.inr (Or.inr (Or.inr e))
    · rcases x3 k hk with e | e
      · exact Or.inl (HP.out k e)
      · right; have := HK.out.size; omega
end Go.Proofs.Ytgcbfpimfmkbmaa.Dk
