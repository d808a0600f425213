/- The walks of the reference's all, best, Best. -/
import Derived.Test.YtcipnajdbafahaaTruckLoad
namespace Go.Proofs.Ytcipnajdbafahaa.Tk
set_option linter.unusedVariables false
set_option linter.unusedSimpArgs false
open Go.RowKit

set_option maxRecDepth 100000 in
set_option maxHeartbeats 1000000 in
theorem all_any (n : Nat) (w : World) (hn : n ≤ 1000000) :
    Calls Try.prog 28 #[.int .i64 n] w fun e w' => ∃ v', e = .returned v' ∧ Kit.Own 4 1 boolEnc w' w.heap.size v' (List.replicate n true) ∧ Below w.heap.size w w' := by
  go_enter Try.func28, Try.ntmps28
  go_wp2
  go_loopw [3, 4] (fun ov i wr => ∃ k : Nat, k ≤ n ∧ i = .int .i64 k ∧ Kit.Own 4 1 boolEnc wr w.heap.size ov (List.replicate k true) ∧ Below w.heap.size w wr) (fun _ i _ => n - (intOf i).toNat)
  case atStart => exact ⟨0, by omega, rfl, Kit.Own.nil _ _, Below.refl _ _⟩
  case round =>
    obtain ⟨k, hk, rfl, hown, hbr⟩ := hrel
    have HO := Lib.hid hown; clear hown
    have hsz := hbr.size
    by_cases hlt : k < n
    · have HU : Hid ((List.replicate k true).length = k) := by unfold Hid; simp
      go_wp2_with (at_builtin; refine Kit.wp_push T_bool (by rfl) _ _ (by rfl) wr w.heap.size _ _ (by rfl) HO.out true _ _ wr.heap.size rfl (by rfl) ?c1 ?c2 ?c3 hsz ?_)
      case c1 => rfl
      case c2 => rw [HU.out]; unfold maxLen; omega
      case c3 => rw [HU.out]; omega
      intro gl capl w3 hown3 hb3 hgr3 hsz3 hv3 hgl3 _
      rw [← List.replicate_succ'] at hown3
      have HO3 := Lib.hid hown3; clear hown3 hgr3 hv3
      go_wp2
      go_roundw
      case rel => exact ⟨k + 1, by omega, by go_num, HO3.out, hbr.trans hb3⟩
      case measure => simp [intOf]; omega
    · obtain rfl : k = n := by omega
      go_wp2
      go_ret
      exact ⟨_, rfl, HO.out, hbr⟩

/-- the best choice so far lies in the call's first block -/
def BestAt (l : List Par) (left : List Bool) (W V : Int) (w wr : World) (m : Nat) : Prop :=
  ∃ bv, Kit.Sl 1 intEnc wr wr.heap.size bv (rbest l left W V m) ∧ (∀ k, bv.ownBlock = some k → w.heap.size < k) ∧
    wr.heap[w.heap.size]? = some (.cells #[bv, .int .i64 (tot l (rbest l left W V m)).1, .int .i64 (tot l (rbest l left W V m)).2.1, .int .i64 (tot l (rbest l left W V m)).2.2, .bool true] 58 (0, 0)) ∧ Below w.heap.size w wr
theorem BestAt.keep {l : List Par} {left : List Bool} {W V : Int} {w wr wr' : World} {m : Nat} (h : BestAt l left W V w wr m) (hs : rbest l left W V (m + 1) = rbest l left W V m) (hb : Below wr.heap.size wr wr') : BestAt l left W V w wr' (m + 1) := by
  obtain ⟨bv, h1, h2, h3, h4⟩ := h
  have hlt : w.heap.size < wr.heap.size := (Array.getElem?_eq_some_iff.1 h3).1
  rw [BestAt, hs]
  exact ⟨bv, (h1.below hb (Nat.le_refl _)).mono hb.size, h2, by rw [hb.block _ hlt]; exact h3, h4.trans (hb.mono h4.size)⟩
theorem BestAt.take {l : List Par} {left : List Bool} {W V : Int} {w wr wr' : World} {m : Nat} (h : BestAt l left W V w wr m) (hs : rbest l left W V (m + 1) = idxs m l.length) (hb : Below wr.heap.size wr wr') {cv : Value} (hc : Kit.Sl 1 intEnc wr' wr'.heap.size cv (idxs m l.length)) (hf : ∀ k, cv.ownBlock = some k → wr.heap.size < k) :
    BestAt l left W V w (((((wr'.setCell ⟨w.heap.size, 0, none⟩ cv).setCell ⟨w.heap.size, 1, none⟩ (.int .i64 (tot l (idxs m l.length)).1)).setCell ⟨w.heap.size, 2, none⟩ (.int .i64 (tot l (idxs m l.length)).2.1)).setCell ⟨w.heap.size, 3, none⟩ (.int .i64 (tot l (idxs m l.length)).2.2)).setCell ⟨w.heap.size, 4, none⟩ (.bool true)) (m + 1) := by
  obtain ⟨bv, h1, h2, h3, h4⟩ := h
  have hlt : w.heap.size < wr.heap.size := (Array.getElem?_eq_some_iff.1 h3).1
  have e1 := h3
  rw [← hb.block _ hlt] at e1
  rw [BestAt, hs]
  refine ⟨cv, ?_, fun k hk => by have := hf k hk; omega, blk_set (blk_set (blk_set (blk_set (blk_set e1 0 _) 1 _) 2 _) 3 _) 4 _, ?_⟩
  · have hsz : (((((wr'.setCell ⟨w.heap.size, 0, none⟩ cv).setCell ⟨w.heap.size, 1, none⟩ (.int .i64 (tot l (idxs m l.length)).1)).setCell ⟨w.heap.size, 2, none⟩ (.int .i64 (tot l (idxs m l.length)).2.1)).setCell ⟨w.heap.size, 3, none⟩ (.int .i64 (tot l (idxs m l.length)).2.2)).setCell ⟨w.heap.size, 4, none⟩ (.bool true)).heap.size = wr'.heap.size := by simp [World.setCell]
    rw [hsz]
    refine hc.other (fun k hk _ _ => ?_)
    have := hf k hk
    have hne : k ≠ w.heap.size := by omega
    rw [blk_other hne, blk_other hne, blk_other hne, blk_other hne, blk_other hne]
  · exact (((((h4.trans (hb.mono h4.size)).setCell (p := ⟨w.heap.size, 0, none⟩) (Nat.le_refl _) _).setCell (p := ⟨w.heap.size, 1, none⟩) (Nat.le_refl _) _).setCell (p := ⟨w.heap.size, 2, none⟩) (Nat.le_refl _) _).setCell (p := ⟨w.heap.size, 3, none⟩) (Nat.le_refl _) _).setCell (p := ⟨w.heap.size, 4, none⟩) (Nat.le_refl _) _

def RBestPost (l : List Par) (left : List Bool) (W V : Int) (w : World) (e : Ending) (w' : World) : Prop :=
  ∃ v', e = .returned v' ∧ Kit.Sl 1 intEnc w' w'.heap.size v' (rbest l left W V (2 ^ l.length)) ∧ (∀ k, v'.ownBlock = some k → w.heap.size < k) ∧ Below w.heap.size w w'

theorem rbest_no {l : List Par} {left : List Bool} {W V : Int} {m : Nat} (h : (okIdx left m l.length && fitsB l W V (idxs m l.length) && better l (idxs m l.length) (rbest l left W V m)) = false) : rbest l left W V (m + 1) = rbest l left W V m := by
  simp only [rbest, rstep]; rw [h]; rfl
theorem rbest_yes {l : List Par} {left : List Bool} {W V : Int} {m : Nat} (h : (okIdx left m l.length && fitsB l W V (idxs m l.length) && better l (idxs m l.length) (rbest l left W V m)) = true) : rbest l left W V (m + 1) = idxs m l.length := by
  simp only [rbest, rstep]; rw [h]; rfl

set_option maxRecDepth 100000 in
set_option maxHeartbeats 4000000 in
theorem rbest_any (v u : Value) (l : List Par) (left : List Bool) (W V : Int) (w : World) (hl : Kit.Sl 3 parEnc w w.heap.size v l) (hn : l.length ≤ 16) (ha : l.all inP = true) (hq : Kit.Sl 1 boolEnc w w.heap.size u left) (hm : left.length = l.length) (hW0 : 0 ≤ W) (hV0 : 0 ≤ V) :
    Calls Try.prog 27 #[v, u, .int .i64 W, .int .i64 V] w (RBestPost l left W V w) := by
  have HL := Lib.hid hl; have HQ := Lib.hid hq
  have HA := Lib.hid ha; clear ha
  obtain ⟨ad, cap, rfl, hcap, _⟩ := hl
  have HM := Lib.hid hm; clear hm hq
  have HW0 := Lib.hid hW0; have HV0 := Lib.hid hV0; clear hW0 hV0
  have hpow : 2 ^ l.length ≤ 65536 := by
    have : 2 ^ l.length ≤ 2 ^ 16 := Nat.pow_le_pow_right (by omega) hn
    simpa using this
  have hw : wrap64 ((2 : Int) ^ l.length) = ((2 ^ l.length : Nat) : Int) := by
    have e : ((2 ^ l.length : Nat) : Int) = (2 : Int) ^ l.length := by push_cast; rfl
    have key : ∀ N : Nat, N ≤ 65536 → wrap64 (N : Int) = N := by intro N h; unfold wrap64; omega
    rw [← e]; exact key _ hpow
  have HW := Lib.hid hw; clear hw
  go_enter Try.func27, Try.ntmps27
  go_wp2
  go_loopw [10, 11] (fun i _ wr => ∃ m : Nat, m ≤ 2 ^ l.length ∧ i = .int .i64 m ∧ BestAt l left W V w wr m) (fun i _ _ => 2 ^ l.length - (intOf i).toNat)
  case atStart =>
    refine ⟨0, Nat.zero_le _, rfl, _, ⟨none, 0, rfl, Nat.le_refl _, Or.inl rfl⟩, fun k hk => by simp [Value.ownBlock] at hk, ?_, (Below.refl _ _).alloc (Nat.le_refl _) _⟩
    exact blk_new _ _ _
  case round =>
    obtain ⟨m, hm, rfl, hbest⟩ := hrel
    have HB := Lib.hid hbest
    obtain ⟨bv, hbs, hbf, hB1, hbr⟩ := hbest
    obtain ⟨s0, s1, s2, s3, s4, sf⟩ := blk5 hB1
    have HBS := Lib.hid hbs; have HBF := Lib.hid hbf; have H1 := Lib.hid hB1
    clear hbs hbf hB1 sf
    have hsz := hbr.size
    have hgl : w.heap.size < wr.heap.size := (Array.getElem?_eq_some_iff.1 H1.out).1
    have HRL : Hid ((rbest l left W V m).length ≤ 1000000) := by
      have h := (rbest_inv (l := l) (left := left) HW0.out HV0.out m).1.1.len (Nat.zero_le _)
      unfold Hid; omega
    obtain ⟨adb, capb, rfl, hcapb, _⟩ := HBS.out
    generalize hq' : tot l (rbest l left W V m) = q at *
    have HQQ := Lib.hid hq'; clear hq'
    by_cases hlt : m < 2 ^ l.length
    · have hdec : decide ((m : Int) < wrap64 (2 ^ l.length)) = true := by rw [HW.out]; simp; exact_mod_cast hlt
      rcases (Bool.eq_false_or_eq_true (okIdx left m l.length)).symm with hok | hok
      · have HRES : Hid (loadRes l left m = ([], (0, 0, 0), false)) := by unfold Hid loadRes; rw [hok]; rfl
        have HNO : Hid ((okIdx left m l.length && fitsB l W V (idxs m l.length) && better l (idxs m l.length) (rbest l left W V m)) = false) := by unfold Hid; rw [hok]; rfl
        clear hok
        go_wp2_with fail
        refine (load_any _ _ l left m _ (HL.out.below hbr (Nat.le_refl _) |>.mono hsz) hn HA.out (HQ.out.below hbr (Nat.le_refl _) |>.mono hsz) HM.out).mono ?_
        rintro e w2 ⟨cv, rfl, hcs, hcf, hb2⟩
        rw [HRES.out] at hcs ⊢
        obtain ⟨adc, capc, hcv, hcc⟩ := id hcs
        simp only [List.length_nil] at hcv
        subst hcv
        have HCS := Lib.hid hcs; have HCF := Lib.hid hcf
        have hB2 : w2.heap[w.heap.size]? = some (.cells #[.slice adb (rbest l left W V m).length capb, .int .i64 q.1, .int .i64 q.2.1, .int .i64 q.2.2, .bool true] 58 (0, 0)) := by rw [hb2.block _ hgl]; exact H1.out
        have hsz2 := hb2.size
        have hB3 : (w2.alloc (.cells #[.slice adc 0 capc, .int .i64 0, .int .i64 0, .int .i64 0, .bool false] 58)).heap[w.heap.size]? = some (.cells #[.slice adb (rbest l left W V m).length capb, .int .i64 q.1, .int .i64 q.2.1, .int .i64 q.2.2, .bool true] 58 (0, 0)) := by rw [Below.heap_alloc _ _ _ (by omega)]; exact hB2
        have hB4 : (w2.alloc (.cells #[.slice adc 0 capc, .int .i64 0, .int .i64 0, .int .i64 0, .bool false] 58)).heap[w2.heap.size]? = some (.cells #[.slice adc 0 capc, .int .i64 0, .int .i64 0, .int .i64 0, .bool false] 58 (0, 0)) := blk_new _ _ _
        have HB3 := Lib.hid hB3; have HB4 := Lib.hid hB4
        have hb3 : Below wr.heap.size wr (w2.alloc (.cells #[.slice adc 0 capc, .int .i64 0, .int .i64 0, .int .i64 0, .bool false] 58)) := hb2.alloc hsz2 _
        obtain ⟨s0, s1, s2, s3, s4, sf⟩ := blk5 hB3
        obtain ⟨t0, t1, t2, t3, t4, tf⟩ := blk5 hB4
        have g0 := sf 0; have g1 := sf 1; have g2 := sf 2; have g3 := sf 3; have g4 := sf 4
        clear sf tf hcs hcf hB2 hB3 hB4
        have HBK := Lib.hid hb3
        go_wp2
        go_roundw
        case rel => exact ⟨m + 1, hlt, by go_num, HB.out.keep (rbest_no HNO.out) HBK.out⟩
        case measure => simp [intOf]; omega
      · have HRES0 : Hid (loadRes l left m = (idxs m l.length, tot l (idxs m l.length), true)) := by unfold Hid loadRes; rw [hok]; rfl
        have HIL : Hid ((idxs m l.length).length ≤ 1000000) := by have := idxs_len m l.length; unfold Hid; omega
        have HFI : Hid ((okIdx left m l.length && fitsB l W V (idxs m l.length)) = (decide ((tot l (idxs m l.length)).1 ≤ W) && decide ((tot l (idxs m l.length)).2.1 ≤ V))) := by unfold Hid; rw [hok]; rfl
        have HBE : Hid (better l (idxs m l.length) (rbest l left W V m) = (decide (q.2.2 < (tot l (idxs m l.length)).2.2) || (decide ((tot l (idxs m l.length)).2.2 = q.2.2) && before (idxs m l.length) (rbest l left W V m)))) := by unfold Hid better; rw [HQQ.out]
        generalize hc' : tot l (idxs m l.length) = c at *
        have HC := Lib.hid hc'; clear hc' hok
        have HRES := HRES0
        clear HRES0
        by_cases hw1 : W < c.1
        · have HNO : Hid ((okIdx left m l.length && fitsB l W V (idxs m l.length) && better l (idxs m l.length) (rbest l left W V m)) = false) := by
            unfold Hid; rw [HFI.out, show decide (c.1 ≤ W) = false from by simp; omega]; simp
          clear HFI HBE
          go_wp2_with fail
          refine (load_any _ _ l left m _ (HL.out.below hbr (Nat.le_refl _) |>.mono hsz) hn HA.out (HQ.out.below hbr (Nat.le_refl _) |>.mono hsz) HM.out).mono ?_
          rintro e w2 ⟨cv, rfl, hcs, hcf, hb2⟩
          rw [HRES.out] at hcs ⊢
          obtain ⟨adc, capc, hcv, hcc⟩ := id hcs
          subst hcv
          have HCS := Lib.hid hcs; have HCF := Lib.hid hcf
          have hB2 : w2.heap[w.heap.size]? = some (.cells #[.slice adb (rbest l left W V m).length capb, .int .i64 q.1, .int .i64 q.2.1, .int .i64 q.2.2, .bool true] 58 (0, 0)) := by rw [hb2.block _ hgl]; exact H1.out
          have hsz2 := hb2.size
          have hB3 : (w2.alloc (.cells #[.slice adc (idxs m l.length).length capc, .int .i64 c.1, .int .i64 c.2.1, .int .i64 c.2.2, .bool true] 58)).heap[w.heap.size]? = some (.cells #[.slice adb (rbest l left W V m).length capb, .int .i64 q.1, .int .i64 q.2.1, .int .i64 q.2.2, .bool true] 58 (0, 0)) := by rw [Below.heap_alloc _ _ _ (by omega)]; exact hB2
          have hB4 : (w2.alloc (.cells #[.slice adc (idxs m l.length).length capc, .int .i64 c.1, .int .i64 c.2.1, .int .i64 c.2.2, .bool true] 58)).heap[w2.heap.size]? = some (.cells #[.slice adc (idxs m l.length).length capc, .int .i64 c.1, .int .i64 c.2.1, .int .i64 c.2.2, .bool true] 58 (0, 0)) := blk_new _ _ _
          have HB3 := Lib.hid hB3; have HB4 := Lib.hid hB4
          have hb3 : Below wr.heap.size wr (w2.alloc (.cells #[.slice adc (idxs m l.length).length capc, .int .i64 c.1, .int .i64 c.2.1, .int .i64 c.2.2, .bool true] 58)) := hb2.alloc hsz2 _
          obtain ⟨s0, s1, s2, s3, s4, sf⟩ := blk5 hB3
          obtain ⟨t0, t1, t2, t3, t4, tf⟩ := blk5 hB4
          have g0 := sf 0; have g1 := sf 1; have g2 := sf 2; have g3 := sf 3; have g4 := sf 4
          clear sf tf hcs hcf hB2 hB3 hB4
          have HBK := Lib.hid hb3
          go_wp2
          go_roundw
          case rel => exact ⟨m + 1, hlt, by go_num, HB.out.keep (rbest_no HNO.out) HBK.out⟩
          case measure => simp [intOf]; omega
        · by_cases hv1 : V < c.2.1
          · have HNO : Hid ((okIdx left m l.length && fitsB l W V (idxs m l.length) && better l (idxs m l.length) (rbest l left W V m)) = false) := by
              unfold Hid; rw [HFI.out, show decide (c.2.1 ≤ V) = false from by simp; omega]; simp
            clear HFI HBE
            go_wp2_with fail
            refine (load_any _ _ l left m _ (HL.out.below hbr (Nat.le_refl _) |>.mono hsz) hn HA.out (HQ.out.below hbr (Nat.le_refl _) |>.mono hsz) HM.out).mono ?_
            rintro e w2 ⟨cv, rfl, hcs, hcf, hb2⟩
            rw [HRES.out] at hcs ⊢
            obtain ⟨adc, capc, hcv, hcc⟩ := id hcs
            subst hcv
            have HCS := Lib.hid hcs; have HCF := Lib.hid hcf
            have hB2 : w2.heap[w.heap.size]? = some (.cells #[.slice adb (rbest l left W V m).length capb, .int .i64 q.1, .int .i64 q.2.1, .int .i64 q.2.2, .bool true] 58 (0, 0)) := by rw [hb2.block _ hgl]; exact H1.out
            have hsz2 := hb2.size
            have hB3 : (w2.alloc (.cells #[.slice adc (idxs m l.length).length capc, .int .i64 c.1, .int .i64 c.2.1, .int .i64 c.2.2, .bool true] 58)).heap[w.heap.size]? = some (.cells #[.slice adb (rbest l left W V m).length capb, .int .i64 q.1, .int .i64 q.2.1, .int .i64 q.2.2, .bool true] 58 (0, 0)) := by rw [Below.heap_alloc _ _ _ (by omega)]; exact hB2
            have hB4 : (w2.alloc (.cells #[.slice adc (idxs m l.length).length capc, .int .i64 c.1, .int .i64 c.2.1, .int .i64 c.2.2, .bool true] 58)).heap[w2.heap.size]? = some (.cells #[.slice adc (idxs m l.length).length capc, .int .i64 c.1, .int .i64 c.2.1, .int .i64 c.2.2, .bool true] 58 (0, 0)) := blk_new _ _ _
            have HB3 := Lib.hid hB3; have HB4 := Lib.hid hB4
            have hb3 : Below wr.heap.size wr (w2.alloc (.cells #[.slice adc (idxs m l.length).length capc, .int .i64 c.1, .int .i64 c.2.1, .int .i64 c.2.2, .bool true] 58)) := hb2.alloc hsz2 _
            obtain ⟨s0, s1, s2, s3, s4, sf⟩ := blk5 hB3
            obtain ⟨t0, t1, t2, t3, t4, tf⟩ := blk5 hB4
            have g0 := sf 0; have g1 := sf 1; have g2 := sf 2; have g3 := sf 3; have g4 := sf 4
            clear sf tf hcs hcf hB2 hB3 hB4
            have HBK := Lib.hid hb3
            go_wp2
            go_roundw
            case rel => exact ⟨m + 1, hlt, by go_num, HB.out.keep (rbest_no HNO.out) HBK.out⟩
            case measure => simp [intOf]; omega
          · by_cases hx : q.2.2 < c.2.2
            · have HYES : Hid ((okIdx left m l.length && fitsB l W V (idxs m l.length) && better l (idxs m l.length) (rbest l left W V m)) = true) := by
                unfold Hid; rw [HFI.out, HBE.out, show decide (c.1 ≤ W) = true from by simp; omega, show decide (c.2.1 ≤ V) = true from by simp; omega, show decide (q.2.2 < c.2.2) = true from by simp; omega]; simp
              clear HFI HBE
              go_wp2_with fail
              refine (load_any _ _ l left m _ (HL.out.below hbr (Nat.le_refl _) |>.mono hsz) hn HA.out (HQ.out.below hbr (Nat.le_refl _) |>.mono hsz) HM.out).mono ?_
              rintro e w2 ⟨cv, rfl, hcs, hcf, hb2⟩
              rw [HRES.out] at hcs ⊢
              obtain ⟨adc, capc, hcv, hcc⟩ := id hcs
              subst hcv
              have HCS := Lib.hid hcs; have HCF := Lib.hid hcf
              have hB2 : w2.heap[w.heap.size]? = some (.cells #[.slice adb (rbest l left W V m).length capb, .int .i64 q.1, .int .i64 q.2.1, .int .i64 q.2.2, .bool true] 58 (0, 0)) := by rw [hb2.block _ hgl]; exact H1.out
              have hsz2 := hb2.size
              have hB3 : (w2.alloc (.cells #[.slice adc (idxs m l.length).length capc, .int .i64 c.1, .int .i64 c.2.1, .int .i64 c.2.2, .bool true] 58)).heap[w.heap.size]? = some (.cells #[.slice adb (rbest l left W V m).length capb, .int .i64 q.1, .int .i64 q.2.1, .int .i64 q.2.2, .bool true] 58 (0, 0)) := by rw [Below.heap_alloc _ _ _ (by omega)]; exact hB2
              have hB4 : (w2.alloc (.cells #[.slice adc (idxs m l.length).length capc, .int .i64 c.1, .int .i64 c.2.1, .int .i64 c.2.2, .bool true] 58)).heap[w2.heap.size]? = some (.cells #[.slice adc (idxs m l.length).length capc, .int .i64 c.1, .int .i64 c.2.1, .int .i64 c.2.2, .bool true] 58 (0, 0)) := blk_new _ _ _
              have HB3 := Lib.hid hB3; have HB4 := Lib.hid hB4
              have hb3 : Below wr.heap.size wr (w2.alloc (.cells #[.slice adc (idxs m l.length).length capc, .int .i64 c.1, .int .i64 c.2.1, .int .i64 c.2.2, .bool true] 58)) := hb2.alloc hsz2 _
              obtain ⟨s0, s1, s2, s3, s4, sf⟩ := blk5 hB3
              obtain ⟨t0, t1, t2, t3, t4, tf⟩ := blk5 hB4
              have g0 := sf 0; have g1 := sf 1; have g2 := sf 2; have g3 := sf 3; have g4 := sf 4
              clear sf tf hcs hcf hB2 hB3 hB4
              have HBK := Lib.hid hb3
              have HTK : Hid (∀ wq, Below wr.heap.size wr wq → Kit.Sl 1 intEnc wq wq.heap.size (.slice adc (idxs m l.length).length capc) (idxs m l.length) → BestAt l left W V w (((((wq.setCell ⟨w.heap.size, 0, none⟩ (.slice adc (idxs m l.length).length capc)).setCell ⟨w.heap.size, 1, none⟩ (.int .i64 c.1)).setCell ⟨w.heap.size, 2, none⟩ (.int .i64 c.2.1)).setCell ⟨w.heap.size, 3, none⟩ (.int .i64 c.2.2)).setCell ⟨w.heap.size, 4, none⟩ (.bool true)) (m + 1)) := by
                intro wq h1 h2
                have := HB.out.take (rbest_yes HYES.out) h1 h2 HCF.out
                rw [HC.out] at this
                exact this
              have HSL : Hid (Kit.Sl 1 intEnc (w2.alloc (.cells #[.slice adc (idxs m l.length).length capc, .int .i64 c.1, .int .i64 c.2.1, .int .i64 c.2.2, .bool true] 58)) (w2.alloc (.cells #[.slice adc (idxs m l.length).length capc, .int .i64 c.1, .int .i64 c.2.1, .int .i64 c.2.2, .bool true] 58)).heap.size (.slice adc (idxs m l.length).length capc) (idxs m l.length)) :=
                Lib.hid (HCS.out.below ((Below.refl _ _).alloc (Nat.le_refl _) _) (Nat.le_refl _) |>.mono (by simp))
              go_wp2
              go_roundw
              case rel => exact ⟨m + 1, hlt, by go_num, HTK.out _ HBK.out HSL.out⟩
              case measure => simp [intOf]; omega
            · by_cases hx2 : c.2.2 < q.2.2
              · have HNO : Hid ((okIdx left m l.length && fitsB l W V (idxs m l.length) && better l (idxs m l.length) (rbest l left W V m)) = false) := by
                  unfold Hid; rw [HFI.out, HBE.out, show decide (q.2.2 < c.2.2) = false from by simp; omega, show decide (c.2.2 = q.2.2) = false from by simp; omega]; simp
                clear HFI HBE
                have hneq : (c.2.2 == q.2.2) = false := by simp; omega
                go_wp2_with fail
                refine (load_any _ _ l left m _ (HL.out.below hbr (Nat.le_refl _) |>.mono hsz) hn HA.out (HQ.out.below hbr (Nat.le_refl _) |>.mono hsz) HM.out).mono ?_
                rintro e w2 ⟨cv, rfl, hcs, hcf, hb2⟩
                rw [HRES.out] at hcs ⊢
                obtain ⟨adc, capc, hcv, hcc⟩ := id hcs
                subst hcv
                have HCS := Lib.hid hcs; have HCF := Lib.hid hcf
                have hB2 : w2.heap[w.heap.size]? = some (.cells #[.slice adb (rbest l left W V m).length capb, .int .i64 q.1, .int .i64 q.2.1, .int .i64 q.2.2, .bool true] 58 (0, 0)) := by rw [hb2.block _ hgl]; exact H1.out
                have hsz2 := hb2.size
                have hB3 : (w2.alloc (.cells #[.slice adc (idxs m l.length).length capc, .int .i64 c.1, .int .i64 c.2.1, .int .i64 c.2.2, .bool true] 58)).heap[w.heap.size]? = some (.cells #[.slice adb (rbest l left W V m).length capb, .int .i64 q.1, .int .i64 q.2.1, .int .i64 q.2.2, .bool true] 58 (0, 0)) := by rw [Below.heap_alloc _ _ _ (by omega)]; exact hB2
                have hB4 : (w2.alloc (.cells #[.slice adc (idxs m l.length).length capc, .int .i64 c.1, .int .i64 c.2.1, .int .i64 c.2.2, .bool true] 58)).heap[w2.heap.size]? = some (.cells #[.slice adc (idxs m l.length).length capc, .int .i64 c.1, .int .i64 c.2.1, .int .i64 c.2.2, .bool true] 58 (0, 0)) := blk_new _ _ _
                have HB3 := Lib.hid hB3; have HB4 := Lib.hid hB4
                have hb3 : Below wr.heap.size wr (w2.alloc (.cells #[.slice adc (idxs m l.length).length capc, .int .i64 c.1, .int .i64 c.2.1, .int .i64 c.2.2, .bool true] 58)) := hb2.alloc hsz2 _
                obtain ⟨s0, s1, s2, s3, s4, sf⟩ := blk5 hB3
                obtain ⟨t0, t1, t2, t3, t4, tf⟩ := blk5 hB4
                have g0 := sf 0; have g1 := sf 1; have g2 := sf 2; have g3 := sf 3; have g4 := sf 4
                clear sf tf hcs hcf hB2 hB3 hB4
                have HBK := Lib.hid hb3
                go_wp2
                go_roundw
                case rel => exact ⟨m + 1, hlt, by go_num, HB.out.keep (rbest_no HNO.out) HBK.out⟩
                case measure => simp [intOf]; omega
              · have hxe : (c.2.2 == q.2.2) = true := by simp; omega
                have hxg : decide (q.2.2 < c.2.2) = false := by simp; omega
                rcases (Bool.eq_false_or_eq_true (before (idxs m l.length) (rbest l left W V m))).symm with hbq | hbq
                · have HBQ := Lib.hid hbq; clear hbq
                  have HNO : Hid ((okIdx left m l.length && fitsB l W V (idxs m l.length) && better l (idxs m l.length) (rbest l left W V m)) = false) := by
                    unfold Hid; rw [HFI.out, HBE.out, show decide (q.2.2 < c.2.2) = false from by simp; omega, HBQ.out]; simp
                  clear HFI HBE
                  go_wp2_with fail
                  refine (load_any _ _ l left m _ (HL.out.below hbr (Nat.le_refl _) |>.mono hsz) hn HA.out (HQ.out.below hbr (Nat.le_refl _) |>.mono hsz) HM.out).mono ?_
                  rintro e w2 ⟨cv, rfl, hcs, hcf, hb2⟩
                  rw [HRES.out] at hcs ⊢
                  obtain ⟨adc, capc, hcv, hcc⟩ := id hcs
                  subst hcv
                  have HCS := Lib.hid hcs; have HCF := Lib.hid hcf
                  have hB2 : w2.heap[w.heap.size]? = some (.cells #[.slice adb (rbest l left W V m).length capb, .int .i64 q.1, .int .i64 q.2.1, .int .i64 q.2.2, .bool true] 58 (0, 0)) := by rw [hb2.block _ hgl]; exact H1.out
                  have hsz2 := hb2.size
                  have hB3 : (w2.alloc (.cells #[.slice adc (idxs m l.length).length capc, .int .i64 c.1, .int .i64 c.2.1, .int .i64 c.2.2, .bool true] 58)).heap[w.heap.size]? = some (.cells #[.slice adb (rbest l left W V m).length capb, .int .i64 q.1, .int .i64 q.2.1, .int .i64 q.2.2, .bool true] 58 (0, 0)) := by rw [Below.heap_alloc _ _ _ (by omega)]; exact hB2
                  have hB4 : (w2.alloc (.cells #[.slice adc (idxs m l.length).length capc, .int .i64 c.1, .int .i64 c.2.1, .int .i64 c.2.2, .bool true] 58)).heap[w2.heap.size]? = some (.cells #[.slice adc (idxs m l.length).length capc, .int .i64 c.1, .int .i64 c.2.1, .int .i64 c.2.2, .bool true] 58 (0, 0)) := blk_new _ _ _
                  have HB3 := Lib.hid hB3; have HB4 := Lib.hid hB4
                  have hb3 : Below wr.heap.size wr (w2.alloc (.cells #[.slice adc (idxs m l.length).length capc, .int .i64 c.1, .int .i64 c.2.1, .int .i64 c.2.2, .bool true] 58)) := hb2.alloc hsz2 _
                  obtain ⟨s0, s1, s2, s3, s4, sf⟩ := blk5 hB3
                  obtain ⟨t0, t1, t2, t3, t4, tf⟩ := blk5 hB4
                  have g0 := sf 0; have g1 := sf 1; have g2 := sf 2; have g3 := sf 3; have g4 := sf 4
                  clear sf tf hcs hcf hB2 hB3 hB4
                  have HBK := Lib.hid hb3
                  have HSL : Hid (Kit.Sl 1 intEnc (w2.alloc (.cells #[.slice adc (idxs m l.length).length capc, .int .i64 c.1, .int .i64 c.2.1, .int .i64 c.2.2, .bool true] 58)) (w2.alloc (.cells #[.slice adc (idxs m l.length).length capc, .int .i64 c.1, .int .i64 c.2.1, .int .i64 c.2.2, .bool true] 58)).heap.size (.slice adc (idxs m l.length).length capc) (idxs m l.length)) :=
                    Lib.hid (HCS.out.below ((Below.refl _ _).alloc (Nat.le_refl _) _) (Nat.le_refl _) |>.mono (by simp))
                  have HBSL : Hid (Kit.Sl 1 intEnc (w2.alloc (.cells #[.slice adc (idxs m l.length).length capc, .int .i64 c.1, .int .i64 c.2.1, .int .i64 c.2.2, .bool true] 58)) (w2.alloc (.cells #[.slice adc (idxs m l.length).length capc, .int .i64 c.1, .int .i64 c.2.1, .int .i64 c.2.2, .bool true] 58)).heap.size (.slice adb (rbest l left W V m).length capb) (rbest l left W V m)) :=
                    Lib.hid (HBS.out.below hb3 (Nat.le_refl _) |>.mono hb3.size)
                  go_wp2_with fail
                  refine (rbefore_any _ _ (idxs m l.length) (rbest l left W V m) _ _ HSL.out HBSL.out HIL.out HRL.out).mono ?_
                  rintro e w4 ⟨rfl, hb4⟩
                  have hbe := HBQ.out
                  rw [hbe]
                  obtain ⟨s0, s1, s2, s3, s4, sf⟩ := blk5 (show w4.heap[w.heap.size]? = _ from (hb4.block _ (by simp; omega)).trans HB3.out)
                  obtain ⟨t0, t1, t2, t3, t4, tf⟩ := blk5 (show w4.heap[w2.heap.size]? = _ from (hb4.block _ (by simp)).trans HB4.out)
                  have g0 := sf 0; have g1 := sf 1; have g2 := sf 2; have g3 := sf 3; have g4 := sf 4
                  clear sf tf hbe
                  have HBK4 := Lib.hid (HBK.out.trans (hb4.mono HBK.out.size))
                  have HSL4 := Lib.hid (HSL.out.below hb4 (Nat.le_refl _) |>.mono hb4.size)
                  go_wp2
                  go_roundw
                  case rel => exact ⟨m + 1, hlt, by go_num, HB.out.keep (rbest_no HNO.out) HBK4.out⟩
                  case measure => simp [intOf]; omega
                · have HBQ := Lib.hid hbq; clear hbq
                  have HYES : Hid ((okIdx left m l.length && fitsB l W V (idxs m l.length) && better l (idxs m l.length) (rbest l left W V m)) = true) := by
                    unfold Hid; rw [HFI.out, HBE.out, show decide (c.1 ≤ W) = true from by simp; omega, show decide (c.2.1 ≤ V) = true from by simp; omega, show decide (c.2.2 = q.2.2) = true from by simp; omega, HBQ.out]; simp
                  clear HFI HBE
                  go_wp2_with fail
                  refine (load_any _ _ l left m _ (HL.out.below hbr (Nat.le_refl _) |>.mono hsz) hn HA.out (HQ.out.below hbr (Nat.le_refl _) |>.mono hsz) HM.out).mono ?_
                  rintro e w2 ⟨cv, rfl, hcs, hcf, hb2⟩
                  rw [HRES.out] at hcs ⊢
                  obtain ⟨adc, capc, hcv, hcc⟩ := id hcs
                  subst hcv
                  have HCS := Lib.hid hcs; have HCF := Lib.hid hcf
                  have hB2 : w2.heap[w.heap.size]? = some (.cells #[.slice adb (rbest l left W V m).length capb, .int .i64 q.1, .int .i64 q.2.1, .int .i64 q.2.2, .bool true] 58 (0, 0)) := by rw [hb2.block _ hgl]; exact H1.out
                  have hsz2 := hb2.size
                  have hB3 : (w2.alloc (.cells #[.slice adc (idxs m l.length).length capc, .int .i64 c.1, .int .i64 c.2.1, .int .i64 c.2.2, .bool true] 58)).heap[w.heap.size]? = some (.cells #[.slice adb (rbest l left W V m).length capb, .int .i64 q.1, .int .i64 q.2.1, .int .i64 q.2.2, .bool true] 58 (0, 0)) := by rw [Below.heap_alloc _ _ _ (by omega)]; exact hB2
                  have hB4 : (w2.alloc (.cells #[.slice adc (idxs m l.length).length capc, .int .i64 c.1, .int .i64 c.2.1, .int .i64 c.2.2, .bool true] 58)).heap[w2.heap.size]? = some (.cells #[.slice adc (idxs m l.length).length capc, .int .i64 c.1, .int .i64 c.2.1, .int .i64 c.2.2, .bool true] 58 (0, 0)) := blk_new _ _ _
                  have HB3 := Lib.hid hB3; have HB4 := Lib.hid hB4
                  have hb3 : Below wr.heap.size wr (w2.alloc (.cells #[.slice adc (idxs m l.length).length capc, .int .i64 c.1, .int .i64 c.2.1, .int .i64 c.2.2, .bool true] 58)) := hb2.alloc hsz2 _
                  obtain ⟨s0, s1, s2, s3, s4, sf⟩ := blk5 hB3
                  obtain ⟨t0, t1, t2, t3, t4, tf⟩ := blk5 hB4
                  have g0 := sf 0; have g1 := sf 1; have g2 := sf 2; have g3 := sf 3; have g4 := sf 4
                  clear sf tf hcs hcf hB2 hB3 hB4
                  have HBK := Lib.hid hb3
                  have HTK : Hid (∀ wq, Below wr.heap.size wr wq → Kit.Sl 1 intEnc wq wq.heap.size (.slice adc (idxs m l.length).length capc) (idxs m l.length) → BestAt l left W V w (((((wq.setCell ⟨w.heap.size, 0, none⟩ (.slice adc (idxs m l.length).length capc)).setCell ⟨w.heap.size, 1, none⟩ (.int .i64 c.1)).setCell ⟨w.heap.size, 2, none⟩ (.int .i64 c.2.1)).setCell ⟨w.heap.size, 3, none⟩ (.int .i64 c.2.2)).setCell ⟨w.heap.size, 4, none⟩ (.bool true)) (m + 1)) := by
                    intro wq h1 h2
                    have := HB.out.take (rbest_yes HYES.out) h1 h2 HCF.out
                    rw [HC.out] at this
                    exact this
                  have HSL : Hid (Kit.Sl 1 intEnc (w2.alloc (.cells #[.slice adc (idxs m l.length).length capc, .int .i64 c.1, .int .i64 c.2.1, .int .i64 c.2.2, .bool true] 58)) (w2.alloc (.cells #[.slice adc (idxs m l.length).length capc, .int .i64 c.1, .int .i64 c.2.1, .int .i64 c.2.2, .bool true] 58)).heap.size (.slice adc (idxs m l.length).length capc) (idxs m l.length)) :=
                    Lib.hid (HCS.out.below ((Below.refl _ _).alloc (Nat.le_refl _) _) (Nat.le_refl _) |>.mono (by simp))
                  have HBSL : Hid (Kit.Sl 1 intEnc (w2.alloc (.cells #[.slice adc (idxs m l.length).length capc, .int .i64 c.1, .int .i64 c.2.1, .int .i64 c.2.2, .bool true] 58)) (w2.alloc (.cells #[.slice adc (idxs m l.length).length capc, .int .i64 c.1, .int .i64 c.2.1, .int .i64 c.2.2, .bool true] 58)).heap.size (.slice adb (rbest l left W V m).length capb) (rbest l left W V m)) :=
                    Lib.hid (HBS.out.below hb3 (Nat.le_refl _) |>.mono hb3.size)
                  go_wp2_with fail
                  refine (rbefore_any _ _ (idxs m l.length) (rbest l left W V m) _ _ HSL.out HBSL.out HIL.out HRL.out).mono ?_
                  rintro e w4 ⟨rfl, hb4⟩
                  have hbe := HBQ.out
                  rw [hbe]
                  obtain ⟨s0, s1, s2, s3, s4, sf⟩ := blk5 (show w4.heap[w.heap.size]? = _ from (hb4.block _ (by simp; omega)).trans HB3.out)
                  obtain ⟨t0, t1, t2, t3, t4, tf⟩ := blk5 (show w4.heap[w2.heap.size]? = _ from (hb4.block _ (by simp)).trans HB4.out)
                  have g0 := sf 0; have g1 := sf 1; have g2 := sf 2; have g3 := sf 3; have g4 := sf 4
                  clear sf tf hbe
                  have HBK4 := Lib.hid (HBK.out.trans (hb4.mono HBK.out.size))
                  have HSL4 := Lib.hid (HSL.out.below hb4 (Nat.le_refl _) |>.mono hb4.size)
                  go_wp2
                  go_roundw
                  case rel => exact ⟨m + 1, hlt, by go_num, HTK.out _ HBK4.out HSL4.out⟩
                  case measure => simp [intOf]; omega
    · have HME : Hid (m = 2 ^ l.length) := by unfold Hid; omega
      have hdec : decide ((m : Int) < wrap64 (2 ^ l.length)) = false := by rw [HW.out]; simp; exact_mod_cast Nat.le_of_not_lt hlt
      clear hlt
      go_wp2
      go_ret
      have h1 := HBS.out
      have h2 := HBF.out
      rw [HME.out] at h1 h2 ⊢
      exact ⟨_, rfl, h1, h2, hbr⟩

set_option maxRecDepth 100000 in
set_option maxHeartbeats 1000000 in
theorem refBest_any (v : Value) (l : List Par) (W V : Int) (w : World) (hl : Kit.Sl 3 parEnc w w.heap.size v l) (hn : l.length ≤ 1000000) :
    Calls Try.prog 16 #[v, .int .i64 W, .int .i64 V] w fun e w' => ∃ v', e = .returned (.tuple #[v', .int .i64 (bestRes l W V).2]) ∧ Kit.Sl 1 intEnc w' w'.heap.size v' (bestRes l W V).1 ∧ Below w.heap.size w w' := by
  have HL := Lib.hid hl
  obtain ⟨ad, cap, rfl, hcap, _⟩ := hl
  by_cases hc : checkOf l W V = 0
  · have hr : bestRes l W V = (bestOf l W V, 0) := by unfold bestRes; rw [if_pos hc]
    rw [hr]
    obtain ⟨z1, z2, z3, z4⟩ := check_zero hc
    have HC := Lib.hid hc; have Z4 := Lib.hid z4
    have hW := (inR_true z2).1; have hV := (inR_true z3).1
    have HEQ := Lib.hid (rbest_eq (good_of_all z4) hW hV)
    clear hc hr z2 z3 z4
    go_enter Try.func16, Try.ntmps16
    go_wp2_with fail
    refine (rcheck_any _ l W V _ HL.out hn).mono ?_
    rintro e w1 ⟨rfl, rfl⟩
    rw [HC.out]
    go_wp2_with fail
    refine (all_any l.length _ hn).mono ?_
    rintro e w2 ⟨lv, rfl, hown, hb2⟩
    have HO := Lib.hid (hown.sl (fun _ => rfl)); clear hown
    go_wp2_with fail
    refine (rbest_any _ _ l (List.replicate l.length true) W V _ (HL.out.below hb2 (Nat.le_refl _) |>.mono hb2.size) z1 Z4.out HO.out (by simp) hW hV).mono ?_
    rintro e w3 ⟨bv, rfl, hbs, _, hb3⟩
    rw [HEQ.out] at hbs
    have HBS := Lib.hid hbs; clear hbs
    have HBB := Lib.hid (hb2.trans (hb3.mono hb2.size))
    go_wp2
    go_ret2
    exact ⟨_, rfl, HBS.out, HBB.out⟩
  · have hr : bestRes l W V = ([], checkOf l W V) := by unfold bestRes; rw [if_neg hc]
    rw [hr]
    have hc1 : (checkOf l W V != 0) = true := by simp [hc]
    clear hc hr
    generalize hcc : checkOf l W V = c at *
    have HCC := Lib.hid hcc; clear hcc
    go_enter Try.func16, Try.ntmps16
    go_wp2_with fail
    refine (rcheck_any _ l W V _ HL.out hn).mono ?_
    rintro e w1 ⟨rfl, rfl⟩
    rw [HCC.out]
    go_wp2
    go_ret2
    exact ⟨_, rfl, ⟨none, 0, rfl, Nat.le_refl _, Or.inl rfl⟩, Below.refl _ _⟩
end Go.Proofs.Ytcipnajdbafahaa.Tk
