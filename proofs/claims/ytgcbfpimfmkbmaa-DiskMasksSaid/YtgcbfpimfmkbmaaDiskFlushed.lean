/- The law DiskFlushed. -/
import Derived.Test.YtgcbfpimfmkbmaaDiskCalls
import Derived.Test.YtgcbfpimfmkbmaaDiskPlain2
namespace Go.Proofs.Ytgcbfpimfmkbmaa.Dk
set_option linter.unusedVariables false
set_option linter.unusedSimpArgs false
open Go.RowKit Go.ChangeMaps

theorem u64_range {m : Int} (h : (Lit.int .u64 m).wf = true) : 0 ≤ m ∧ m < 18446744073709551616 := by
  have := (Lit.wf_int_iff _ _).1 h
  exact ⟨this.1, by have := this.2; simp [IntKind.max, IntKind.bits, IntKind.signed] at this; omega⟩
def PlayPost (m : Nat) (l : List OpD) (w : World) (e : Ending) (w' : World) : Prop :=
  ∃ (d : Nat) (va : Option Addr) (vn vc : Nat), e = .returned (.tuple #[.pointer (some ⟨d, 0, none⟩), .slice va vn vc]) ∧ Ses w.heap.size (fun k => (Value.slice va vn vc).ownBlock = some k) w' d (l.length + 1) (runOps (DS.new m) l).recover.1 ∧ Kit.Sl 1 strEnc w' w'.heap.size (.slice va vn vc) (contentsOf (runOps (DS.new m) l).recover.1) ∧ Below w.heap.size w w'
set_option maxRecDepth 100000 in
set_option maxHeartbeats 4000000 in
theorem play_any (m : Nat) (hm1 : 1 ≤ m) (hm2 : m ≤ 8) (v : Value) (l : List OpD) (w : World) (hl : Kit.Sl 4 opEnc w w.heap.size v l) (hn : l.length ≤ 80) (hok : ∀ o ∈ l, OkOp o) :
    Calls Try.prog 20 #[.int .i64 m, v] w (PlayPost m l w) := by
  have HL := Lib.hid hl; have HOK := Lib.hid hok
  obtain ⟨ad, cap, rfl, hcap, _⟩ := hl
  clear hok
  go_enter Try.func20, Try.ntmps20
  go_wp2_with fail
  refine (ses_new m hm1 (by omega) _).mono ?_
  rintro e w1 ⟨d, rfl, hs, hb1⟩
  have HS := Lib.hid hs; have HB1 := Lib.hid hb1
  clear hs hb1
  go_wp2
  go_loopw [8] (fun i wr => ∃ k : Nat, k ≤ l.length ∧ i = .int .i64 k ∧ Ses w.heap.size (fun _ => False) wr d k (runOps (DS.new m) (l.take k)) ∧ Below w.heap.size w wr) (fun i _ => l.length - (intOf i).toNat)
  case atStart => exact ⟨0, by omega, rfl, HS.out, HB1.out⟩
  case round =>
    obtain ⟨k, hk, rfl, hs, hbr⟩ := hrel
    have HSS := Lib.hid hs
    clear hs HS HB1
    by_cases hlt : k < l.length
    · obtain ⟨bl0, ol0, cap', hv, hbl0, c0, c1, c2, c3⟩ := sl_op (HL.out.below hbr (Nat.le_refl _)) k hlt
      obtain rfl : ad = some ⟨bl0, ol0, none⟩ := (Value.slice.inj hv).1
      have HOO := Lib.hid (HOK.out l[k] (List.getElem_mem _))
      have HT : Hid (l.take (k + 1) = l.take k ++ [l[k]]) := Lib.hid (List.take_succ_eq_append_getElem hlt)
      generalize l[k] = o at *
      obtain ⟨o1, o2, o3, o4⟩ := o
      dsimp only at c0 c1 c2 c3
      have i1 : (0 : Int) ≤ (k : Int) := by omega
      have i2 : (k : Int) < (l.length : Int) := by omega
      clear hv
      go_wp2_with fail
      clear c0 c1 c2 c3
      refine (do_any HSS.out (by omega) o1 o2 o3 o4 HOO.out).mono ?_
      rintro e w4 ⟨rfl, hs4, hk4⟩
      rw [← runOps_snoc, ← HT.out] at hs4
      have HS4 := Lib.hid hs4
      have hb4 := hbr.trans (fr_below hk4 hbr.size)
      generalize (doOp (runOps (DS.new m) (l.take k)) (o1, o2, o3, o4)).2 = rr at *
      clear hs4 hk4
      go_wp2
      go_roundw
      case rel => exact ⟨k + 1, by omega, by go_num, HS4.out, hb4⟩
      case measure => simp [intOf]; omega
    · obtain rfl : k = l.length := by omega
      have hs := HSS.out
      rw [List.take_length] at hs
      have HSL := Lib.hid hs
      clear hs HSS
      go_wp2_with fail
      refine (ses_recover HSL.out).mono ?_
      rintro e w4 ⟨rfl, hs4, hk4⟩
      have HS4 := Lib.hid hs4
      have hb4 := hbr.trans (fr_below hk4 hbr.size)
      generalize (runOps (DS.new m) l).recover.2 = rr at *
      clear hs4 hk4
      go_wp2_with fail
      refine (contents_any HS4.out).mono ?_
      rintro e w5 ⟨cv, rfl, hown, hb5⟩
      obtain ⟨ca, cc, hcv⟩ : ∃ a c, cv = .slice a (contentsOf (runOps (DS.new m) l).recover.1).length c := by obtain ⟨a, c, h, _⟩ := hown.sl (fun _ => rfl); exact ⟨a, c, h⟩
      subst hcv
      have HSG : Hid (Ses w.heap.size (fun k => (Value.slice ca (contentsOf (runOps (DS.new m) l).recover.1).length cc).ownBlock = some k) w5 d (l.length + 1) (runOps (DS.new m) l).recover.1) := Lib.hid (HS4.out.guard hb5 (fun k hk => Or.inr (World.ownsRow.lt hown k hk).1) (fun k hk => (World.ownsRow.lt hown k hk).2))
      have HOW := Lib.hid (hown.sl (fun _ => rfl))
      clear hown
      generalize (contentsOf (runOps (DS.new m) l).recover.1).length = cn at *
      go_wp2
      go_ret2
      exact ⟨d, _, _, _, rfl, HSG.out, HOW.out, chainB hb4 hb5⟩
set_option maxRecDepth 100000 in
set_option maxHeartbeats 4000000 in
theorem diskFlushed_walk {H : Type} {de : TypeId × Value → H} {base : Nat} (w : World) (b : Int) (hb : (Lit.int .i64 b).wf = true) (v : Value) (d0 : DataW H) (ps : List MemPlace) (ok : Value.okWide Try.prog w .any base 38 v) (h : DataW.Trod de Try.prog w 0 (fun _ => true) true 38 v d0 ps) (mk : Int) (hmk : (Lit.int .u64 mk).wf = true) :
    Calls Try.prog 5 #[.int .i64 b, v, .int .u64 mk] w fun e w' => e = .returned (.bool true) ∧ Below w.heap.size w w' := by
  obtain ⟨l, hl, hok, hln⟩ := open_ops ok h
  have HMK : Hid (0 ≤ mk ∧ mk < 18446744073709551616) := Lib.hid (u64_range hmk)
  clear ok h hb hmk
  have HL := Lib.hid hl; have HOK := Lib.hid hok; have HLN := Lib.hid hln
  unfold maxLen at hln
  obtain ⟨ad, cap, rfl, hcap, _⟩ := hl
  clear hok
  rcases (Bool.eq_false_or_eq_true (shortOf l)).symm with hsh | hsh
  · have HSH := Lib.hid hsh; clear hsh
    go_enter Try.func5, Try.ntmps5
    go_wp2_with fail
    refine (short_any _ l _ _ HL.out HLN.out HOK.out).mono ?_
    rintro e w1 ⟨rfl, rfl⟩
    rw [HSH.out]
    go_wp2_with fail
    refine (awake_any _).mono ?_
    rintro e w2 ⟨rfl, hb2⟩
    go_wp2
    go_ret
    exact ⟨rfl, hb2⟩
  have hl80 : l.length ≤ 80 := by unfold shortOf at hsh; simp at hsh; exact hsh.1
  have HSH := Lib.hid hsh; clear hsh
  by_cases hb1 : b < 1
  · have q1 : decide (b < 1) = true := by simpa using hb1
    go_enter Try.func5, Try.ntmps5
    go_wp2_with fail
    refine (short_any _ l _ _ HL.out HLN.out HOK.out).mono ?_
    rintro e w1 ⟨rfl, rfl⟩
    rw [HSH.out]
    go_wp2_with fail
    refine (awake_any _).mono ?_
    rintro e w2 ⟨rfl, hb2⟩
    go_wp2
    go_ret
    exact ⟨rfl, hb2⟩
  have q1 : decide (b < 1) = false := by simpa using hb1
  by_cases hb8 : 8 < b
  · have q2 : decide (8 < b) = true := by simpa using hb8
    go_enter Try.func5, Try.ntmps5
    go_wp2_with fail
    refine (short_any _ l _ _ HL.out HLN.out HOK.out).mono ?_
    rintro e w1 ⟨rfl, rfl⟩
    rw [HSH.out]
    go_wp2_with fail
    refine (awake_any _).mono ?_
    rintro e w2 ⟨rfl, hb2⟩
    go_wp2
    go_ret
    exact ⟨rfl, hb2⟩
  have q2 : decide (8 < b) = false := by simpa using hb8
  obtain ⟨m, rfl⟩ : ∃ m : Nat, b = (m : Int) := ⟨b.toNat, by omega⟩
  have hm1 : 1 ≤ m := by omega
  have hm2 : m ≤ 8 := by omega
  go_enter Try.func5, Try.ntmps5
  go_wp2_with fail
  refine (short_any _ l _ _ HL.out HLN.out HOK.out).mono ?_
  rintro e w1 ⟨rfl, rfl⟩
  rw [HSH.out]
  go_wp2_with fail
  refine (play_any m hm1 hm2 _ l _ HL.out hl80 HOK.out).mono ?_
  rintro e w1 ⟨d, va, vn, vc, rfl, hs, hsl, hb1'⟩
  have hup := (recover_up (runOps (DS.new m) l)).1
  generalize (runOps (DS.new m) l).recover.1 = s at *
  have HFI := Lib.hid hs.fine
  have HS := Lib.hid hs; have HW := Lib.hid hsl; have HB := Lib.hid hb1'
  have HUP := Lib.hid hup
  clear hs hsl hb1' hup
  have HCL : Hid ((contentsOf s).length ≤ 1000000) := Lib.hid (by unfold contentsOf; simp; omega)
  generalize hct : contentsOf s = ct at *
  have HCT := Lib.hid hct; clear hct
  by_cases hf0 : s.flush.2 = 0
  · obtain ⟨f1, f2, f3, f4⟩ := flush_ok HFI.out HUP.out hf0
    have HF0 := Lib.hid hf0; have HF1 := Lib.hid f1; have HF2 := Lib.hid f2
    have HF4 : Hid (contentsOf s.flush.1 = ct) := Lib.hid (f4.trans HCT.out)
    clear hf0 f1 f2 f3 f4
    go_wp2_with fail
    refine (ses_flush HS.out (by omega)).mono ?_
    rintro e w2 ⟨rfl, hs2, hk2⟩
    rw [HF0.out]
    generalize s.flush.1 = s2 at *
    have HS2 := Lib.hid hs2
    have HW2 := Lib.hid (HW.out.keeps hk2 (fun k e _ hc => hc.2 e))
    have HB2 := Lib.hid (HB.out.trans (fr_below hk2 HB.out.size))
    obtain ⟨g1, g2, g3, g4⟩ := flushed HF1.out HF2.out mk
    have HG1 := Lib.hid g1; have HG2 := Lib.hid g2; have HG3 := Lib.hid g3
    have HG4 : Hid (contentsOf (s2.crash mk).recover.1 = ct) := Lib.hid (g4.trans HF4.out)
    have HP0 : Hid (s2.pend.length = 0) := Lib.hid (by rw [HF2.out]; rfl)
    have HPC : Hid ((s2.crash mk).pend.length = 0) := Lib.hid (by rw [g2]; rfl)
    clear hs2 hk2 g1 g2 g3 g4
    go_wp2_with fail
    refine (ses_pending HS2.out).mono ?_
    rintro e w3 ⟨rfl, rfl⟩
    rw [HP0.out]
    go_wp2_with fail
    refine (contents_any HS2.out).mono ?_
    rintro e w3 ⟨cv, rfl, hown, hb3⟩
    rw [HF4.out] at hown
    have HC3 := Lib.hid (hown.sl (fun _ => rfl))
    have HS3 := Lib.hid (HS2.out.below hb3)
    have HW3 := Lib.hid ((HW2.out.below hb3 (Nat.le_refl _)).mono hb3.size)
    have HB3 := Lib.hid (chainB HB2.out hb3)
    clear hown hb3
    go_wp2_with fail
    refine (same_any _ _ ct ct _ _ HC3.out HW3.out HCL.out HCL.out).mono ?_
    rintro e w4 ⟨rfl, hb4⟩
    rw [show sameS ct ct = true from by unfold sameS; simp]
    have HS4 := Lib.hid (HS3.out.below hb4)
    have HW4 := Lib.hid ((HW3.out.below hb4 (Nat.le_refl _)).mono hb4.size)
    have HB4 := Lib.hid (chainB HB3.out hb4)
    clear hb4
    go_wp2_with fail
    refine (ses_hit HS4.out (by omega) mk HMK.out).mono ?_
    rintro e w5 ⟨rfl, hs5, hk5⟩
    rw [HG1.out] at hs5 ⊢
    dsimp only at hs5 ⊢
    have HS5 := Lib.hid hs5
    have HW5 := Lib.hid (HW4.out.keeps hk5 (fun k e _ hc => hc.2 e))
    have HB5 := Lib.hid (HB4.out.trans (fr_below hk5 HB4.out.size))
    clear hs5 hk5
    go_wp2_with fail
    refine (ses_pending HS5.out).mono ?_
    rintro e w6 ⟨rfl, rfl⟩
    rw [HPC.out]
    go_wp2_with fail
    refine (ses_recover HS5.out).mono ?_
    rintro e w6 ⟨rfl, hs6, hk6⟩
    rw [HG3.out]
    have HS6 := Lib.hid hs6
    have HW6 := Lib.hid (HW5.out.keeps hk6 (fun k e _ hc => hc.2 e))
    have HB6 := Lib.hid (HB5.out.trans (fr_below hk6 HB5.out.size))
    clear hs6 hk6
    go_wp2_with fail
    refine (contents_any HS6.out).mono ?_
    rintro e w7 ⟨cv2, rfl, hown, hb7⟩
    rw [HG4.out] at hown
    have HC7 := Lib.hid (hown.sl (fun _ => rfl))
    have HW7 := Lib.hid ((HW6.out.below hb7 (Nat.le_refl _)).mono hb7.size)
    have HB7 := Lib.hid (chainB HB6.out hb7)
    clear hown hb7
    go_wp2_with fail
    refine (same_any _ _ ct ct _ _ HC7.out HW7.out HCL.out HCL.out).mono ?_
    rintro e w8 ⟨rfl, hb8⟩
    rw [show sameS ct ct = true from by unfold sameS; simp]
    go_wp2_with fail
    refine (awake_any _).mono ?_
    rintro e w9 ⟨rfl, hb9⟩
    go_wp2
    go_ret
    exact ⟨rfl, chainB (chainB HB7.out hb8) hb9⟩
  · obtain ⟨f1, f2⟩ := flush_fail HUP.out hf0
    have HF1 := Lib.hid f1; have HF2 := Lib.hid f2
    clear hf0 f1 f2
    go_wp2_with fail
    refine (ses_flush HS.out (by omega)).mono ?_
    rintro e w2 ⟨rfl, hs2, hk2⟩
    rw [HF1.out]
    have HS2 := Lib.hid hs2
    have HB2 := Lib.hid (HB.out.trans (fr_below hk2 HB.out.size))
    clear hs2 hk2
    go_wp2_with fail
    refine (ses_down HS2.out).mono ?_
    rintro e w3 ⟨rfl, rfl⟩
    rw [HF2.out]
    go_wp2_with fail
    refine (awake_any _).mono ?_
    rintro e w4 ⟨rfl, hb4⟩
    go_wp2
    go_ret
    exact ⟨rfl, chainB HB2.out hb4⟩
end Go.Proofs.Ytgcbfpimfmkbmaa.Dk
