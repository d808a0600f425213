/- The law DiskMasks. -/
import Derived.Test.YtgcbfpimfmkbmaaDiskMasksP
namespace Go.Proofs.Ytgcbfpimfmkbmaa.Dk
set_option linter.unusedVariables false
set_option linter.unusedSimpArgs false
open Go.RowKit Go.ChangeMaps

/-- the law's own lists -/
def XM (a b : Value) (k : Nat) : Prop := a.ownBlock = some k ∨ b.ownBlock = some k
theorem Ses.turn {B : Nat} {S X X' : Nat → Prop} {w w' : World} {d n : Nat} {s : DS} (h : Ses B X w d n s) (hk : Kit.Keeps S w w') (hs : ∀ k, S k → X k) (hx : ∀ k, X' k → X k ∨ w.heap.size ≤ k) (hl : ∀ k, X' k → k < w'.heap.size) : Ses B X' w' d n s := by
  obtain ⟨⟨bv, pv, gm, h1, h2⟩, h3, h4⟩ := h
  refine ⟨⟨bv, pv, gm, h1.keeps hk (fun k hk' hc => (h2 k hk').2 (hs k hc)), fun k hk' => ⟨(h2 k hk').1, fun hc => ?_⟩⟩, hl, Nat.le_trans h4 hk.size⟩
  rcases hx k hc with e | e
  · exact (h2 k hk').2 e
  · have := h1.lt hk'; omega
theorem str_eq (x : ByteArray) : (x.toList == x.toList) = true := by simp
set_option maxRecDepth 100000 in
set_option maxHeartbeats 4000000 in
theorem diskMasks_walk {H : Type} {de : TypeId × Value → H} {base : Nat} (w : World) (b : Int) (hb : (Lit.int .i64 b).wf = true) (v : Value) (d0 : DataW H) (ps : List MemPlace) (ok : Value.okWide Try.prog w .any base 38 v) (h : DataW.Trod de Try.prog w 0 (fun _ => true) true 38 v d0 ps) (mk : Int) (hmk : (Lit.int .u64 mk).wf = true) :
    Calls Try.prog 6 #[.int .i64 b, v, .int .u64 mk] w fun e w' => e = .returned (.bool true) ∧ Below w.heap.size w w' := by
  obtain ⟨l, hl, hok, hln⟩ := open_ops ok h
  have HMK : Hid (0 ≤ mk ∧ mk < 18446744073709551616) := Lib.hid (u64_range hmk)
  clear ok h hb hmk
  have HL := Lib.hid hl; have HOK := Lib.hid hok; have HLN := Lib.hid hln
  unfold maxLen at hln
  obtain ⟨ad, cap, rfl, hcap, _⟩ := hl
  clear hok
  rcases (Bool.eq_false_or_eq_true (shortOf l)).symm with hsh | hsh
  · have HSH := Lib.hid hsh; clear hsh
    go_enter Try.func6, Try.ntmps6
    go_wp2_with fail
    refine (short_any _ l _ _ HL.out HLN.out HOK.out).mono ?_
    rintro e w1 ⟨rfl, rfl⟩
    rw [HSH.out]
    go_wp2_with fail
    refine (awake_any _).mono ?_
    rintro e w2 ⟨rfl, hb2⟩
    go_wp2
    go_ret
    exact ⟨rfl, hb2⟩
  have hl80 : l.length ≤ 80 := by unfold shortOf at hsh; simp at hsh; exact hsh.1
  have HSH := Lib.hid hsh; clear hsh
  by_cases hb1 : b < 1
  · have q1 : decide (b < 1) = true := by simpa using hb1
    go_enter Try.func6, Try.ntmps6
    go_wp2_with fail
    refine (short_any _ l _ _ HL.out HLN.out HOK.out).mono ?_
    rintro e w1 ⟨rfl, rfl⟩
    rw [HSH.out]
    go_wp2_with fail
    refine (awake_any _).mono ?_
    rintro e w2 ⟨rfl, hb2⟩
    go_wp2
    go_ret
    exact ⟨rfl, hb2⟩
  have q1 : decide (b < 1) = false := by simpa using hb1
  by_cases hb8 : 8 < b
  · have q2 : decide (8 < b) = true := by simpa using hb8
    go_enter Try.func6, Try.ntmps6
    go_wp2_with fail
    refine (short_any _ l _ _ HL.out HLN.out HOK.out).mono ?_
    rintro e w1 ⟨rfl, rfl⟩
    rw [HSH.out]
    go_wp2_with fail
    refine (awake_any _).mono ?_
    rintro e w2 ⟨rfl, hb2⟩
    go_wp2
    go_ret
    exact ⟨rfl, hb2⟩
  have q2 : decide (8 < b) = false := by simpa using hb8
  obtain ⟨m, rfl⟩ : ∃ m : Nat, b = (m : Int) := ⟨b.toNat, by omega⟩
  have hm1 : 1 ≤ m := by omega
  have hm2 : m ≤ 8 := by omega
  go_enter Try.func6, Try.ntmps6
  go_wp2_with fail
  refine (short_any _ l _ _ HL.out HLN.out HOK.out).mono ?_
  rintro e w1 ⟨rfl, rfl⟩
  rw [HSH.out]
  go_wp2_with fail
  refine (ses_new m hm1 (by omega) _).mono ?_
  rintro e w1 ⟨d, rfl, hs, hbw1⟩
  have HS := Lib.hid hs; have HB1 := Lib.hid hbw1
  have hz1 := hbw1.size
  clear hs hbw1
  go_wp2_with (at_make; refine Kit.wp_make T_str ByteArray.empty zero_str _ rfl _ _ rfl w.heap.size m rfl rfl (by omega) (by unfold maxLen; omega) hz1 w1.heap.size rfl ?_)
  intro w2 hown2 hb2 hs2
  have HO2 := Lib.hid hown2
  have HB2 := Lib.hid (chainB HB1.out hb2)
  have HS2 : Hid (Ses w.heap.size (XM (.slice (some ⟨w1.heap.size, 0, none⟩) m m) (.slice none 0 0)) w2 d 0 (DS.new m)) := Lib.hid (HS.out.guard hb2 (fun k hk => by
    rcases hk with hk | hk
    · right; simp [Value.ownBlock] at hk; omega
    · simp [Value.ownBlock] at hk) (fun k hk => by
    rcases hk with hk | hk
    · simp [Value.ownBlock] at hk; omega
    · simp [Value.ownBlock] at hk))
  clear hown2 hb2 HS HB1
  go_wp2
  go_loopw [9, 10, 11] (fun ov mv i wr => ∃ (k : Nat) (s : DS) (made : List OpD), i = .int .i64 k ∧ k ≤ l.length ∧ Kit.Own 9 1 strEnc wr w.heap.size ov s.blocks ∧ Kit.Own 42 4 opEnc wr w.heap.size mv made ∧ (∀ j, ov.ownBlock = some j → mv.ownBlock ≠ some j) ∧ Ses w.heap.size (XM ov mv) wr d k s ∧ Calm s ∧ s.blocks.length = m ∧ made.map pairOf = s.pend ∧ made.length ≤ k ∧ Below w.heap.size w wr) (fun _ _ i _ => l.length - (intOf i).toNat)
  case atStart => exact ⟨0, DS.new m, [], rfl, by omega, HO2.out, Kit.Own.nil _ _, fun j _ h => by simp [Value.ownBlock] at h, HS2.out, ⟨rfl, rfl⟩, by simp [DS.new], rfl, by simp, HB2.out⟩
  case round =>
    obtain ⟨k, s, made, rfl, hk, ho, hm, hne, hs, hc, hbl, hmp, hml, hbr⟩ := hrel
    have HO := Lib.hid ho; have HM := Lib.hid hm; have HNE := Lib.hid hne; have HSS := Lib.hid hs; have HC := Lib.hid hc; have HBL := Lib.hid hbl; have HMP := Lib.hid hmp
    obtain ⟨oa, on, oc, hov⟩ : ∃ a n c, u9 = .slice a n c := by obtain ⟨a, c, h, _⟩ := ho.sl (fun _ => rfl); exact ⟨a, _, c, h⟩
    obtain ⟨ma, mc, hmv⟩ : ∃ a c, u10 = .slice a made.length c := by obtain ⟨a, c, h, _⟩ := hm.sl (fun _ => rfl); exact ⟨a, c, h⟩
    subst hov hmv
    have hzr := hbr.size
    clear ho hm hne hs hc hbl hmp HO2 HS2 HB2
    by_cases hlt : k < l.length
    · obtain ⟨bl0, ol0, cap', hv, hbl0, c0, c1, c2, c3⟩ := sl_op (HL.out.below hbr (Nat.le_refl _)) k hlt
      obtain rfl : ad = some ⟨bl0, ol0, none⟩ := (Value.slice.inj hv).1
      have HOO := Lib.hid (HOK.out l[k] (List.getElem_mem _))
      generalize l[k] = o at *
      obtain ⟨o1, o2, o3, o4⟩ := o
      dsimp only at c0 c1 c2 c3
      have i1 : (0 : Int) ≤ (k : Int) := by omega
      have i2 : (k : Int) < (l.length : Int) := by omega
      clear hv
      have HC1 := Lib.hid c1; have HC2 := Lib.hid c2; have HC3 := Lib.hid c3; have HC0 := Lib.hid c0
      by_cases hfl : o1 = 1 ∧ k < l.length / 2
      · obtain ⟨rfl, hhalf⟩ := hfl
        have q3 : decide ((k : Int) < (l.length : Int) / 2) = true := by simp; omega
        have q3' : decide (k < l.length / 2) = true := by simp; omega
        have HFL := Lib.hid (calm_flush HC.out)
        go_wp2_with fail
        clear c0 c1 c2 c3
        refine (ses_flush HSS.out (by omega)).mono ?_
        rintro e w3 ⟨rfl, hs3, hk3⟩
        rw [HFL.out] at hs3 ⊢
        dsimp only at hs3 ⊢
        have HS3 := Lib.hid hs3
        have hb3 := hbr.trans (fr_below hk3 hbr.size)
        have HLN3 : Hid ((s.settle (fun _ => true)).blocks.length = m) := Lib.hid (by show (settleGo _ 0 s.pend s.blocks).length = m; rw [settleGo_len]; exact HBL.out)
        have HCB : Hid (contentsOf (s.settle (fun _ => true)) = (s.settle (fun _ => true)).blocks) := Lib.hid (contents_blocks HC.out.up rfl (by rw [HLN3.out]; exact hm2))
        have HC4 : Hid (Calm (s.settle (fun _ => true))) := Lib.hid ⟨HC.out.armed, HC.out.up⟩
        have HP4 : Hid ((s.settle (fun _ => true)).pend = []) := Lib.hid rfl
        clear hs3 hk3
        generalize s.settle (fun _ => true) = s3 at *
        go_wp2_with fail
        refine (contents_any HS3.out).mono ?_
        rintro e w4 ⟨cv, rfl, hown, hb4⟩
        rw [HCB.out] at hown
        have HO4 := Lib.hid (hown.mono hb3.size)
        have HS4 : Hid (Ses w.heap.size (XM cv (.slice none 0 0)) w4 d (k + 1) s3) := Lib.hid (HS3.out.guard hb4 (fun j hj => by
          rcases hj with hj | hj
          · right; exact (World.ownsRow.lt hown j hj).1
          · simp [Value.ownBlock] at hj) (fun j hj => by
          rcases hj with hj | hj
          · exact (World.ownsRow.lt hown j hj).2
          · simp [Value.ownBlock] at hj))
        have hb4' := chainB hb3 hb4
        clear hown hb4
        go_wp2
        go_roundw
        case rel => exact ⟨k + 1, s3, [], by go_num, by omega, HO4.out, Kit.Own.nil _ _, fun j _ h => by simp [Value.ownBlock] at h, HS4.out, HC4.out, HLN3.out, by rw [HP4.out]; rfl, by simp, hb4'⟩
        case measure => simp [intOf]; omega
      · have hcase : ((o1 == 1) = true ∧ decide ((k : Int) < (l.length : Int) / 2) = false ∧ decide (k < l.length / 2) = false) ∨ (o1 == 1) = false := by
          by_cases h1 : o1 = 1
          · left; exact ⟨by simpa using h1, by simp; omega, by simp; omega⟩
          · right; simpa using h1
        clear hfl
        have HD0 : Hid (Below wr.heap.size wr wr.drew) := Lib.hid ((Below.refl _ _).drew)
        rcases calm_write HC.out o2 o3 with hwr | ⟨c, hwr, hcc⟩
        · have HWR := Lib.hid hwr
          clear hwr
          rcases hcase with ⟨q0, q3, q3'⟩ | q0
          all_goals
            go_wp2
            go_still_tail 11, (by kernel_rfl)
            change wpList _ _ _ _ _ wr.drew
            have HSD := Lib.hid (HSS.out.below HD0.out)
            have HOD := Lib.hid (HO.out.below' HD0.out)
            have HMD := Lib.hid (HM.out.below' HD0.out)
            have hbd : Below w.heap.size w wr.drew := hbr.drew
            clear c0 c1 c2 c3
            generalize wr.drew = w4 at *
            go_wp2_with fail
            refine (ses_write HSD.out (by omega) o2 o3 HOO.out.1).mono ?_
            rintro e w5 ⟨rfl, hs5, hk5⟩
            rw [HWR.out] at hs5 ⊢
            dsimp only at hs5 ⊢
            have HS5 := Lib.hid hs5
            have hb5 := hbd.trans (fr_below hk5 hbd.size)
            have HO5 := Lib.hid (HOD.out.keeps hk5 (fun j e hc => hc.2 (Or.inl e)))
            have HM5 := Lib.hid (HMD.out.keeps hk5 (fun j e hc => hc.2 (Or.inr e)))
            have d0 := (hb5.cell (p := ⟨bl0, ol0 + k * 4, none⟩) hbl0).trans ((hbr.cell (p := ⟨bl0, ol0 + k * 4, none⟩) hbl0).symm.trans HC0.out)
            have d1 := (hb5.cell (p := ⟨bl0, ol0 + k * 4 + 1, none⟩) hbl0).trans ((hbr.cell (p := ⟨bl0, ol0 + k * 4 + 1, none⟩) hbl0).symm.trans HC1.out)
            have d2 := (hb5.cell (p := ⟨bl0, ol0 + k * 4 + 2, none⟩) hbl0).trans ((hbr.cell (p := ⟨bl0, ol0 + k * 4 + 2, none⟩) hbl0).symm.trans HC2.out)
            have d3 := (hb5.cell (p := ⟨bl0, ol0 + k * 4 + 3, none⟩) hbl0).trans ((hbr.cell (p := ⟨bl0, ol0 + k * 4 + 3, none⟩) hbl0).symm.trans HC3.out)
            have hz5 := hb5.size
            clear hs5 hk5
            go_wp2_with (at_builtin; refine Kit.wp_push T_op (by rfl) _ _ (by rfl) w5 w.heap.size _ _ (by rfl) HM5.out (o1, o2, o3, o4) _ _ w5.heap.size rfl (by rfl) ?c1 ?c2 ?c3 hz5 ?_)
            case c1 => rfl
            case c2 => unfold maxLen; omega
            case c3 => omega
            intro g6 cap6 w6 hown6 hb6 hgr6 hsz6 hv6 hgl6 hBg6
            have hpk := push_keep hgr6
            have HO6 := Lib.hid (HO5.out.keeps hpk (fun j e hc => HNE.out j e hc))
            have HM6 := Lib.hid hown6
            have HS6 : Hid (Ses w.heap.size (XM (.slice oa on oc) (.slice (some ⟨g6, 0, none⟩) (made.length + 1) cap6)) w6 d (k + 1) _) := Lib.hid (HS5.out.turn hpk (fun j e => Or.inr e) (fun j hj => by
              rcases hj with hj | hj
              · exact Or.inl (Or.inl hj)
              · simp [Value.ownBlock] at hj
                subst hj
                rcases hv6 with hv6 | hv6
                · exact Or.inl (Or.inr hv6)
                · right; omega) (fun j hj => by
              rcases hj with hj | hj
              · exact (World.ownsRow.lt HO6.out j hj).2
              · simp [Value.ownBlock] at hj; omega))
            have HN6 : Hid (∀ j, (Value.slice oa on oc).ownBlock = some j → (Value.slice (some ⟨g6, 0, none⟩) (made.length + 1) cap6).ownBlock ≠ some j) := Lib.hid (fun j hj e => by
              simp [Value.ownBlock] at e
              subst e
              rcases hv6 with hv6 | hv6
              · exact HNE.out g6 hj hv6
              · have := (World.ownsRow.lt HO5.out g6 hj).2; omega)
            have HMP6 : Hid ((made ++ [(o1, o2, o3, o4)]).map pairOf = s.pend ++ [(o2, o3)]) := Lib.hid (by rw [List.map_append, HMP.out]; rfl)
            have hb6' := hb5.trans hb6
            clear d0 d1 d2 d3 hown6 hgr6 hpk hv6
            go_wp2
            go_roundw
            case rel => exact ⟨k + 1, { s with pend := s.pend ++ [(o2, o3)] }, made ++ [(o1, o2, o3, o4)], by go_num, by omega, HO6.out, HM6.out, HN6.out, HS6.out, ⟨HC.out.armed, HC.out.up⟩, HBL.out, HMP6.out, by simp; omega, hb6'⟩
            case measure => simp [intOf]; omega
        · have HWR := Lib.hid hwr
          clear hwr
          have qc : (c == 0) = false := by rcases hcc with rfl | rfl <;> rfl
          clear hcc
          rcases hcase with ⟨q0, q3, q3'⟩ | q0
          all_goals
            go_wp2
            go_still_tail 11, (by kernel_rfl)
            change wpList _ _ _ _ _ wr.drew
            have HSD := Lib.hid (HSS.out.below HD0.out)
            have HOD := Lib.hid (HO.out.below' HD0.out)
            have HMD := Lib.hid (HM.out.below' HD0.out)
            have hbd : Below w.heap.size w wr.drew := hbr.drew
            clear c0 c1 c2 c3
            generalize wr.drew = w4 at *
            go_wp2_with fail
            refine (ses_write HSD.out (by omega) o2 o3 HOO.out.1).mono ?_
            rintro e w5 ⟨rfl, hs5, hk5⟩
            rw [HWR.out] at hs5 ⊢
            dsimp only at hs5 ⊢
            have HS5 := Lib.hid hs5
            have hb5 := hbd.trans (fr_below hk5 hbd.size)
            have HO5 := Lib.hid (HOD.out.keeps hk5 (fun j e hc => hc.2 (Or.inl e)))
            have HM5 := Lib.hid (HMD.out.keeps hk5 (fun j e hc => hc.2 (Or.inr e)))
            clear hs5 hk5
            go_wp2
            go_roundw
            case rel => exact ⟨k + 1, s, made, by go_num, by omega, HO5.out, HM5.out, HNE.out, HS5.out, HC.out, HBL.out, HMP.out, by omega, hb5⟩
            case measure => simp [intOf]; omega
    · obtain rfl : k = l.length := by omega
      have HFI := Lib.hid HSS.out.fine
      have hb8' : s.blocks.length ≤ 8 := by rw [HBL.out]; exact hm2
      obtain ⟨g1, g2, g3⟩ := crash_read HC.out.up mk hb8'
      have HG1 := Lib.hid g1; have HG2 := Lib.hid g2; have HG3 := Lib.hid g3
      have HCL := Lib.hid ((contents_len s hb8').trans HBL.out)
      have HNL : Hid ((settleGo (bitOf mk) 0 s.pend s.blocks).length = m) := Lib.hid (by rw [settleGo_len]; exact HBL.out)
      have HPL : Hid (s.pend.length = made.length) := Lib.hid (by rw [← HMP.out]; simp)
      have HOKA : Hid (∀ (n : Nat) (h1 : n < s.blocks.length) (h2 : n < (settleGo (bitOf mk) 0 s.pend s.blocks).length), okAt (settleGo (bitOf mk) 0 s.pend s.blocks)[n] s.blocks[n] n made made.length = true) := Lib.hid (fun n h1 h2 => okAt_all HFI.out (bitOf mk) made HMP.out n h1 h2)
      have HZ0 : Hid (mk = 0 → settleGo (bitOf mk) 0 s.pend s.blocks = s.blocks) := Lib.hid (fun h => by rw [h]; exact now_old s)
      have HZ1 : Hid (mk = 18446744073709551615 → settleGo (bitOf mk) 0 s.pend s.blocks = contentsOf s) := Lib.hid (fun h => by rw [h]; exact now_last HFI.out HC.out.up hb8')
      have hon : on = m := by obtain ⟨_, _, h, _⟩ := HO.out.sl (fun _ => rfl); rw [(Value.slice.inj h).2.1]; exact HBL.out
      subst hon
      clear g1 g2 g3 hb8'
      go_wp2_with fail
      refine (contents_any HSS.out).mono ?_
      rintro e w3 ⟨lv, rfl, hown, hb3⟩
      obtain ⟨la, lc, hlv⟩ : ∃ a c, lv = .slice a on c := by obtain ⟨a, c, h, _⟩ := hown.sl (fun _ => rfl); exact ⟨a, c, by rw [h, HCL.out]⟩
      subst hlv
      have HLV := Lib.hid hown
      have HS3 : Hid (Ses w.heap.size (fun j => XM (.slice oa on oc) (.slice ma made.length mc) j ∨ (Value.slice la on lc).ownBlock = some j) w3 d l.length s) := Lib.hid (HSS.out.guard hb3 (fun j hj => by
        rcases hj with hj | hj
        · exact Or.inl hj
        · right; exact (World.ownsRow.lt hown j hj).1) (fun j hj => by
        rcases hj with (hj | hj) | hj
        · have := (World.ownsRow.lt HO.out j hj).2; have := hb3.size; omega
        · have := (World.ownsRow.lt HM.out j hj).2; have := hb3.size; omega
        · exact (World.ownsRow.lt hown j hj).2))
      have HO3 := Lib.hid (HO.out.below' hb3); have HM3 := Lib.hid (HM.out.below' hb3)
      have hbw3 := chainB hbr hb3
      generalize hcs : contentsOf s = lastL at *
      clear hcs hown hb3 HSS HO HM
      go_wp2_with fail
      refine (ses_pending HS3.out).mono ?_
      rintro e w4 ⟨rfl, rfl⟩
      rw [HPL.out]
      go_wp2_with fail
      refine (ses_hit HS3.out (by omega) mk HMK.out).mono ?_
      rintro e w4 ⟨rfl, hs4, hk4⟩
      rw [HG1.out] at hs4 ⊢
      dsimp only at hs4 ⊢
      have HS4 := Lib.hid hs4
      have HO4 := Lib.hid (HO3.out.keeps hk4 (fun j e hc => hc.2 (Or.inl (Or.inl e))))
      have HM4 := Lib.hid (HM3.out.keeps hk4 (fun j e hc => hc.2 (Or.inl (Or.inr e))))
      have HL4 := Lib.hid (HLV.out.keeps hk4 (fun j e hc => hc.2 (Or.inr e)))
      have hbw4 := hbw3.trans (fr_below hk4 hbw3.size)
      clear hs4 hk4 HO3 HM3 HLV HS3
      go_wp2_with fail
      refine (ses_recover HS4.out).mono ?_
      rintro e w5 ⟨rfl, hs5, hk5⟩
      rw [HG2.out]
      have HS5 := Lib.hid hs5
      have HO5 := Lib.hid (HO4.out.keeps hk5 (fun j e hc => hc.2 (Or.inl (Or.inl e))))
      have HM5 := Lib.hid (HM4.out.keeps hk5 (fun j e hc => hc.2 (Or.inl (Or.inr e))))
      have HL5 := Lib.hid (HL4.out.keeps hk5 (fun j e hc => hc.2 (Or.inr e)))
      have hbw5 := hbw4.trans (fr_below hk5 hbw4.size)
      clear hs5 hk5 HO4 HM4 HL4 HS4
      go_wp2_with fail
      refine (contents_any HS5.out).mono ?_
      rintro e w6 ⟨nv, rfl, hown, hb6⟩
      rw [HG3.out] at hown
      obtain ⟨na, nc, hnv⟩ : ∃ a c, nv = .slice a on c := by obtain ⟨a, c, h, _⟩ := hown.sl (fun _ => rfl); exact ⟨a, c, by rw [h, HNL.out]⟩
      subst hnv
      have HN6 := Lib.hid (hown.sl (fun _ => rfl))
      have HO6 := Lib.hid ((HO5.out.below' hb6).sl (fun _ => rfl)); have HM6 := Lib.hid ((HM5.out.below' hb6).sl (fun _ => rfl)); have HL6 := Lib.hid ((HL5.out.below' hb6).sl (fun _ => rfl))
      have hbw6 := chainB hbw5 hb6
      generalize settleGo (bitOf mk) 0 s.pend s.blocks = nowL at *
      generalize s.blocks = oldL at *
      clear hown hb6 HS5 HO5 HM5 HL5 hbw5 hbw4 hbw3 HG1 HG2 HG3 HFI
      go_wp2
      go_loopw [14] (fun jv wr => ∃ j : Nat, j ≤ on ∧ jv = .int .i64 j ∧ Below w6.heap.size w6 wr) (fun jv _ => on - (intOf jv).toNat)
      case atStart => exact ⟨0, by omega, rfl, Below.refl _ _⟩
      case round =>
        obtain ⟨j, hj, rfl, hbq⟩ := hrel
        by_cases hjl : j < on
        · have hjn : j < nowL.length := by rw [HNL.out]; exact hjl
          have hjo : j < oldL.length := by rw [HBL.out]; exact hjl
          obtain ⟨bn, pn0, en, cn⟩ := sl_str' (HN6.out.below hbq (Nat.le_refl _)) j hjn
          obtain ⟨bo, po, eo, co⟩ := sl_str' (HO6.out.below hbq (Nat.le_refl _)) j hjo
          subst en eo
          have HOKJ := Lib.hid (HOKA.out j hjo hjn)
          generalize hxj : nowL[j] = x at *
          have HXJ := Lib.hid hxj
          clear hxj
          generalize oldL[j] = y at *
          have i1 : (0 : Int) ≤ (j : Int) := by omega
          have i2 : (j : Int) < (on : Int) := by omega
          go_wp2
          go_quiet (fail)
          go_wp2
          have hbz : Below w6.heap.size w6 (wr.drewN nq) := hbq.trans (drewN_below _ _ _)
          clear cn co
          go_loopw [15, 16] (fun okv iv wq => ∃ i : Nat, i ≤ made.length ∧ iv = .int .i64 i ∧ okv = .bool (okAt x y j made i) ∧ Below w6.heap.size w6 wq) (fun _ iv _ => made.length - (intOf iv).toNat)
          case atStart => exact ⟨0, by omega, rfl, by simp [okAt], hbz⟩
          case round =>
            obtain ⟨i, hi, rfl, rfl, hbi⟩ := hrel
            by_cases hil : i < made.length
            · obtain ⟨bm, om, cm', hvm, _, e0, e1, e2, e3⟩ := sl_op (HM6.out.below hbi (Nat.le_refl _)) i hil
              obtain rfl : ma = some ⟨bm, om, none⟩ := (Value.slice.inj hvm).1
              obtain ⟨bn2, pn2, en2, cn2⟩ := sl_str' (HN6.out.below hbi (Nat.le_refl _)) j hjn
              obtain ⟨rfl, rfl⟩ : bn = bn2 ∧ pn0 = pn2 := by simpa using en2
              rw [HXJ.out] at cn2
              have HSU := Lib.hid (okAt_succ x y j made i hil)
              generalize made[i] = o at *
              obtain ⟨o1, o2, o3, o4⟩ := o
              dsimp only at e0 e1 e2 e3 HSU
              have k1 : (0 : Int) ≤ (i : Int) := by omega
              have k2 : (i : Int) < (made.length : Int) := by omega
              clear hvm en2 e0 e3
              rcases (Bool.eq_false_or_eq_true (okAt x y j made i)).symm with hok | hok
              · rcases (Bool.eq_false_or_eq_true (o2 == (j : Int))).symm with hoj | hoj
                · have HN : Hid (okAt x y j made (i + 1) = false) := by unfold Hid; rw [HSU.out, hok, hoj]; rfl
                  rw [hok]
                  clear hok
                  go_wp2
                  go_quiet (fail)
                  go_wp2
                  go_roundw
                  case rel => exact ⟨i + 1, by omega, by go_num, by rw [HN.out], hbi.trans (drewN_below _ _ _)⟩
                  case measure => simp [intOf]; omega
                · have HN : Hid (okAt x y j made (i + 1) = (o3.toList == x.toList)) := by unfold Hid; rw [HSU.out, hok, hoj]; rfl
                  rw [hok]
                  clear hok
                  go_wp2
                  go_quiet (fail)
                  go_wp2
                  go_roundw
                  case rel => exact ⟨i + 1, by omega, by go_num, by rw [HN.out], hbi.trans (drewN_below _ _ _)⟩
                  case measure => simp [intOf]; omega
              · have HN : Hid (okAt x y j made (i + 1) = true) := by unfold Hid; rw [HSU.out, hok]; rfl
                rw [hok]
                clear hok
                go_wp2
                go_quiet (fail)
                go_wp2
                go_roundw
                case rel => exact ⟨i + 1, by omega, by go_num, by rw [HN.out], hbi.trans (drewN_below _ _ _)⟩
                case measure => simp [intOf]; omega
            · obtain rfl : i = made.length := by omega
              rw [HOKJ.out]
              go_wp2
              go_roundw
              case rel => exact ⟨j + 1, by omega, by go_num, hbi⟩
              case measure => simp [intOf]; omega
        · obtain rfl : j = on := by omega
          have HNQ := Lib.hid (HN6.out.below hbq (Nat.le_refl _)); have HOQ := Lib.hid (HO6.out.below hbq (Nat.le_refl _)); have HLQ := Lib.hid (HL6.out.below hbq (Nat.le_refl _))
          have hbe := chainB hbw6 hbq
          by_cases hk0 : mk = 0
          · have HE := HZ0.out hk0
            subst hk0
            have HSA : Hid (sameS nowL oldL = true) := Lib.hid (by unfold sameS; simp [HE])
            clear HE
            have hln1 : nowL.length ≤ 1000000 := by rw [HNL.out]; omega
            have hln2 : oldL.length ≤ 1000000 := by rw [HBL.out]; omega
            go_wp2_with fail
            refine (same_any _ _ nowL oldL _ _ HNQ.out HOQ.out hln1 hln2).mono ?_
            rintro e w7 ⟨rfl, hb7⟩
            rw [HSA.out]
            go_wp2_with fail
            refine (awake_any _).mono ?_
            rintro e w8 ⟨rfl, hb8''⟩
            go_wp2
            go_ret
            exact ⟨rfl, chainB (chainB hbe hb7) hb8''⟩
          · by_cases hk1 : mk = 18446744073709551615
            · have HE := HZ1.out hk1
              subst hk1
              have HSA : Hid (sameS nowL lastL = true) := Lib.hid (by unfold sameS; simp [HE])
              clear HE hk0
              have hln1 : nowL.length ≤ 1000000 := by rw [HNL.out]; omega
              have hln2 : lastL.length ≤ 1000000 := by rw [HCL.out]; omega
              go_wp2_with fail
              refine (same_any _ _ nowL lastL _ _ HNQ.out HLQ.out hln1 hln2).mono ?_
              rintro e w7 ⟨rfl, hb7⟩
              rw [HSA.out]
              go_wp2_with fail
              refine (awake_any _).mono ?_
              rintro e w8 ⟨rfl, hb8''⟩
              go_wp2
              go_ret
              exact ⟨rfl, chainB (chainB hbe hb7) hb8''⟩
            · have z0 : (mk != 0) = true := by simpa using hk0
              have z1 : (mk != 18446744073709551615) = true := by simpa using hk1
              clear hk0 hk1
              go_wp2_with fail
              refine (awake_any _).mono ?_
              rintro e w8 ⟨rfl, hb8''⟩
              go_wp2
              go_ret
              exact ⟨rfl, chainB hbe hb8''⟩
end Go.Proofs.Ytgcbfpimfmkbmaa.Dk
