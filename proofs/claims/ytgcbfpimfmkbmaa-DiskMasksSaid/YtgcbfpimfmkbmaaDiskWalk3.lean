/- The walk of settle. -/
import Derived.Test.YtgcbfpimfmkbmaaDiskWalk2
import Derived.StillTailTactics
namespace Go.Proofs.Ytgcbfpimfmkbmaa.Dk
set_option linter.unusedVariables false
set_option linter.unusedSimpArgs false
open Go.RowKit Go.ChangeMaps

theorem Ow.d {d : Nat} {bv pv : Value} {gm : Nat} : Ow d bv pv gm d := Or.inl rfl
theorem Ow.m {d : Nat} {bv pv : Value} {gm : Nat} : Ow d bv pv gm gm := Or.inr (Or.inr (Or.inr rfl))
theorem Ow.b {d : Nat} {bv pv : Value} {gm k : Nat} (h : bv.ownBlock = some k) : Ow d bv pv gm k := Or.inr (Or.inl h)
theorem Ow.p {d : Nat} {bv pv : Value} {gm k : Nat} (h : pv.ownBlock = some k) : Ow d bv pv gm k := Or.inr (Or.inr (Or.inl h))

/-- what holds ahead of a round of settle -/
structure Half (w : World) (d : Nat) (bv pv : Value) (gm n : Nat) (s : DS) (bit : Nat → Bool) (k : Nat) (wr : World) : Prop where
  blk : wr.heap[d]? = some (.cells #[bv, pv, .map (some gm), .bool s.armed, .int .i64 s.steps, .int .u64 s.mask, .bool s.down] 60 (0, 0))
  blocks : Kit.Own 9 1 strEnc wr 0 bv (settleGo bit 0 (s.pend.take k) s.blocks)
  pend : Kit.Own 72 2 wrEnc wr 0 pv s.pend
  map : MapIs wr gm n (gone s.pend k)
  keep : Kit.Keeps (Ow d bv pv gm) w wr
theorem Half.below {w : World} {d : Nat} {bv pv : Value} {gm n : Nat} {s : DS} {bit : Nat → Bool} {k : Nat} {wr wr' : World} (h : Half w d bv pv gm n s bit k wr) (hb : Below wr.heap.size wr wr') : Half w d bv pv gm n s bit k wr' :=
  have hk : Kit.Keeps (fun _ => False) wr wr' := Kit.Keeps.of_below hb
  ⟨Kit.blk_keeps h.blk hk (fun h => h), h.blocks.below' hb, h.pend.below' hb, h.map.keeps hk (fun h => h), h.keep.trans' (Kit.Keeps.of_below hb)⟩
theorem Half.drew {w : World} {d : Nat} {bv pv : Value} {gm n : Nat} {s : DS} {bit : Nat → Bool} {k : Nat} {wr : World} (h : Half w d bv pv gm n s bit k wr) : Half w d bv pv gm n s bit k wr.drew :=
  h.below ((Below.refl _ _).drew)
theorem take_snocW (l : List (Int × ByteArray)) (k : Nat) (h : k < l.length) : l.take (k + 1) = l.take k ++ [l[k]] := List.take_succ_eq_append_getElem h
/-- a round: the store, if the bit is set -/
theorem settle_snoc (bit : Nat → Bool) (s : DS) (k : Nat) (h : k < s.pend.length) : settleGo bit 0 (s.pend.take (k + 1)) s.blocks = if bit k then (settleGo bit 0 (s.pend.take k) s.blocks).set s.pend[k].1.toNat s.pend[k].2 else settleGo bit 0 (s.pend.take k) s.blocks := by
  rw [take_snocW _ _ h, settleGo_snoc, List.length_take, Nat.zero_add, Nat.min_eq_left (by omega)]
/-- a round's end: what the delete leaves -/
theorem Half.next {w : World} {d : Nat} {bv pv : Value} {gm n : Nat} {s : DS} {bit : Nat → Bool} {k : Nat} {wr wr' : World} (hd : DAt w d bv pv gm n s) (hk : k < s.pend.length) (blk : wr.heap[d]? = some (.cells #[bv, pv, .map (some gm), .bool s.armed, .int .i64 s.steps, .int .u64 s.mask, .bool s.down] 60 (0, 0)))
    (blocks : Kit.Own 9 1 strEnc wr 0 bv (settleGo bit 0 (s.pend.take (k + 1)) s.blocks)) (pend : Kit.Own 72 2 wrEnc wr 0 pv s.pend) (keep : Kit.Keeps (Ow d bv pv gm) w wr)
    (ht : wr.mapTurned wr' gm) (hm : MapIs wr' gm n (fun x => if x = s.pend[k].1 then none else gone s.pend k x)) : Half w d bv pv gm n s bit (k + 1) wr' := by
  have hkp : Kit.Keeps (fun j => j = gm) wr wr' := (Kit.Keeps.refl _ _).turned ht rfl
  refine ⟨Kit.blk_keeps blk hkp hd.d1, blocks.keeps hkp (fun j hj => (hd.d2 j hj).2), pend.keeps hkp (fun j hj => (hd.d3 j hj).2.1), hm.congr (fun x _ => (gone_succ s.pend k hk x).symm), keep.turned ht Ow.m⟩

theorem flush1_is (bit : Nat → Bool) (hbt : ∀ k, bit k = true) (k : Nat) (w : World) : Calls Try.prog 36 #[.int .i64 k] w fun e w' => e = .returned (.bool (bit k)) ∧ Below w.heap.size w w' := by
  rw [hbt]; exact flush1_any k w
theorem crash1_is (bit : Nat → Bool) (m : Int) (hm : 0 ≤ m ∧ m < 18446744073709551616) (hbt : bit = bitOf m) (k : Nat) (hk : k ≤ 1000000) (g : Nat) (w : World) (h : w.cell? ⟨g, 0, none⟩ = some (.int .u64 m)) :
    Calls Try.prog 41 #[.int .i64 k, .pointer (some ⟨g, 0, none⟩)] w fun e w' => e = .returned (.bool (bit k)) ∧ Below w.heap.size w w' := by
  rw [hbt]; exact crash1_any k hk m hm g w h
set_option maxRecDepth 100000 in
set_option maxHeartbeats 4000000 in
theorem settle_all {w : World} {d : Nat} {bv pv : Value} {gm n : Nat} {s : DS} (h : DAt w d bv pv gm n s) (hn : n ≤ 1000000) (bit : Nat → Bool) (hbt : ∀ k, bit k = true) :
    Calls Try.prog 35 #[.pointer (some ⟨d, 0, none⟩), .func (.func 36) #[] #[]] w fun e w' => e = .returned (.tuple #[]) ∧ DAt w' d bv (.slice none 0 0) gm n (s.settle bit) ∧ Kit.Keeps (Ow d bv pv gm) w w' := by
  have H := Lib.hid h
  have hx := h.blk
  have hfine := h.fine
  have hcnt := h.cnt
  have hst : Half w d bv pv gm n s bit 0 w := ⟨h.blk, h.blocks, h.pend, h.map.congr (fun x _ => (gone_zero s.pend x).symm), Kit.Keeps.refl _ _⟩
  have HST := Lib.hid hst
  obtain ⟨gb, capb, rfl⟩ := h.bform
  obtain ⟨ap, capp, rfl⟩ := h.pform
  have HF := Lib.hid hfine
  have c1 := blkc hx 1 _ rfl
  clear h hx hfine hst
  go_enter Try.func35, Try.ntmps35
  go_wp2
  clear c1
  go_loopw [11] (fun i wr => ∃ k : Nat, k ≤ s.pend.length ∧ i = .int .i64 k ∧ Half w d (.slice (some ⟨gb, 0, none⟩) s.blocks.length capb) (.slice ap s.pend.length capp) gm n s bit k wr) (fun i _ => s.pend.length - (intOf i).toNat)
  case atStart => exact ⟨0, by omega, rfl, HST.out⟩
  case round =>
    obtain ⟨k, hk, rfl, hh⟩ := hrel
    have HH := Lib.hid hh; clear hh HST
    by_cases hlt : k < s.pend.length
    · obtain ⟨gp, rfl, q0, q1⟩ := own_wr HH.out.pend k hlt
      have hgb : gb < wr.heap.size := (World.ownsRow.lt HH.out.blocks gb rfl).2
      obtain ⟨⟨m, hm, hml⟩, hsz⟩ := HF.out.pend s.pend[k] (List.getElem_mem _)
      have HM := Lib.hid hm
      rw [hm] at q0
      have HE := Lib.hid (settle_snoc bit s k hlt)
      rw [hm, Int.toNat_natCast] at HE
      have i1 : (0 : Int) ≤ (k : Int) := by omega
      have i2 : (k : Int) < (s.pend.length : Int) := by omega
      have hml' := HF.out.len
      generalize htx : s.pend[k].2 = tx at *
      have HTX := Lib.hid htx
      clear hm htx
      have hA := newB wr (.cells #[.int .i64 (m : Int), .string tx] 72)
      go_wp2_with fail
      clear q0 q1
      have HH1 := Lib.hid (HH.out.below hA)
      have HL1 := Lib.hid (blk_new wr #[.int .i64 (m : Int), .string tx] 72)
      refine (flush1_is bit hbt k _).mono ?_
      rintro e w2 ⟨rfl, hb2⟩
      have HH2 := Lib.hid (HH1.out.below hb2)
      have HL2 : Hid (w2.heap[wr.heap.size]? = some (.cells #[.int .i64 (m : Int), .string tx] 72 (0, 0))) := Lib.hid (by rw [hb2.block _ (by simp)]; exact HL1.out)
      clear hA hb2 HH1 HL1 HH
      have j1 : (0 : Int) ≤ (m : Int) := by omega
      have j2 : (m : Int) < (s.blocks.length : Int) := by omega
      rcases (Bool.eq_false_or_eq_true (bit k)).symm with hbit | hbit
      · have HB := HE.out
        rw [hbit] at HB
        rw [if_neg (by simp)] at HB
        rw [hbit]
        have HBL := Lib.hid HB
        clear HB hbit
        have z0 := blkc HL2.out 0 _ rfl
        have z2 := blkc HH2.out.blk 2 _ rfl
        go_wp2
        obtain ⟨D, hD1, hD2⟩ := HH2.out.map
        have HD1 := Lib.hid hD1; have HD2 := Lib.hid hD2
        clear hD1 hD2
        go_still_tail 6, (by kernel_rfl)
        change wpList _ _ _ _ _ (w2.drew)
        refine wpList_delete_own _ rfl _ _ 57 3 rfl 9 (Maps.int_keyed Try.underlying3) Try.underlying57 _ gm n D rfl HD1.out.drew _ (.int .i64 (m : Int)) rfl (Maps.keyOf_int_mk Try.underlying3 (wf_nat m (by omega))) ?_
        intro w4 hown4 hturn4
        have HN := Lib.hid (Half.next (wr := w2.drew) (bit := bit) H.out hlt HH2.out.drew.blk (by rw [HBL.out]; exact HH2.out.drew.blocks) HH2.out.drew.pend HH2.out.drew.keep hturn4 (by rw [HM.out]; exact MapIs.del HD2.out m hown4))
        clear hown4 hturn4
        go_wp2
        go_roundw
        case rel => exact ⟨k + 1, by omega, by go_num, HN.out⟩
        case measure => simp [intOf]; omega
      · have HB := HE.out
        rw [hbit, if_pos rfl] at HB
        rw [hbit]
        have HBL := Lib.hid HB
        clear HB hbit
        have z0 := blkc HL2.out 0 _ rfl
        have z1 := blkc HL2.out 1 _ rfl
        have z2 := blkc HH2.out.blk 0 _ rfl
        have hlen : m < (settleGo bit 0 (s.pend.take k) s.blocks).length := by rw [settleGo_len]; exact hml
        have z3 := own_str HH2.out.blocks m hlen
        have z4 := own_sthaw HH2.out.blocks m
        generalize (settleGo bit 0 (s.pend.take k) s.blocks)[m] = old at *
        go_wp2
        go_region
        clear z0 z1 z2 z3 z4
        have hkp3 : Kit.Keeps (fun j => j = gb) w2 (w2.setCell ⟨gb, m, none⟩ (.string tx)).drew := ((Kit.Keeps.refl (fun j => j = gb) w2).setCell (p := ⟨gb, m, none⟩) (Or.inl rfl) _).drew
        have HB3 := Lib.hid (Kit.blk_keeps HH2.out.blk hkp3 (fun e => (H.out.d2 gb rfl).1 e.symm))
        have HL3 := Lib.hid (Kit.blk_keeps HL2.out hkp3 (by omega))
        have HO3 : Hid (Kit.Own 9 1 strEnc (w2.setCell ⟨gb, m, none⟩ (.string tx)).drew 0 (.slice (some ⟨gb, 0, none⟩) s.blocks.length capb) (settleGo bit 0 (s.pend.take (k + 1)) s.blocks)) := by
          unfold Hid; rw [HBL.out]; exact own_sstore HH2.out.blocks m tx
        have HP3 := Lib.hid (HH2.out.pend.keeps hkp3 (fun j hj e => (H.out.d3 j hj).2.2 (by rw [e]; rfl)))
        have HM3 := Lib.hid (HH2.out.map.keeps hkp3 (fun e => (H.out.d2 gb rfl).2 e.symm))
        have HK3 := Lib.hid ((HH2.out.keep.setCell (p := ⟨gb, m, none⟩) (Or.inl (Ow.b rfl)) (.string tx)).drew)
        clear hkp3 HH2 HL2 HBL HE
        generalize (w2.setCell ⟨gb, m, none⟩ (.string tx)).drew = w3 at *
        have z0 := blkc HL3.out 0 _ rfl
        have z2 := blkc HB3.out 2 _ rfl
        go_wp2
        obtain ⟨D, hD1, hD2⟩ := HM3.out
        have HD1 := Lib.hid hD1; have HD2 := Lib.hid hD2
        clear hD1 hD2
        go_still_tail 6, (by kernel_rfl)
        change wpList _ _ _ _ _ (w3.drew)
        refine wpList_delete_own _ rfl _ _ 57 3 rfl 9 (Maps.int_keyed Try.underlying3) Try.underlying57 _ gm n D rfl HD1.out.drew _ (.int .i64 (m : Int)) rfl (Maps.keyOf_int_mk Try.underlying3 (wf_nat m (by omega))) ?_
        intro w4 hown4 hturn4
        have HN := Lib.hid (Half.next (wr := w3.drew) (bit := bit) H.out hlt HB3.out HO3.out HP3.out HK3.out.drew hturn4 (by rw [HM.out]; exact MapIs.del HD2.out m hown4))
        clear hown4 hturn4
        go_wp2
        go_roundw
        case rel => exact ⟨k + 1, by omega, by go_num, HN.out⟩
        case measure => simp [intOf]; omega
    · obtain rfl : k = s.pend.length := by omega
      have z1 := blkc HH.out.blk 1 _ rfl
      have zf := blkf HH.out.blk 1
      go_wp2
      go_end0
      clear z1 zf
      have hkp : Kit.Keeps (fun j => j = d) wr (wr.setCell ⟨d, 1, none⟩ (.slice none 0 0)) := (Kit.Keeps.refl (fun j => j = d) wr).setCell (p := ⟨d, 1, none⟩) (Or.inl rfl) _
      have hb0 := HH.out.blocks
      have hm0 := HH.out.map
      rw [List.take_length] at hb0
      refine ⟨rfl, ⟨?_, hb0.keeps hkp (fun j hj => (H.out.d2 j hj).1), Kit.Own.nil _ _, ?_, HF.out.settle bit, Nat.zero_le _, H.out.d1, H.out.d2, fun j hj => by simp [Value.ownBlock] at hj⟩, HH.out.keep.setCell (Or.inl Ow.d) _⟩
      · exact blk_set HH.out.blk 1 _
      · exact (hm0.keeps hkp (fun e => H.out.d1 e.symm)).congr (fun x _ => gone_all s.pend x)

set_option maxRecDepth 100000 in
set_option maxHeartbeats 4000000 in
theorem settle_mask {w : World} {d : Nat} {bv pv : Value} {gm n : Nat} {s : DS} (h : DAt w d bv pv gm n s) (hn : n ≤ 1000000) (mk : Int) (hmk : 0 ≤ mk ∧ mk < 18446744073709551616) (gx : Nat) (hgx : w.heap[gx]? = some (.cells #[.int .u64 mk] 28 (0, 0))) (hgo : ¬ Ow d bv pv gm gx) (bit : Nat → Bool) (hbt : bit = bitOf mk) :
    Calls Try.prog 35 #[.pointer (some ⟨d, 0, none⟩), .func (.func 41) #[] #[.pointer (some ⟨gx, 0, none⟩)]] w fun e w' => e = .returned (.tuple #[]) ∧ DAt w' d bv (.slice none 0 0) gm n (s.settle bit) ∧ Kit.Keeps (Ow d bv pv gm) w w' := by
  have H := Lib.hid h
  have HMK := Lib.hid hmk; have HGX := Lib.hid hgx; have HGO := Lib.hid hgo
  clear hmk hgx
  have hx := h.blk
  have hfine := h.fine
  have hcnt := h.cnt
  have hst : Half w d bv pv gm n s bit 0 w := ⟨h.blk, h.blocks, h.pend, h.map.congr (fun x _ => (gone_zero s.pend x).symm), Kit.Keeps.refl _ _⟩
  have HST := Lib.hid hst
  obtain ⟨gb, capb, rfl⟩ := h.bform
  obtain ⟨ap, capp, rfl⟩ := h.pform
  have HF := Lib.hid hfine
  have c1 := blkc hx 1 _ rfl
  clear h hx hfine hst hgo
  go_enter Try.func35, Try.ntmps35
  go_wp2
  clear c1
  go_loopw [11] (fun i wr => ∃ k : Nat, k ≤ s.pend.length ∧ i = .int .i64 k ∧ Half w d (.slice (some ⟨gb, 0, none⟩) s.blocks.length capb) (.slice ap s.pend.length capp) gm n s bit k wr) (fun i _ => s.pend.length - (intOf i).toNat)
  case atStart => exact ⟨0, by omega, rfl, HST.out⟩
  case round =>
    obtain ⟨k, hk, rfl, hh⟩ := hrel
    have HH := Lib.hid hh; clear hh HST
    by_cases hlt : k < s.pend.length
    · obtain ⟨gp, rfl, q0, q1⟩ := own_wr HH.out.pend k hlt
      have hgb : gb < wr.heap.size := (World.ownsRow.lt HH.out.blocks gb rfl).2
      obtain ⟨⟨m, hm, hml⟩, hsz⟩ := HF.out.pend s.pend[k] (List.getElem_mem _)
      have HM := Lib.hid hm
      rw [hm] at q0
      have HE := Lib.hid (settle_snoc bit s k hlt)
      rw [hm, Int.toNat_natCast] at HE
      have i1 : (0 : Int) ≤ (k : Int) := by omega
      have i2 : (k : Int) < (s.pend.length : Int) := by omega
      have hml' := HF.out.len
      generalize htx : s.pend[k].2 = tx at *
      have HTX := Lib.hid htx
      clear hm htx
      have hA := newB wr (.cells #[.int .i64 (m : Int), .string tx] 72)
      go_wp2_with fail
      clear q0 q1
      have HH1 := Lib.hid (HH.out.below hA)
      have HL1 := Lib.hid (blk_new wr #[.int .i64 (m : Int), .string tx] 72)
      refine (crash1_is bit mk HMK.out hbt k (by omega) gx _ (blkc (Kit.blk_keeps HGX.out HH1.out.keep HGO.out) 0 _ rfl)).mono ?_
      rintro e w2 ⟨rfl, hb2⟩
      have HH2 := Lib.hid (HH1.out.below hb2)
      have HL2 : Hid (w2.heap[wr.heap.size]? = some (.cells #[.int .i64 (m : Int), .string tx] 72 (0, 0))) := Lib.hid (by rw [hb2.block _ (by simp)]; exact HL1.out)
      clear hA hb2 HH1 HL1 HH
      have j1 : (0 : Int) ≤ (m : Int) := by omega
      have j2 : (m : Int) < (s.blocks.length : Int) := by omega
      rcases (Bool.eq_false_or_eq_true (bit k)).symm with hbit | hbit
      · have HB := HE.out
        rw [hbit] at HB
        rw [if_neg (by simp)] at HB
        rw [hbit]
        have HBL := Lib.hid HB
        clear HB hbit
        have z0 := blkc HL2.out 0 _ rfl
        have z2 := blkc HH2.out.blk 2 _ rfl
        go_wp2
        obtain ⟨D, hD1, hD2⟩ := HH2.out.map
        have HD1 := Lib.hid hD1; have HD2 := Lib.hid hD2
        clear hD1 hD2
        go_still_tail 6, (by kernel_rfl)
        change wpList _ _ _ _ _ (w2.drew)
        refine wpList_delete_own _ rfl _ _ 57 3 rfl 9 (Maps.int_keyed Try.underlying3) Try.underlying57 _ gm n D rfl HD1.out.drew _ (.int .i64 (m : Int)) rfl (Maps.keyOf_int_mk Try.underlying3 (wf_nat m (by omega))) ?_
        intro w4 hown4 hturn4
        have HN := Lib.hid (Half.next (wr := w2.drew) (bit := bit) H.out hlt HH2.out.drew.blk (by rw [HBL.out]; exact HH2.out.drew.blocks) HH2.out.drew.pend HH2.out.drew.keep hturn4 (by rw [HM.out]; exact MapIs.del HD2.out m hown4))
        clear hown4 hturn4
        go_wp2
        go_roundw
        case rel => exact ⟨k + 1, by omega, by go_num, HN.out⟩
        case measure => simp [intOf]; omega
      · have HB := HE.out
        rw [hbit, if_pos rfl] at HB
        rw [hbit]
        have HBL := Lib.hid HB
        clear HB hbit
        have z0 := blkc HL2.out 0 _ rfl
        have z1 := blkc HL2.out 1 _ rfl
        have z2 := blkc HH2.out.blk 0 _ rfl
        have hlen : m < (settleGo bit 0 (s.pend.take k) s.blocks).length := by rw [settleGo_len]; exact hml
        have z3 := own_str HH2.out.blocks m hlen
        have z4 := own_sthaw HH2.out.blocks m
        generalize (settleGo bit 0 (s.pend.take k) s.blocks)[m] = old at *
        go_wp2
        go_region
        clear z0 z1 z2 z3 z4
        have hkp3 : Kit.Keeps (fun j => j = gb) w2 (w2.setCell ⟨gb, m, none⟩ (.string tx)).drew := ((Kit.Keeps.refl (fun j => j = gb) w2).setCell (p := ⟨gb, m, none⟩) (Or.inl rfl) _).drew
        have HB3 := Lib.hid (Kit.blk_keeps HH2.out.blk hkp3 (fun e => (H.out.d2 gb rfl).1 e.symm))
        have HL3 := Lib.hid (Kit.blk_keeps HL2.out hkp3 (by omega))
        have HO3 : Hid (Kit.Own 9 1 strEnc (w2.setCell ⟨gb, m, none⟩ (.string tx)).drew 0 (.slice (some ⟨gb, 0, none⟩) s.blocks.length capb) (settleGo bit 0 (s.pend.take (k + 1)) s.blocks)) := by
          unfold Hid; rw [HBL.out]; exact own_sstore HH2.out.blocks m tx
        have HP3 := Lib.hid (HH2.out.pend.keeps hkp3 (fun j hj e => (H.out.d3 j hj).2.2 (by rw [e]; rfl)))
        have HM3 := Lib.hid (HH2.out.map.keeps hkp3 (fun e => (H.out.d2 gb rfl).2 e.symm))
        have HK3 := Lib.hid ((HH2.out.keep.setCell (p := ⟨gb, m, none⟩) (Or.inl (Ow.b rfl)) (.string tx)).drew)
        clear hkp3 HH2 HL2 HBL HE
        generalize (w2.setCell ⟨gb, m, none⟩ (.string tx)).drew = w3 at *
        have z0 := blkc HL3.out 0 _ rfl
        have z2 := blkc HB3.out 2 _ rfl
        go_wp2
        obtain ⟨D, hD1, hD2⟩ := HM3.out
        have HD1 := Lib.hid hD1; have HD2 := Lib.hid hD2
        clear hD1 hD2
        go_still_tail 6, (by kernel_rfl)
        change wpList _ _ _ _ _ (w3.drew)
        refine wpList_delete_own _ rfl _ _ 57 3 rfl 9 (Maps.int_keyed Try.underlying3) Try.underlying57 _ gm n D rfl HD1.out.drew _ (.int .i64 (m : Int)) rfl (Maps.keyOf_int_mk Try.underlying3 (wf_nat m (by omega))) ?_
        intro w4 hown4 hturn4
        have HN := Lib.hid (Half.next (wr := w3.drew) (bit := bit) H.out hlt HB3.out HO3.out HP3.out HK3.out.drew hturn4 (by rw [HM.out]; exact MapIs.del HD2.out m hown4))
        clear hown4 hturn4
        go_wp2
        go_roundw
        case rel => exact ⟨k + 1, by omega, by go_num, HN.out⟩
        case measure => simp [intOf]; omega
    · obtain rfl : k = s.pend.length := by omega
      have z1 := blkc HH.out.blk 1 _ rfl
      have zf := blkf HH.out.blk 1
      go_wp2
      go_end0
      clear z1 zf
      have hkp : Kit.Keeps (fun j => j = d) wr (wr.setCell ⟨d, 1, none⟩ (.slice none 0 0)) := (Kit.Keeps.refl (fun j => j = d) wr).setCell (p := ⟨d, 1, none⟩) (Or.inl rfl) _
      have hb0 := HH.out.blocks
      have hm0 := HH.out.map
      rw [List.take_length] at hb0
      refine ⟨rfl, ⟨?_, hb0.keeps hkp (fun j hj => (H.out.d2 j hj).1), Kit.Own.nil _ _, ?_, HF.out.settle bit, Nat.zero_le _, H.out.d1, H.out.d2, fun j hj => by simp [Value.ownBlock] at hj⟩, HH.out.keep.setCell (Or.inl Ow.d) _⟩
      · exact blk_set HH.out.blk 1 _
      · exact (hm0.keeps hkp (fun e => H.out.d1 e.symm)).congr (fun x _ => gone_all s.pend x)

end Go.Proofs.Ytgcbfpimfmkbmaa.Dk
