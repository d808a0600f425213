/- The law DiskCalls. -/
import Derived.Test.YtgcbfpimfmkbmaaDiskOps2
import Derived.Deep.RegionHeld3
import Derived.Deep.DeepCutAuto
import Derived.DataShut
import Derived.BigQuiet
import Derived.Deep.QuietTactic
namespace Go.Proofs.Ytgcbfpimfmkbmaa.Dk
set_option linter.unusedVariables false
set_option linter.unusedSimpArgs false
open Go.RowKit Go.ChangeMaps

section
variable {H : Type} {de : TypeId × Value → H} {w : World}
theorem el_op (n : Nat) (cs : List Value) (z : DataW H × List MemPlace) (h : DataW.trod de Try.prog w 0 (fun _ => true) true n 42 cs = some z) : ∃ x : OpD, cs = opEnc x ∧ OkOp x := by
  obtain ⟨hl, m, hf⟩ := Kit.open_fields Try.underlying42 (by kernel_rfl) (fun i f hi => by
    match i, hi with
    | 0, hi => simp at hi; subst hi; exact ⟨rfl, by kernel_rfl⟩
    | 1, hi => simp at hi; subst hi; exact ⟨rfl, by kernel_rfl⟩
    | 2, hi => simp at hi; subst hi; exact ⟨rfl, by kernel_rfl⟩
    | 3, hi => simp at hi; subst hi; exact ⟨rfl, by kernel_rfl⟩
    | n + 4, hi => simp at hi) h
  match cs, hl with
  | [a, b, c, d], _ =>
    obtain ⟨z0, h0⟩ := hf 0 _ a rfl rfl
    obtain ⟨z1, h1⟩ := hf 1 _ b rfl rfl
    obtain ⟨z2, h2⟩ := hf 2 _ c rfl rfl
    obtain ⟨z3, h3⟩ := hf 3 _ d rfl rfl
    obtain ⟨x, ex, _, _⟩ := DataW.trod_int Try.underlying3 h0
    obtain ⟨y, ey, _, _⟩ := DataW.trod_int Try.underlying3 h1
    obtain ⟨s, es, _, hs⟩ := DataW.trod_string Try.underlying9 h2
    obtain ⟨u, eu, _, hu⟩ := DataW.trod_int Try.underlying28 h3
    simp at ex ey es eu
    have := (Lit.wf_int_iff _ _).1 hu
    exact ⟨(x, y, s, u), by rw [ex, ey, es, eu]; rfl, hs, this.1, by have := this.2; simp [IntKind.max, IntKind.bits, IntKind.signed] at this; dsimp only; omega⟩
theorem open_ops {base : Nat} {v : Value} {d : DataW H} {ps : List MemPlace} (ok : Value.okWide Try.prog w .any base 38 v) (h : DataW.Trod de Try.prog w 0 (fun _ => true) true 38 v d ps) :
    ∃ l : List OpD, Kit.Sl 4 opEnc w w.heap.size v l ∧ (∀ o ∈ l, OkOp o) ∧ l.length ≤ maxLen := by
  obtain ⟨a, n, c, rfl⟩ := WideShapes.okWide_slice Try.underlying38 ok
  obtain ⟨fuel, hf⟩ := h
  exact Kit.open_sl (size := 4) (enc := opEnc) Try.underlying38 (by kernel_rfl) (by decide) _ (el_op (w := w)) hf
end

theorem ses_blocks_is {B : Nat} {X : Nat → Prop} {w : World} {d n : Nat} {s : DS} (h : Ses B X w d n s) {m : Nat} (hm : s.blocks.length = m) : Calls Try.prog 13 #[.pointer (some ⟨d, 0, none⟩)] w fun e w' => e = .returned (.int .i64 m) ∧ w = w' := by
  rw [← hm]; exact ses_blocks h
theorem quiet_is {P : Program} {f : FuncId} {args : Array Value} {w : World} {n : Nat} {v : Value} (h : Calls P f args (w.drewN n) fun e w' => e = .returned v ∧ w.drewN n = w') : Calls P f args (w.drewN n) fun e w'' => e = .returned v ∧ ∃ m, w'' = w.drewN m :=
  h.mono fun _ _ ⟨he, hm⟩ => ⟨he, n, hm.symm⟩
/-- the reference's blocks -/
def XR (g : Nat) (bv pv : Value) (k : Nat) : Prop := k = g ∨ bv.ownBlock = some k ∨ pv.ownBlock = some k
theorem Ses.keeps {S B' : Nat → Prop} {B : Nat} {X : Nat → Prop} {w w' : World} {d n : Nat} {s : DS} (h : Ses B X w d n s) (hk : Kit.Keeps S w w') (hs : ∀ k, S k → X k) : Ses B X w' d n s := by
  obtain ⟨⟨bv, pv, gm, h1, h2⟩, h3, h4⟩ := h
  exact ⟨⟨bv, pv, gm, h1.keeps hk (fun k hk hc => (h2 k hk).2 (hs k hc)), h2⟩, fun k hk' => Nat.lt_of_lt_of_le (h3 k hk') hk.size, Nat.le_trans h4 hk.size⟩
theorem RIn.fr {B : Nat} {X : Nat → Prop} {w w' : World} {bv pv : Value} {s : DS} (h : RIn w bv pv s) (hk : Kit.Keeps (Fr B X) w w') (h1 : ∀ k, bv.ownBlock = some k → X k) (h2 : ∀ k, pv.ownBlock = some k → X k) : RIn w' bv pv s :=
  h.keeps hk (fun k e hc => hc.2 (h1 k e)) (fun k e hc => hc.2 (h2 k e))
theorem doOp_len (s : DS) (o : OpD) : (doOp s o).1.blocks.length = s.blocks.length ∧ (doOp s o).1.pend.length ≤ s.pend.length + 1 := by
  have hst := step_blocks s
  have hsp := step_pend s
  unfold doOp
  split
  · unfold DS.write
    split
    · simp
    · split
      · split
        · simp
        · split
          · simp; omega
          · exact ⟨hst, by dsimp only; omega⟩
      · simp
  · split
    · unfold DS.flush
      split
      · simp
      · split
        · simp [DS.settle, settleGo_len]; omega
        · exact ⟨hst, by dsimp only; omega⟩
    · split
      · unfold DS.arm
        split
        · simp
        · split <;> simp
      · split
        · unfold DS.hit
          split
          · simp
          · simp [DS.crash, DS.settle, settleGo_len]
        · unfold DS.recover
          split <;> simp

theorem cut_two {wr wk : World} {bv pv bv' pv' : Value} {s s3 : DS} (hri : RIn wr bv pv s) (hrk : RIn wk bv' pv' s3) (hfk : From (wr.alloc (.cells #[.slice none 0 0, .slice none 0 0, .bool false, .bool false, .int .i64 0, .int .u64 0] 30)) bv pv bv' pv') (hbk : Below (wr.alloc (.cells #[.slice none 0 0, .slice none 0 0, .bool false, .bool false, .int .i64 0, .int .u64 0] 30)).heap.size (wr.alloc (.cells #[.slice none 0 0, .slice none 0 0, .bool false, .bool false, .int .i64 0, .int .u64 0] 30)) wk) (c d e f : Value) :
    (put6 wk wr.heap.size bv' pv' c d e f).heap[wr.heap.size]? = some (.cells #[bv', pv', c, d, e, f] 30 (0, 0)) ∧ RIn (put6 wk wr.heap.size bv' pv' c d e f) bv' pv' s3 ∧ From wr bv pv bv' pv' ∧ Below wr.heap.size wr (put6 wk wr.heap.size bv' pv' c d e f) := by
  have hb : Below wr.heap.size wr wk := (newB wr _).trans (hbk.mono (by simp))
  have hz : (wr.alloc (.cells #[.slice none 0 0, .slice none 0 0, .bool false, .bool false, .int .i64 0, .int .u64 0] 30)).heap.size = wr.heap.size + 1 := by simp
  obtain ⟨a1, a2⟩ := hfk.apart hri.lb hri.lp
  rw [hz] at a1 a2
  refine ⟨put6_blk (show wk.heap[wr.heap.size]? = some (.cells #[.slice none 0 0, .slice none 0 0, .bool false, .bool false, .int .i64 0, .int .u64 0] 30 (0, 0)) from by rw [hbk.block _ (by simp)]; exact blk_new _ _ _) _ _ _ _ _ _, hrk.keeps (put6_keeps _ _ _ _ _ _ _ _) (fun k hk e => by have := a1 k hk; omega) (fun k hk e => by have := a2 k hk; omega), ⟨fun k hk => ?_, fun k hk => ?_⟩, put6_below hb (Nat.le_refl _) _ _ _ _ _ _⟩
  · rcases hfk.1 k hk with h | h | h
    · exact Or.inl h
    · exact Or.inr (Or.inl h)
    · exact Or.inr (Or.inr (by omega))
  · rcases hfk.2 k hk with h | h | h
    · exact Or.inl h
    · exact Or.inr (Or.inl h)
    · exact Or.inr (Or.inr (by omega))
/-- The blocks of both of the reference's variables. -/
def X2 (gr g : Nat) (a b c d : Value) (k : Nat) : Prop := XR gr a b k ∨ XR g c d k
theorem guard2 {B : Nat} {wr wc : World} {d n : Nat} {s s0 s3 : DS} {gr g : Nat} {a b c e : Value} (h : Ses B (XR gr a b) wr d n s0) (hb : Below wr.heap.size wr wc) (hri : RIn wr a b s) (hrc : RIn wc c e s3) (hf : From wr a b c e) (hg : wr.heap.size ≤ g) (hgl : g < wc.heap.size) (hgr : gr < wr.heap.size) : Ses B (X2 gr g a b c e) wc d n s0 := by
  have hz := hb.size
  refine h.guard hb (fun k hk => ?_) (fun k hk => ?_)
  · rcases hk with hk | hk | hk | hk
    · exact Or.inl hk
    · right; omega
    · rcases hf.1 k hk with e | e | e
      · exact Or.inl (Or.inr (Or.inl e))
      · exact Or.inl (Or.inr (Or.inr e))
      · exact Or.inr e
    · rcases hf.2 k hk with e | e | e
      · exact Or.inl (Or.inr (Or.inl e))
      · exact Or.inl (Or.inr (Or.inr e))
      · exact Or.inr e
  · rcases hk with (hk | hk | hk) | hk | hk | hk
    · omega
    · have := hri.lb k hk; omega
    · have := hri.lp k hk; omega
    · omega
    · exact hrc.lb k hk
    · exact hrc.lp k hk
theorem keepBlk {W w1 : World} (hb : Below W.heap.size W w1) {g : Nat} {o : Obj} (h : W.heap[g]? = some o) : w1.heap[g]? = some o := by
  rw [hb.block g (Array.getElem?_eq_some_iff.1 h).1]; exact h
set_option maxRecDepth 100000 in
set_option maxHeartbeats 4000000 in
theorem diskCalls_walk {H : Type} {de : TypeId × Value → H} {base : Nat} (w : World) (b : Int) (hb : (Lit.int .i64 b).wf = true) (v : Value) (d0 : DataW H) (ps : List MemPlace) (ok : Value.okWide Try.prog w .any base 38 v) (h : DataW.Trod de Try.prog w 0 (fun _ => true) true 38 v d0 ps) :
    Calls Try.prog 4 #[.int .i64 b, v] w fun e w' => e = .returned (.bool true) ∧ Below w.heap.size w w' := by
  obtain ⟨l, hl, hok, hln⟩ := open_ops ok h
  clear ok h hb
  have HL := Lib.hid hl; have HOK := Lib.hid hok; have HLN := Lib.hid hln
  unfold maxLen at hln
  obtain ⟨ad, cap, rfl, hcap, _⟩ := hl
  clear hok
  rcases (Bool.eq_false_or_eq_true (shortOf l)).symm with hsh | hsh
  · have HSH := Lib.hid hsh; clear hsh
    go_enter Try.func4, Try.ntmps4
    go_wp2_with fail
    refine (short_any _ l _ _ HL.out HLN.out HOK.out).mono ?_
    rintro e w1 ⟨rfl, rfl⟩
    rw [HSH.out]
    go_wp2_with fail
    refine (awake_any _).mono ?_
    rintro e w2 ⟨rfl, hb2⟩
    go_wp2
    go_ret
    exact ⟨rfl, hb2⟩
  have hl80 : l.length ≤ 80 := by unfold shortOf at hsh; simp at hsh; exact hsh.1
  have HSH := Lib.hid hsh; clear hsh
  by_cases hb1 : b < 1
  · have q1 : decide (b < 1) = true := by simpa using hb1
    go_enter Try.func4, Try.ntmps4
    go_wp2_with fail
    refine (short_any _ l _ _ HL.out HLN.out HOK.out).mono ?_
    rintro e w1 ⟨rfl, rfl⟩
    rw [HSH.out]
    go_wp2_with fail
    refine (awake_any _).mono ?_
    rintro e w2 ⟨rfl, hb2⟩
    go_wp2
    go_ret
    exact ⟨rfl, hb2⟩
  have q1 : decide (b < 1) = false := by simpa using hb1
  by_cases hb8 : 8 < b
  · have q2 : decide (8 < b) = true := by simpa using hb8
    go_enter Try.func4, Try.ntmps4
    go_wp2_with fail
    refine (short_any _ l _ _ HL.out HLN.out HOK.out).mono ?_
    rintro e w1 ⟨rfl, rfl⟩
    rw [HSH.out]
    go_wp2_with fail
    refine (awake_any _).mono ?_
    rintro e w2 ⟨rfl, hb2⟩
    go_wp2
    go_ret
    exact ⟨rfl, hb2⟩
  have q2 : decide (8 < b) = false := by simpa using hb8
  obtain ⟨m, rfl⟩ : ∃ m : Nat, b = (m : Int) := ⟨b.toNat, by omega⟩
  have hm1 : 1 ≤ m := by omega
  have hm2 : m ≤ 8 := by omega
  go_enter Try.func4, Try.ntmps4
  go_wp2_with fail
  refine (short_any _ l _ _ HL.out HLN.out HOK.out).mono ?_
  rintro e w1 ⟨rfl, rfl⟩
  rw [HSH.out]
  go_wp2_with fail
  refine (ses_new m hm1 (by omega) _).mono ?_
  rintro e w1 ⟨d, rfl, hs, hbw1⟩
  have HS := Lib.hid hs; have HB1 := Lib.hid hbw1
  clear hs hbw1
  go_wp2_with fail
  refine (rnew_any m _).mono ?_
  rintro e w2 (⟨m', bv, e1, h1, h2, rfl, hri, hfr, hb2⟩ | ⟨h, _⟩)
  rotate_left
  · exact absurd h (by omega)
  obtain rfl : m' = m := by omega
  clear e1 h1 h2
  obtain ⟨xb, xo, xc, rfl, _⟩ := hri.bform
  have HNL : Hid ((DS.new m').blocks.length = m') := Lib.hid (by simp [DS.new])
  rw [HNL.out] at hri hfr ⊢
  have hb3 := newB w2 (.cells #[.slice (some ⟨xb, xo, none⟩) m' xc, .slice none 0 0, .bool false, .bool false, .int .i64 0, .int .u64 0] 30)
  have HG := Lib.hid (blk_new w2 #[.slice (some ⟨xb, xo, none⟩) m' xc, .slice none 0 0, .bool false, .bool false, .int .i64 0, .int .u64 0] 30)
  have HI3 := Lib.hid (hri.below hb3)
  have HB3 := Lib.hid (chainB (chainB HB1.out hb2) hb3)
  have HS3 : Hid (Ses w.heap.size (XR w2.heap.size (.slice (some ⟨xb, xo, none⟩) m' xc) (.slice none 0 0)) _ d 0 (DS.new m')) := Lib.hid ((HS.out.guard (X' := XR w2.heap.size (.slice (some ⟨xb, xo, none⟩) m' xc) (.slice none 0 0)) (chainB hb2 hb3) (fun k hk => by
    rcases hk with hk | hk | hk
    · right; have := hb2.size; omega
    · right; exact hfr k hk
    · simp [Value.ownBlock] at hk) (fun k hk => by
    rcases hk with hk | hk | hk
    · subst hk; simp
    · have := hri.lb k hk; simp; omega
    · simp [Value.ownBlock] at hk)))
  have HNE : Hid (∀ j, (Value.slice (some ⟨xb, xo, none⟩) m' xc).ownBlock = some j → j ≠ w2.heap.size) := Lib.hid (fun j hj => by have := hri.lb j hj; omega)
  have hsz0 : w.heap.size ≤ w2.heap.size := Nat.le_trans HB1.out.size hb2.size
  clear hri hfr hb2 hb3 HS HB1
  go_wp2
  generalize hgr : w2.heap.size = gr at *
  clear hgr
  generalize w2.alloc (.cells #[.slice (some ⟨xb, xo, none⟩) m' xc, .slice none 0 0, .bool false, .bool false, .int .i64 0, .int .u64 0] 30) = w3 at *
  go_loopw [9] (fun i wr => ∃ (k : Nat) (s : DS) (bv pv : Value), k ≤ l.length ∧ i = .int .i64 k ∧ RIn wr bv pv s ∧ wr.heap[gr]? = some (.cells #[bv, pv, .bool s.down, .bool s.armed, .int .i64 s.steps, .int .u64 s.mask] 30 (0, 0)) ∧ Ses w.heap.size (XR gr bv pv) wr d k s ∧ (∀ j, bv.ownBlock = some j → j ≠ gr) ∧ (∀ j, pv.ownBlock = some j → j ≠ gr) ∧ s.pend.length ≤ k ∧ s.blocks.length = m' ∧ Below w.heap.size w wr) (fun i _ => l.length - (intOf i).toNat)
  case atStart => exact ⟨0, DS.new m', _, _, by omega, rfl, HI3.out, HG.out, HS3.out, fun j hj => HNE.out j hj, fun j hj => by simp [Value.ownBlock] at hj, by simp [DS.new], HNL.out, HB3.out⟩
  case round =>
    clear HI3 HG HS3 HB3
    obtain ⟨k, s, bv, pv, hk, rfl, hri, hg, hs, hne1, hne2, hpl, hbl, hbr⟩ := hrel
    have HN1 := Lib.hid hne1; have HN2 := Lib.hid hne2
    clear hne1 hne2
    obtain ⟨ya, yn, yc, ya', yn', yc', rfl, rfl⟩ := hri.sh
    obtain ⟨bk, pn, dn, ar, st, mk⟩ := s
    dsimp only at hpl hbl hg
    have HRI := Lib.hid hri; have HGR := Lib.hid hg; have HSS := Lib.hid hs; have HBL := Lib.hid hbl
    clear hri hg hs hbl
    by_cases hlt : k < l.length
    · obtain ⟨bl0, ol0, cap', hv, hbl0, c0, c1, c2, c3⟩ := sl_op (HL.out.below hbr (Nat.le_refl _)) k hlt
      obtain rfl : ad = some ⟨bl0, ol0, none⟩ := (Value.slice.inj hv).1
      have HOO := Lib.hid (HOK.out l[k] (List.getElem_mem _))
      generalize l[k] = o at *
      obtain ⟨o1, o2, o3, o4⟩ := o
      dsimp only at c0 c1 c2 c3
      have i1 : (0 : Int) ≤ (k : Int) := by omega
      have i2 : (k : Int) < (l.length : Int) := by omega
      have lgr : gr < wr.heap.size := (Array.getElem?_eq_some_iff.1 HGR.out).1
      have lop : bl0 < wr.heap.size := Nat.lt_of_lt_of_le hbl0 hbr.size
      have HC0 := Lib.hid c0; have HC1 := Lib.hid c1; have HC2 := Lib.hid c2; have HC3 := Lib.hid c3
      have HMK : Hid (∀ w', Below wr.heap.size wr w' → w'.cell? ⟨gr, 0, none⟩ = some (.slice ya yn yc) ∧ w'.cell? ⟨gr, 1, none⟩ = some (.slice ya' yn' yc') ∧ w'.cell? ⟨gr, 2, none⟩ = some (.bool dn) ∧ w'.cell? ⟨gr, 3, none⟩ = some (.bool ar) ∧ w'.cell? ⟨gr, 4, none⟩ = some (.int .i64 st) ∧ w'.cell? ⟨gr, 5, none⟩ = some (.int .u64 mk) ∧ w'.cell? ⟨bl0, ol0 + k * 4, none⟩ = some (.int .i64 o1) ∧ w'.cell? ⟨bl0, ol0 + k * 4 + 1, none⟩ = some (.int .i64 o2) ∧ w'.cell? ⟨bl0, ol0 + k * 4 + 2, none⟩ = some (.string o3) ∧ w'.cell? ⟨bl0, ol0 + k * 4 + 3, none⟩ = some (.int .u64 o4) ∧ Below wr.heap.size wr w') := Lib.hid fun w' hb => ⟨(hb.cell (p := ⟨gr, 0, none⟩) lgr).trans (blkc HGR.out 0 _ rfl), (hb.cell (p := ⟨gr, 1, none⟩) lgr).trans (blkc HGR.out 1 _ rfl), (hb.cell (p := ⟨gr, 2, none⟩) lgr).trans (blkc HGR.out 2 _ rfl), (hb.cell (p := ⟨gr, 3, none⟩) lgr).trans (blkc HGR.out 3 _ rfl), (hb.cell (p := ⟨gr, 4, none⟩) lgr).trans (blkc HGR.out 4 _ rfl), (hb.cell (p := ⟨gr, 5, none⟩) lgr).trans (blkc HGR.out 5 _ rfl), (hb.cell (p := ⟨bl0, ol0 + k * 4, none⟩) lop).trans HC0.out, (hb.cell (p := ⟨bl0, ol0 + k * 4 + 1, none⟩) lop).trans HC1.out, (hb.cell (p := ⟨bl0, ol0 + k * 4 + 2, none⟩) lop).trans HC2.out, (hb.cell (p := ⟨bl0, ol0 + k * 4 + 3, none⟩) lop).trans HC3.out, hb⟩
      have HD0 : Hid (Below wr.heap.size wr wr.drew) := Lib.hid ((Below.refl _ _).drew)
      have hpn : pn.length < 1000000 := by omega
      have hdl := doOp_len (⟨bk, pn, dn, ar, st, mk⟩ : DS) (o1, o2, o3, o4)
      generalize hdo : doOp (⟨bk, pn, dn, ar, st, mk⟩ : DS) (o1, o2, o3, o4) = r3 at *
      have HDO := Lib.hid hdo
      obtain ⟨⟨bk3, pn3, dn3, ar3, st3, mk3⟩, rr⟩ := r3
      dsimp only at hdl
      have HDL := Lib.hid hdl
      clear hdo hdl
      have HAL : Hid (∀ wz, RIn wz (.slice ya yn yc) (.slice ya' yn' yc') (⟨bk, pn, dn, ar, st, mk⟩ : DS) → Calls Try.prog 17 #[.agg #[.slice ya yn yc, .slice ya' yn' yc', .bool dn, .bool ar, .int .i64 st, .int .u64 mk], .agg #[.int .i64 o1, .int .i64 o2, .string o3, .int .u64 o4]] wz fun e w'' => ∃ bv' pv', e = .returned (.tuple #[.agg #[bv', pv', .bool dn3, .bool ar3, .int .i64 st3, .int .u64 mk3], .int .i64 rr]) ∧ RIn w'' bv' pv' ⟨bk3, pn3, dn3, ar3, st3, mk3⟩ ∧ From wz (.slice ya yn yc) (.slice ya' yn' yc') bv' pv' ∧ Below wz.heap.size wz w'') := Lib.hid fun wz h => by
        have := also_any _ _ (⟨bk, pn, dn, ar, st, mk⟩ : DS) o1 o2 o3 o4 HOO.out wz h hpn
        rw [HDO.out] at this; exact this
      clear hv c0 c1 c2 c3
      go_upto_region 10 with fail
      go_cut [10, 11] (fun s10 s11 wx => ∃ (g : Nat) (bv' pv' : Value), s10 = .pointer (some ⟨g, 0, none⟩) ∧ s11 = .int .i64 rr ∧ wx.heap[g]? = some (.cells #[bv', pv', .bool dn3, .bool ar3, .int .i64 st3, .int .u64 mk3] 30 (0, 0)) ∧ RIn wx bv' pv' ⟨bk3, pn3, dn3, ar3, st3, mk3⟩ ∧ From wr (.slice ya yn yc) (.slice ya' yn' yc') bv' pv' ∧ Below wr.heap.size wr wx ∧ wr.heap.size ≤ g)
      case first =>
        go_region_held3 (fun w' => w'.cell? ⟨gr, 0, none⟩ = some (.slice ya yn yc) ∧ w'.cell? ⟨gr, 1, none⟩ = some (.slice ya' yn' yc') ∧ w'.cell? ⟨gr, 2, none⟩ = some (.bool dn) ∧ w'.cell? ⟨gr, 3, none⟩ = some (.bool ar) ∧ w'.cell? ⟨gr, 4, none⟩ = some (.int .i64 st) ∧ w'.cell? ⟨gr, 5, none⟩ = some (.int .u64 mk) ∧ w'.cell? ⟨bl0, ol0 + k * 4, none⟩ = some (.int .i64 o1) ∧ w'.cell? ⟨bl0, ol0 + k * 4 + 1, none⟩ = some (.int .i64 o2) ∧ w'.cell? ⟨bl0, ol0 + k * 4 + 2, none⟩ = some (.string o3) ∧ w'.cell? ⟨bl0, ol0 + k * 4 + 3, none⟩ = some (.int .u64 o4) ∧ Below wr.heap.size wr w') ((refine HMK.out _ ?_; first | exact Below.setCell (Below.setCell (Below.setCell (Below.setCell (Below.setCell (Below.setCell (chainB (chainB HD0.out (newB _ _)) hbk) (Nat.le_refl _) _) (Nat.le_refl _) _) (Nat.le_refl _) _) (Nat.le_refl _) _) (Nat.le_refl _) _) (Nat.le_refl _) _ | exact HD0.out | exact chainB HD0.out (newB _ _) | exact chainB HD0.out hbk | exact chainB (chainB HD0.out (newB _ _)) hbk | exact chainB (chainB HD0.out hbk) (newB _ _))) (first | (go_at_call 17; go_split_ands; refine (HAL.out _ (HRI.out.below (by assumption))).mono ?_; rintro e wk ⟨bv', pv', rfl, hrk, hfk, hbk⟩; (obtain ⟨za, zn, zc, za', zn', zc', rfl, rfl⟩ := hrk.sh); (try (have hyb := keepBlk hbk (blk_new wr #[.slice none 0 0, .slice none 0 0, .bool false, .bool false, .int .i64 0, .int .u64 0] 30); have y0 := blkc hyb 0 _ rfl; have f0 := blkf hyb 0; have y1 := blkc hyb 1 _ rfl; have f1 := blkf hyb 1; have y2 := blkc hyb 2 _ rfl; have f2 := blkf hyb 2; have y3 := blkc hyb 3 _ rfl; have f3 := blkf hyb 3; have y4 := blkc hyb 4 _ rfl; have f4 := blkf hyb 4; have y5 := blkc hyb 5 _ rfl; have f5 := blkf hyb 5; clear hyb))))
        all_goals (go_wp2_with fail; go_meet; first | (refine ⟨wk.heap.size, .slice za zn zc, .slice za' zn' zc', rfl, rfl, ?_, ?_, ?_, ?_, ?_⟩; exact blk_new _ _ _; exact hrk.below (newB _ _); exact hfk; exact chainB (chainB HD0.out hbk) (newB _ _); exact hbk.size) | (refine ⟨wr.heap.size, .slice za zn zc, .slice za' zn' zc', rfl, rfl, ?_⟩; have hx := cut_two HRI.out hrk hfk (((Below.refl _ _).drew).trans hbk) (.bool dn3) (.bool ar3) (.int .i64 st3) (.int .u64 mk3); exact ⟨hx.1, hx.2.1, hx.2.2.1, hx.2.2.2, Nat.le_refl _⟩))
      case rest =>
        obtain ⟨g, bv', pv', rfl, rfl, hg, hri2, hfr, hbx, hgl⟩ := hcut
        obtain ⟨za, zn, zc, za', zn', zc', rfl, rfl⟩ := hri2.sh
        have HI2 := Lib.hid hri2; have HGX := Lib.hid hg
        have lg : g < wc.heap.size := (Array.getElem?_eq_some_iff.1 hg).1
        have HS1 := Lib.hid (guard2 HSS.out hbx HRI.out hri2 hfr hgl lg lgr)
        have HGC := Lib.hid (keepBlk hbx HGR.out)
        have HBC := Lib.hid (chainB hbr hbx)
        have HN3 : Hid (∀ j, (Value.slice za zn zc).ownBlock = some j → j ≠ gr) := Lib.hid (fun j hj => by
          rcases hfr.1 j hj with e | e | e
          · exact HN1.out j e
          · exact HN2.out j e
          · omega)
        have HN4 : Hid (∀ j, (Value.slice za' zn' zc').ownBlock = some j → j ≠ gr) := Lib.hid (fun j hj => by
          rcases hfr.2 j hj with e | e | e
          · exact HN1.out j e
          · exact HN2.out j e
          · omega)
        obtain ⟨_, _, _, _, _, _, k0, k1, k2, k3, _⟩ := HMK.out _ hbx
        clear hg hri2 hfr
        go_wp2_with fail
        clear k0 k1 k2 k3
        refine (do_any HS1.out (by omega) o1 o2 o3 o4 HOO.out).mono ?_
        rintro e w4 ⟨rfl, hs4, hk4⟩
        rw [HDO.out] at hs4 ⊢
        dsimp only at hs4 ⊢
        have HS4 := Lib.hid hs4
        have HG4 := Lib.hid (Kit.blk_keeps HGX.out hk4 (fun hc => hc.2 (Or.inr (Or.inl rfl))))
        have HR4 := Lib.hid (Kit.blk_keeps HGC.out hk4 (fun hc => hc.2 (Or.inl (Or.inl rfl))))
        have HI4 := Lib.hid (HI2.out.fr hk4 (fun k e => Or.inr (Or.inr (Or.inl e))) (fun k e => Or.inr (Or.inr (Or.inr e))))
        have HB4 := Lib.hid (HBC.out.trans (fr_below hk4 HBC.out.size))
        clear hs4 hk4 hbx
        have hrr : (rr != rr) = false := by simp
        have hgg : gr ≠ g := by omega
        have z0 := blkc HG4.out 0 _ rfl; have y0 := blkc HR4.out 0 _ rfl; have f0 := blkf HR4.out 0
        have z1 := blkc HG4.out 1 _ rfl; have y1 := blkc HR4.out 1 _ rfl; have f1 := blkf HR4.out 1
        have z2 := blkc HG4.out 2 _ rfl; have y2 := blkc HR4.out 2 _ rfl; have f2 := blkf HR4.out 2
        have z3 := blkc HG4.out 3 _ rfl; have y3 := blkc HR4.out 3 _ rfl; have f3 := blkf HR4.out 3
        have z4 := blkc HG4.out 4 _ rfl; have y4 := blkc HR4.out 4 _ rfl; have f4 := blkf HR4.out 4
        have z5 := blkc HG4.out 5 _ rfl; have y5 := blkc HR4.out 5 _ rfl; have f5 := blkf HR4.out 5
        go_upto_region 14 with fail
        clear z0 z1 z2 z3 z4 z5 y0 y1 y2 y3 y4 y5 f0 f1 f2 f3 f4 f5
        have hk5 := put6_keeps w4 gr (.slice za zn zc) (.slice za' zn' zc') (.bool dn3) (.bool ar3) (.int .i64 st3) (.int .u64 mk3)
        have HG5 := Lib.hid (put6_blk HR4.out (.slice za zn zc) (.slice za' zn' zc') (.bool dn3) (.bool ar3) (.int .i64 st3) (.int .u64 mk3))
        have HI5 := Lib.hid (HI4.out.keeps hk5 (fun j hj => HN3.out j hj) (fun j hj => HN4.out j hj))
        have HB5 := Lib.hid (put6_below HB4.out (g := gr) hsz0 (.slice za zn zc) (.slice za' zn' zc') (.bool dn3) (.bool ar3) (.int .i64 st3) (.int .u64 mk3))
        have HS5 := Lib.hid ((Ses.keeps (B' := fun _ => True) HS4.out hk5 (fun j e => Or.inl (Or.inl e))).free (X' := XR gr (.slice za zn zc) (.slice za' zn' zc')) (fun j e => by
          rcases e with e | e | e
          · exact Or.inl (Or.inl e)
          · exact Or.inr (Or.inr (Or.inl e))
          · exact Or.inr (Or.inr (Or.inr e))))
        change Code.wp _ _ _ _ (put6 w4 gr (.slice za zn zc) (.slice za' zn' zc') (.bool dn3) (.bool ar3) (.int .i64 st3) (.int .u64 mk3))
        clear hk5 HG4 HR4 HI4 HB4 HS4
        generalize put6 w4 gr (.slice za zn zc) (.slice za' zn' zc') (.bool dn3) (.bool ar3) (.int .i64 st3) (.int .u64 mk3) = w5 at *
        have HLB : Hid (bk3.length = m') := Lib.hid (HDL.out.1.trans HBL.out)
        have hpl3 : pn3.length ≤ k + 1 := by have := HDL.out.2; omega
        have HPL3 := Lib.hid HI5.out.plen
        go_wp2
        go_loopw [12] (fun nv wq => ∃ j : Nat, j ≤ m' + 2 ∧ nv = .int .i64 ((j : Int) - 1) ∧ Below w5.heap.size w5 wq) (fun nv _ => m' + 2 - (intOf nv + 1).toNat)
        case atStart => exact ⟨0, by omega, by simp, Below.refl _ _⟩
        case round =>
          obtain ⟨j, hj, rfl, hbq⟩ := hrel
          have HGQ := Lib.hid (keepBlk hbq HG5.out)
          have HSQ := Lib.hid (HS5.out.below hbq)
          have HIQ := Lib.hid (HI5.out.below hbq)
          by_cases hjm : j ≤ m' + 1
          · have q3 : decide ((j : Int) - 1 ≤ (m' : Int)) = true := by simp; omega
            have q3' : (j : Int) - 1 ≤ (m' : Int) := by omega
            go_wp2_with fail
            refine (ses_read HSQ.out ((j : Int) - 1)).mono ?_
            rintro e w6 ⟨rfl, rfl⟩
            have z0 := blkc HGQ.out 0 _ rfl; have z1 := blkc HGQ.out 1 _ rfl; have z2 := blkc HGQ.out 2 _ rfl; have z3 := blkc HGQ.out 3 _ rfl; have z4 := blkc HGQ.out 4 _ rfl; have z5 := blkc HGQ.out 5 _ rfl
            go_wp2_with fail
            refine (rread_any _ _ ⟨bk3, pn3, dn3, ar3, st3, mk3⟩ ((j : Int) - 1) _ HIQ.out).mono ?_
            rintro e w6 ⟨rfl, hb6⟩
            generalize (⟨bk3, pn3, dn3, ar3, st3, mk3⟩ : DS).read ((j : Int) - 1) = rd at *
            obtain ⟨tx, ec⟩ := rd
            dsimp only
            have hec : (ec != ec) = false := by simp
            have htx : (tx.toList == tx.toList) = true := by simp
            clear z0 z1 z2 z3 z4 z5
            go_wp2
            go_roundw
            case rel => exact ⟨j + 1, by omega, congrArg (Value.int .i64) (by omega), chainB hbq hb6⟩
            case measure => simp [intOf]; omega
          · obtain rfl : j = m' + 2 := by omega
            have q3 : decide (((m' + 2 : Nat) : Int) - 1 ≤ (m' : Int)) = false := by simp; omega
            have q3' : ¬ ((m' + 2 : Nat) : Int) - 1 ≤ (m' : Int) := by omega
            have z1 := blkc HGQ.out 1 _ rfl; have z2 := blkc HGQ.out 2 _ rfl
            have hzn : zn' = pn3.length := HPL3.out
            subst hzn
            have hdd : (dn3 != dn3) = false := by simp
            go_wp2
            go_quiet ((first | (go_at_call 15; exact quiet_is (ses_down (HSQ.out.below (drewN_below _ _ _)))) | (go_at_call 14; exact quiet_is (ses_pending (HSQ.out.below (drewN_below _ _ _)))) | (go_at_call 13; exact quiet_is (ses_blocks_is (HSQ.out.below (drewN_below _ _ _)) HLB.out))))
            go_wp2
            go_roundw
            case rel => exact ⟨k + 1, ⟨bk3, pn3, dn3, ar3, st3, mk3⟩, _, _, by omega, by go_num, HIQ.out.below (drewN_below _ _ _), HGQ.out, HSQ.out.below (drewN_below _ _ _), HN3.out, HN4.out, hpl3, HLB.out, HB5.out.trans ((hbq.mono HB5.out.size).trans (drewN_below _ _ _))⟩
            case measure => simp [intOf]; omega
    · obtain rfl : k = l.length := by omega
      go_wp2_with fail
      refine (awake_any _).mono ?_
      rintro e w4 ⟨rfl, hb4⟩
      go_wp2
      go_ret
      exact ⟨rfl, chainB hbr hb4⟩
end Go.Proofs.Ytgcbfpimfmkbmaa.Dk
