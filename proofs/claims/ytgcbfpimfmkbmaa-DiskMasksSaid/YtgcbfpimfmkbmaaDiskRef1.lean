/- The walks of the reference: New, settled, crashed, step. -/
import Derived.Test.YtgcbfpimfmkbmaaDiskAwake
namespace Go.Proofs.Ytgcbfpimfmkbmaa.Dk
set_option linter.unusedVariables false
set_option linter.unusedSimpArgs false
open Go.RowKit Go.ChangeMaps

/-- A disk of the reference: its two lists lie in memory. -/
structure RIn (w : World) (bv pv : Value) (s : DS) : Prop where
  blocks : Kit.Sl 1 strEnc w w.heap.size bv s.blocks
  pend : Kit.Sl 2 wrEnc w w.heap.size pv s.pend
  fine : Fine s
  few : s.pend.length ≤ 1000000
  lb : ∀ k, bv.ownBlock = some k → k < w.heap.size
  lp : ∀ k, pv.ownBlock = some k → k < w.heap.size
theorem RIn.below {w w' : World} {bv pv : Value} {s : DS} (h : RIn w bv pv s) (hb : Below w.heap.size w w') : RIn w' bv pv s :=
  ⟨(h.blocks.below hb (Nat.le_refl _)).mono hb.size, (h.pend.below hb (Nat.le_refl _)).mono hb.size, h.fine, h.few, fun k e => Nat.lt_of_lt_of_le (h.lb k e) hb.size, fun k e => Nat.lt_of_lt_of_le (h.lp k e) hb.size⟩
/-- The lists of the result are old ones or new ones. -/
def From (w : World) (bv pv bv' pv' : Value) : Prop := (∀ k, bv'.ownBlock = some k → bv.ownBlock = some k ∨ pv.ownBlock = some k ∨ w.heap.size ≤ k) ∧ ∀ k, pv'.ownBlock = some k → bv.ownBlock = some k ∨ pv.ownBlock = some k ∨ w.heap.size ≤ k
theorem From.refl (w : World) (bv pv : Value) : From w bv pv bv pv := ⟨fun _ h => Or.inl h, fun _ h => Or.inr (Or.inl h)⟩
theorem From.trans {w w' : World} {b p b' p' b'' p'' : Value} (h : From w b p b' p') (h' : From w' b' p' b'' p'') (hs : w.heap.size ≤ w'.heap.size) : From w b p b'' p'' := by
  refine ⟨fun k hk => ?_, fun k hk => ?_⟩
  · rcases h'.1 k hk with e | e | e
    · exact h.1 k e
    · exact h.2 k e
    · exact Or.inr (Or.inr (by omega))
  · rcases h'.2 k hk with e | e | e
    · exact h.1 k e
    · exact h.2 k e
    · exact Or.inr (Or.inr (by omega))
def RPost (w : World) (bv pv : Value) (s : DS) (r : Value) (e : Ending) (w' : World) : Prop :=
  ∃ bv' pv', e = .returned (.tuple #[.agg #[bv', pv', .bool s.down, .bool s.armed, .int .i64 s.steps, .int .u64 s.mask], r]) ∧ RIn w' bv' pv' s ∧ From w bv pv bv' pv' ∧ Below w.heap.size w w'
def RPost1 (w : World) (bv pv : Value) (s : DS) (e : Ending) (w' : World) : Prop :=
  ∃ bv' pv', e = .returned (.agg #[bv', pv', .bool s.down, .bool s.armed, .int .i64 s.steps, .int .u64 s.mask]) ∧ RIn w' bv' pv' s ∧ From w bv pv bv' pv' ∧ Below w.heap.size w w'
theorem RIn.bform {w : World} {bv pv : Value} {s : DS} (h : RIn w bv pv s) : ∃ b off cap, bv = .slice (some ⟨b, off, none⟩) s.blocks.length cap ∧ b < w.heap.size := by
  obtain ⟨ad, cap, h1, h2, h3⟩ := h.blocks
  rcases h3 with h3 | ⟨b, off, rfl, hb, _⟩
  · have := h.fine.len.1; rw [h3] at this; simp at this
  · exact ⟨b, off, cap, h1, hb⟩
theorem RIn.pform {w : World} {bv pv : Value} {s : DS} (h : RIn w bv pv s) : ∃ a cap, pv = .slice a s.pend.length cap := by
  obtain ⟨ad, cap, h1, _⟩ := h.pend
  exact ⟨ad, cap, h1⟩
theorem sl_str {w : World} {hi b off cap n : Nat} {l : List ByteArray} (h : Kit.Sl 1 strEnc w hi (.slice (some ⟨b, off, none⟩) n cap) l) (k : Nat) (hk : k < l.length) : w.cell? ⟨b, off + k, none⟩ = some (.string l[k]) := by
  obtain ⟨ad, cp, hv, _, h⟩ := h
  rcases h with h | ⟨b', off', rfl, hlt, h⟩
  · subst h; simp at hk
  · have := (Value.slice.inj hv).1
    simp only [Option.some.injEq, Addr.mk.injEq] at this
    obtain ⟨rfl, rfl, _⟩ := this
    have := h k 0 l[k] (by simp [hk]) (by omega)
    simpa [strEnc] using this
theorem sl_wr {w : World} {hi : Nat} {a : Option Addr} {n cap : Nat} {l : List (Int × ByteArray)} (h : Kit.Sl 2 wrEnc w hi (.slice a n cap) l) (k : Nat) (hk : k < l.length) : ∃ b off, a = some ⟨b, off, none⟩ ∧ b < hi ∧ w.cell? ⟨b, off + k * 2, none⟩ = some (.int .i64 l[k].1) ∧ w.cell? ⟨b, off + k * 2 + 1, none⟩ = some (.string l[k].2) := by
  obtain ⟨ad, cp, hv, _, h⟩ := h
  rcases h with h | ⟨b', off', rfl, hlt, h⟩
  · subst h; simp at hk
  · have := (Value.slice.inj hv).1
    subst this
    have h0 := h k 0 l[k] (by simp [hk]) (by omega)
    have h1 := h k 1 l[k] (by simp [hk]) (by omega)
    exact ⟨b', off', rfl, hlt, by simpa [wrEnc] using h0, by rw [Nat.add_assoc]; simpa [wrEnc] using h1⟩
theorem sl_nil {α : Type} {size : Nat} {enc : α → List Value} (w : World) (hi : Nat) : Kit.Sl size enc w hi (.slice none 0 0) ([] : List α) := ⟨none, 0, rfl, Nat.le_refl _, Or.inl rfl⟩

/-- six stores into one block -/
def put6 (w : World) (g : Nat) (a b c d e f : Value) : World := (((((w.setCell ⟨g, 0, none⟩ a).setCell ⟨g, 1, none⟩ b).setCell ⟨g, 2, none⟩ c).setCell ⟨g, 3, none⟩ d).setCell ⟨g, 4, none⟩ e).setCell ⟨g, 5, none⟩ f
theorem put6_keeps (w : World) (g : Nat) (a b c d e f : Value) : Kit.Keeps (fun j => j = g) w (put6 w g a b c d e f) :=
  ((((((Kit.Keeps.refl (fun j => j = g) w).setCell (p := ⟨g, 0, none⟩) (Or.inl rfl) _).setCell (p := ⟨g, 1, none⟩) (Or.inl rfl) _).setCell (p := ⟨g, 2, none⟩) (Or.inl rfl) _).setCell (p := ⟨g, 3, none⟩) (Or.inl rfl) _).setCell (p := ⟨g, 4, none⟩) (Or.inl rfl) _).setCell (p := ⟨g, 5, none⟩) (Or.inl rfl) _
theorem put6_below {B : Nat} {w0 w : World} (h : Below B w0 w) {g : Nat} (hg : B ≤ g) (a b c d e f : Value) : Below B w0 (put6 w g a b c d e f) :=
  (((((h.setCell (p := ⟨g, 0, none⟩) hg _).setCell (p := ⟨g, 1, none⟩) hg _).setCell (p := ⟨g, 2, none⟩) hg _).setCell (p := ⟨g, 3, none⟩) hg _).setCell (p := ⟨g, 4, none⟩) hg _).setCell (p := ⟨g, 5, none⟩) hg _
/-- New of the reference. -/
def RNewPost (n : Int) (w : World) (e : Ending) (w' : World) : Prop :=
  (∃ (m : Nat) (bv : Value), n = (m : Int) ∧ 1 ≤ m ∧ m ≤ 4096 ∧ e = .returned (.tuple #[.agg #[bv, .slice none 0 0, .bool false, .bool false, .int .i64 0, .int .u64 0], .int .i64 0]) ∧ RIn w' bv (.slice none 0 0) (DS.new m) ∧ (∀ k, bv.ownBlock = some k → w.heap.size ≤ k) ∧ Below w.heap.size w w')
  ∨ ((n < 1 ∨ 4096 < n) ∧ e = .returned (.tuple #[.agg #[.slice none 0 0, .slice none 0 0, .bool false, .bool false, .int .i64 0, .int .u64 0], .int .i64 9]) ∧ Below w.heap.size w w')
set_option maxRecDepth 100000 in
set_option maxHeartbeats 1000000 in
theorem rnew_any (n : Int) (w : World) : Calls Try.prog 10 #[.int .i64 n] w (RNewPost n w) := by
  by_cases h1 : n < 1
  · have b1 : decide (n < 1) = true := by simpa using h1
    go_enter Try.func10, Try.ntmps10
    go_wp2
    exact bodyPost_ret (v := .tuple #[.agg #[.slice none 0 0, .slice none 0 0, .bool false, .bool false, .int .i64 0, .int .u64 0], .int .i64 9]) (by simp [results, Try.results10, go_sem]) rfl (Or.inr ⟨Or.inl h1, rfl, newB _ _⟩)
  · have b1 : decide (n < 1) = false := by simpa using h1
    by_cases h2 : 4096 < n
    · have b2 : decide (4096 < n) = true := by simpa using h2
      go_enter Try.func10, Try.ntmps10
      go_wp2
      exact bodyPost_ret (v := .tuple #[.agg #[.slice none 0 0, .slice none 0 0, .bool false, .bool false, .int .i64 0, .int .u64 0], .int .i64 9]) (by simp [results, Try.results10, go_sem]) rfl (Or.inr ⟨Or.inr h2, rfl, newB _ _⟩)
    · have b2 : decide (4096 < n) = false := by simpa using h2
      obtain ⟨m, rfl⟩ : ∃ m : Nat, n = (m : Int) := ⟨n.toNat, by omega⟩
      have hm1 : 1 ≤ m := by omega
      have hm2 : m ≤ 4096 := by omega
      have hA := newB w (.cells #[.slice none 0 0, .slice none 0 0, .bool false, .bool false, .int .i64 0, .int .u64 0] 30)
      have HX := Lib.hid (blk_new w #[.slice none 0 0, .slice none 0 0, .bool false, .bool false, .int .i64 0, .int .u64 0] 30)
      go_enter Try.func10, Try.ntmps10
      go_wp2_with (at_make; refine Kit.wp_make T_str ByteArray.empty zero_str _ rfl _ _ rfl w.heap.size m rfl rfl (by omega) (by unfold maxLen; omega) hA.size (w.heap.size + 1) (by simp) ?_)
      intro w1 hown hb1 hs1
      have HO := Lib.hid hown; clear hown
      have hx1 : w1.heap[w.heap.size]? = some (.cells #[.slice none 0 0, .slice none 0 0, .bool false, .bool false, .int .i64 0, .int .u64 0] 30 (0, 0)) := by rw [hb1.block _ (by simp)]; exact HX.out
      have z0 := blkc hx1 0 _ rfl; have z1 := blkc hx1 1 _ rfl; have z2 := blkc hx1 2 _ rfl; have z3 := blkc hx1 3 _ rfl; have z4 := blkc hx1 4 _ rfl; have z5 := blkc hx1 5 _ rfl
      have y0 := blkf hx1 0; have y1 := blkf hx1 1; have y2 := blkf hx1 2; have y3 := blkf hx1 3; have y4 := blkf hx1 4; have y5 := blkf hx1 5
      clear hx1
      go_wp2
      have hk := put6_keeps w1 w.heap.size (.slice (some ⟨w.heap.size + 1, 0, none⟩) m m) (.slice none 0 0) (.bool false) (.bool false) (.int .i64 0) (.int .u64 0)
      have hb := put6_below (hA.trans (hb1.mono (by simp))) (Nat.le_refl _) (.slice (some ⟨w.heap.size + 1, 0, none⟩) m m) (.slice none 0 0) (.bool false) (.bool false) (.int .i64 0) (.int .u64 0)
      refine bodyPost_ret (v := .tuple #[.agg #[.slice (some ⟨w.heap.size + 1, 0, none⟩) m m, .slice none 0 0, .bool false, .bool false, .int .i64 0, .int .u64 0], .int .i64 0]) (by simp [results, Try.results10, go_sem, z0, z1, z2, z3, z4, z5]) rfl (Or.inl ⟨m, _, rfl, hm1, hm2, rfl, ⟨?_, sl_nil _ _, Fine.new m hm1 hm2, by simp [DS.new], ?_, fun k hk' => by simp [Value.ownBlock] at hk'⟩, ?_, hb⟩)
      · exact (HO.out.keeps hk (fun k hk' e => by simp [Value.ownBlock] at hk'; omega)).sl (fun _ => rfl)
      · exact fun k hk' => (World.ownsRow.lt (HO.out.keeps hk (fun k hk' e => by simp [Value.ownBlock] at hk'; omega)) k hk').2
      · intro k hk'; simp [Value.ownBlock] at hk'; omega
set_option maxRecDepth 100000 in
set_option maxHeartbeats 4000000 in
theorem settled_any (bv pv : Value) (s : DS) (m : Int) (hm : 0 ≤ m ∧ m < 18446744073709551616) (w : World) (h : RIn w bv pv s) :
    Calls Try.prog 39 #[.agg #[bv, pv, .bool s.down, .bool s.armed, .int .i64 s.steps, .int .u64 s.mask], .int .u64 m] w (RPost1 w bv pv (s.settle (bitOf m))) := by
  obtain ⟨hm1, hm2⟩ := hm
  have HF := Lib.hid h.fine
  have hlen := h.fine.len
  have hfew := h.few
  obtain ⟨bb, ob, cb, rfl, hbb⟩ := h.bform
  obtain ⟨ap, cp, rfl⟩ := h.pform
  have hA := newB w (.cells #[.slice (some ⟨bb, ob, none⟩) s.blocks.length cb, .slice ap s.pend.length cp, .bool s.down, .bool s.armed, .int .i64 s.steps, .int .u64 s.mask] 30)
  have hA2 := newB (w.alloc (.cells #[.slice (some ⟨bb, ob, none⟩) s.blocks.length cb, .slice ap s.pend.length cp, .bool s.down, .bool s.armed, .int .i64 s.steps, .int .u64 s.mask] 30)) (.cells #[.slice none 0 0, .slice none 0 0, .bool false, .bool false, .int .i64 0, .int .u64 0] 30)
  have hb2 := chainB hA hA2
  have HX : Hid (((w.alloc (.cells #[.slice (some ⟨bb, ob, none⟩) s.blocks.length cb, .slice ap s.pend.length cp, .bool s.down, .bool s.armed, .int .i64 s.steps, .int .u64 s.mask] 30)).alloc (.cells #[.slice none 0 0, .slice none 0 0, .bool false, .bool false, .int .i64 0, .int .u64 0] 30)).heap[w.heap.size]? = some (.cells #[.slice (some ⟨bb, ob, none⟩) s.blocks.length cb, .slice ap s.pend.length cp, .bool s.down, .bool s.armed, .int .i64 s.steps, .int .u64 s.mask] 30 (0, 0))) := Lib.hid (by rw [hA2.block _ (by simp)]; exact blk_new _ _ _)
  have HR : Hid (((w.alloc (.cells #[.slice (some ⟨bb, ob, none⟩) s.blocks.length cb, .slice ap s.pend.length cp, .bool s.down, .bool s.armed, .int .i64 s.steps, .int .u64 s.mask] 30)).alloc (.cells #[.slice none 0 0, .slice none 0 0, .bool false, .bool false, .int .i64 0, .int .u64 0] 30)).heap[w.heap.size + 1]? = some (.cells #[.slice none 0 0, .slice none 0 0, .bool false, .bool false, .int .i64 0, .int .u64 0] 30 (0, 0))) := Lib.hid (by have := blk_new (w.alloc (.cells #[.slice (some ⟨bb, ob, none⟩) s.blocks.length cb, .slice ap s.pend.length cp, .bool s.down, .bool s.armed, .int .i64 s.steps, .int .u64 s.mask] 30)) #[.slice none 0 0, .slice none 0 0, .bool false, .bool false, .int .i64 0, .int .u64 0] 30; simpa using this)
  have H2 := Lib.hid (h.below hb2)
  have hsz2 : w.heap.size + 2 ≤ ((w.alloc (.cells #[.slice (some ⟨bb, ob, none⟩) s.blocks.length cb, .slice ap s.pend.length cp, .bool s.down, .bool s.armed, .int .i64 s.steps, .int .u64 s.mask] 30)).alloc (.cells #[.slice none 0 0, .slice none 0 0, .bool false, .bool false, .int .i64 0, .int .u64 0] 30)).heap.size := by simp
  have HB2 := Lib.hid hb2
  have HPW := Lib.hid h.pend
  have HS2 := Lib.hid hsz2
  clear h hA hA2 hb2 hsz2
  go_enter Try.func39, Try.ntmps39
  go_wp2_with (at_builtin; refine Kit.wp_appendN T_str (by rfl) _ _ (by rfl) _ (w.heap.size + 2) _ [] (by rfl) (Kit.Own.nil _ _) s.blocks ⟨bb, ob, none⟩ cb _ (by rfl) H2.out.blocks ?c1 ?c2 HS2.out ?_)
  case c1 => simp; unfold maxLen; omega
  case c2 => simp; omega
  intro lv w3 hown hb3 _
  generalize (w.alloc (.cells #[.slice (some ⟨bb, ob, none⟩) s.blocks.length cb, .slice ap s.pend.length cp, .bool s.down, .bool s.armed, .int .i64 s.steps, .int .u64 s.mask] 30)).alloc (.cells #[.slice none 0 0, .slice none 0 0, .bool false, .bool false, .int .i64 0, .int .u64 0] 30) = W2 at *
  have HX3 := Lib.hid (show w3.heap[w.heap.size]? = _ from (hb3.block _ (by omega)).trans HX.out)
  have HR3 := Lib.hid (show w3.heap[w.heap.size + 1]? = _ from (hb3.block _ (by omega)).trans HR.out)
  have hbw3 : Below w.heap.size w w3 := HB2.out.trans (hb3.mono (by omega))
  have HO := Lib.hid hown
  obtain ⟨gl, cl, rfl, hgl⟩ : ∃ gl cl, lv = .slice (some ⟨gl, 0, none⟩) s.blocks.length cl ∧ w.heap.size + 2 ≤ gl := by
    rcases hown.form with ⟨_, h0⟩ | ⟨g, c, h1, h2, _⟩
    · rw [h0] at hlen; simp at hlen
    · exact ⟨g, c, by simpa using h1, h2⟩
  have z0 := blkc HX3.out 1 _ rfl
  clear hown hb3 HX HR H2 HB2 HS2
  go_wp2
  clear z0
  go_loopw [6] (fun i wr => ∃ k : Nat, k ≤ s.pend.length ∧ i = .int .i64 k ∧ Kit.Own 9 1 strEnc wr (w.heap.size + 2) (.slice (some ⟨gl, 0, none⟩) s.blocks.length cl) (settleGo (bitOf m) 0 (s.pend.take k) s.blocks) ∧ wr.heap[w.heap.size]? = some (.cells #[.slice (some ⟨bb, ob, none⟩) s.blocks.length cb, .slice ap s.pend.length cp, .bool s.down, .bool s.armed, .int .i64 s.steps, .int .u64 s.mask] 30 (0, 0)) ∧ wr.heap[w.heap.size + 1]? = some (.cells #[.slice none 0 0, .slice none 0 0, .bool false, .bool false, .int .i64 0, .int .u64 0] 30 (0, 0)) ∧ Below w.heap.size w wr) (fun i _ => s.pend.length - (intOf i).toNat)
  case atStart => exact ⟨0, by omega, rfl, HO.out, HX3.out, HR3.out, hbw3⟩
  case round =>
    obtain ⟨k, hk, rfl, ho, hx, hr, hbr⟩ := hrel
    have HO1 := Lib.hid ho; have HX1 := Lib.hid hx; have HR1 := Lib.hid hr
    clear ho hx hr HO HX3 HR3 hbw3
    have z1 := blkc HX1.out 1 _ rfl
    by_cases hlt : k < s.pend.length
    · obtain ⟨bp, op, rfl, hbp, q0, q1⟩ := sl_wr (HPW.out.below hbr (Nat.le_refl _)) k hlt
      obtain ⟨⟨mm, hm, hml⟩, hsz⟩ := HF.out.pend s.pend[k] (List.getElem_mem _)
      have HE := Lib.hid (settle_snoc (bitOf m) s k hlt)
      rw [hm] at q0
      rw [hm, Int.toNat_natCast] at HE
      have hln : mm < (settleGo (bitOf m) 0 (s.pend.take k) s.blocks).length := by rw [settleGo_len]; exact hml
      have z3 := own_str HO1.out mm hln
      have z4 := own_sthaw HO1.out mm
      generalize s.pend[k].2 = tx at *
      generalize (settleGo (bitOf m) 0 (s.pend.take k) s.blocks)[mm] = old at *
      clear hm hln
      have i1 : (0 : Int) ≤ (k : Int) := by omega
      have i2 : (k : Int) < (s.pend.length : Int) := by omega
      have j1 : (0 : Int) ≤ (mm : Int) := by omega
      have j2 : (mm : Int) < (s.blocks.length : Int) := by omega
      rcases (Bool.eq_false_or_eq_true (bitOf m k)).symm with hbit | hbit
      · have HB := HE.out
        rw [hbit] at HB
        rw [if_neg (by simp)] at HB
        have HBL := Lib.hid HB
        have hb0 : ((m / 2 ^ (k % 64)).tmod 2 == 1) = false := by rw [Int.tmod_eq_emod_of_nonneg (Int.ediv_nonneg hm1 (by exact Int.le_of_lt (Int.pow_pos (by omega))))]; exact hbit
        clear HB hbit HE z3 z4
        go_wp2
        go_roundw
        case rel => exact ⟨k + 1, by omega, by go_num, by rw [HBL.out]; exact HO1.out, HX1.out, HR1.out, hbr⟩
        case measure => simp [intOf]; omega
      · have HB := HE.out
        rw [hbit, if_pos rfl] at HB
        have HBL := Lib.hid HB
        have hb0 : ((m / 2 ^ (k % 64)).tmod 2 == 1) = true := by rw [Int.tmod_eq_emod_of_nonneg (Int.ediv_nonneg hm1 (by exact Int.le_of_lt (Int.pow_pos (by omega))))]; exact hbit
        clear HB hbit HE
        go_wp2
        go_region
        have hk3 : Kit.Keeps (fun j => j = gl) wr (wr.setCell ⟨gl, mm, none⟩ (.string tx)).drew := ((Kit.Keeps.refl (fun j => j = gl) wr).setCell (p := ⟨gl, mm, none⟩) (Or.inl rfl) _).drew
        have HX2 := Lib.hid (Kit.blk_keeps HX1.out hk3 (by omega))
        have HR2 := Lib.hid (Kit.blk_keeps HR1.out hk3 (by omega))
        have HO2 : Hid (Kit.Own 9 1 strEnc (wr.setCell ⟨gl, mm, none⟩ (.string tx)).drew (w.heap.size + 2) (.slice (some ⟨gl, 0, none⟩) s.blocks.length cl) (settleGo (bitOf m) 0 (s.pend.take (k + 1)) s.blocks)) := by
          unfold Hid; rw [HBL.out]; exact own_sstore HO1.out mm tx
        have hb2 := (hbr.setCell (p := ⟨gl, mm, none⟩) (by show w.heap.size ≤ gl; omega) (.string tx)).drew
        clear hk3 z1 q0 q1 z3 z4 hb0
        go_wp2
        go_roundw
        case rel => exact ⟨k + 1, by omega, by go_num, HO2.out, HX2.out, HR2.out, hb2⟩
        case measure => simp [intOf]; omega
    · obtain rfl : k = s.pend.length := by omega
      have ho := HO1.out
      rw [List.take_length] at ho
      have HOL := Lib.hid ho
      have z0 := blkc HX1.out 0 _ rfl; have z2 := blkc HX1.out 2 _ rfl; have z3 := blkc HX1.out 3 _ rfl; have z4 := blkc HX1.out 4 _ rfl; have z5 := blkc HX1.out 5 _ rfl
      have y0 := blkf HX1.out 0; have y1 := blkf HX1.out 1
      have r0 := blkc HR1.out 0 _ rfl; have r1 := blkc HR1.out 1 _ rfl; have r2 := blkc HR1.out 2 _ rfl; have r3 := blkc HR1.out 3 _ rfl; have r4 := blkc HR1.out 4 _ rfl; have r5 := blkc HR1.out 5 _ rfl
      have s0 := blkf HR1.out 0; have s1 := blkf HR1.out 1; have s2 := blkf HR1.out 2; have s3 := blkf HR1.out 3; have s4 := blkf HR1.out 4; have s5 := blkf HR1.out 5
      clear ho
      go_wp2
      have k0 : Kit.Keeps (fun j => j = w.heap.size ∨ j = w.heap.size + 1) wr ((wr.setCell ⟨w.heap.size, 0, none⟩ (.slice (some ⟨gl, 0, none⟩) s.blocks.length cl)).setCell ⟨w.heap.size, 1, none⟩ (.slice none 0 0)) := ((Kit.Keeps.refl _ wr).setCell (p := ⟨w.heap.size, 0, none⟩) (Or.inl (Or.inl rfl)) _).setCell (p := ⟨w.heap.size, 1, none⟩) (Or.inl (Or.inl rfl)) _
      have k1 := k0.trans' ((put6_keeps _ (w.heap.size + 1) (.slice (some ⟨gl, 0, none⟩) s.blocks.length cl) (.slice none 0 0) (.bool s.down) (.bool s.armed) (.int .i64 s.steps) (.int .u64 s.mask)).mono (fun j e => Or.inr e))
      have hbf := put6_below ((hbr.setCell (p := ⟨w.heap.size, 0, none⟩) (Nat.le_refl _) (.slice (some ⟨gl, 0, none⟩) s.blocks.length cl)).setCell (p := ⟨w.heap.size, 1, none⟩) (Nat.le_refl _) (.slice none 0 0)) (g := w.heap.size + 1) (by omega) (.slice (some ⟨gl, 0, none⟩) s.blocks.length cl) (.slice none 0 0) (.bool s.down) (.bool s.armed) (.int .i64 s.steps) (.int .u64 s.mask)
      refine bodyPost_ret (v := .agg #[.slice (some ⟨gl, 0, none⟩) s.blocks.length cl, .slice none 0 0, .bool s.down, .bool s.armed, .int .i64 s.steps, .int .u64 s.mask]) (by simp [results, Try.results39, go_sem, r0, r1, r2, r3, r4, r5]) rfl ⟨_, _, rfl, ⟨?_, sl_nil _ _, HF.out.settle _, by simp [DS.settle], ?_, fun k hk => by simp [Value.ownBlock] at hk⟩, ⟨fun k hk => Or.inr (Or.inr ?_), fun k hk => by simp [Value.ownBlock] at hk⟩, hbf⟩
      · exact (HOL.out.keeps k1 (fun k hk e => by simp [Value.ownBlock] at hk; omega)).sl (fun _ => rfl)
      · exact fun k hk' => (World.ownsRow.lt (HOL.out.keeps k1 (fun k hk e => by simp [Value.ownBlock] at hk; omega)) k hk').2
      · simp [Value.ownBlock] at hk; omega
end Go.Proofs.Ytgcbfpimfmkbmaa.Dk
