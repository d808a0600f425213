/- The walks of the reference's load and all. -/
import Derived.Test.YtcipnajdbafahaaTruckRef
import Derived.Test.YtcipnajdbafahaaTruckRSum
import Derived.Test.YtcipnajdbafahaaTruckTrips
import Derived.Test.YtcipnajdbafahaaTruckBefore
namespace Go.Proofs.Ytcipnajdbafahaa.Tk
set_option linter.unusedVariables false
set_option linter.unusedSimpArgs false
open Go.RowKit

def boolEnc (b : Bool) : List Value := [.bool b]
theorem info_bool : (Try.prog.info? 4).map (fun i => (i.zero, i.size, i.bytes)) = some (some (.bool false), 1, 1) := by kernel_rfl
theorem T_bool : Kit.SlTy Try.prog 43 4 1 1 boolEnc where
  und := Try.underlying43
  info := by obtain ⟨i, h1, h2, h3, h4⟩ := info_parts info_bool; exact ⟨i, _, h1, h2, h3, h4, rfl⟩
  pos := by decide
  len := fun _ => rfl
  one := fun x u h => by simp [boolEnc] at h; subst h; rfl
theorem slb {w : World} {hi : Nat} {v : Value} {l : List Bool} (h : Kit.Sl 1 boolEnc w hi v l) (k : Nat) (hk : k < l.length) :
    ∃ b off, (∃ cap, v = .slice (some ⟨b, off, none⟩) l.length cap) ∧ b < hi ∧ w.cell? ⟨b, off + k, none⟩ = some (.bool l[k]) := by
  obtain ⟨ad, cap, rfl, hc, h⟩ := h
  rcases h with h | ⟨b, off, rfl, hlt, h⟩
  · subst h; simp at hk
  · have := h k 0 l[k] (by simp [hk]) (by omega)
    exact ⟨b, off, ⟨cap, rfl⟩, hlt, by simpa [boolEnc] using this⟩
theorem blk5 {w : World} {g : Nat} {a b c d e : Value} {T : TypeId} (h : w.heap[g]? = some (.cells #[a, b, c, d, e] T (0, 0))) :
    w.cell? ⟨g, 0, none⟩ = some a ∧ w.cell? ⟨g, 1, none⟩ = some b ∧ w.cell? ⟨g, 2, none⟩ = some c ∧ w.cell? ⟨g, 3, none⟩ = some d ∧ w.cell? ⟨g, 4, none⟩ = some e ∧ ∀ j, w.frozen? ⟨g, j, none⟩ = false := by
  refine ⟨?_, ?_, ?_, ?_, ?_, ?_⟩
  · simp [World.cell?, h]
  · simp [World.cell?, h]
  · simp [World.cell?, h]
  · simp [World.cell?, h]
  · simp [World.cell?, h]
  · intro j; simp [World.frozen?, h]

theorem bit_int (b k : Nat) : (((b : Int) / 2 ^ k).tmod 2 == 0) = !bit b k := by
  have e : ((b : Int) / 2 ^ k) = ((b / 2 ^ k : Nat) : Int) := by push_cast; rfl
  rw [e]
  unfold bit
  generalize b / 2 ^ k = n
  rw [Int.tmod_eq_emod_of_nonneg (by omega)]
  rcases Nat.mod_two_eq_zero_or_one n with h | h
  · rw [show (n : Int) % 2 = 0 by omega, h]; rfl
  · rw [show (n : Int) % 2 = 1 by omega, h]; rfl
theorem small_next {k : Nat} {s p : Par} (hs : Small ((k : Int) * 1000000000000) s) (hp : Small 1000000000000 p) : Small (((k + 1 : Nat) : Int) * 1000000000000) (addP s p) := by
  obtain ⟨a1, a2, a3, a4, a5, a6⟩ := hs
  obtain ⟨b1, b2, b3, b4, b5, b6⟩ := hp
  refine ⟨?_, ?_, ?_, ?_, ?_, ?_⟩ <;> simp only [addP] <;> omega
theorem own_val' {w : World} {B : Nat} {v : Value} {l : List Int} (h : Kit.Own 3 1 intEnc w B v l) : ∃ ad cap, v = .slice ad l.length cap := by
  obtain ⟨ad, cap, h, _⟩ := h.sl (fun _ => rfl)
  exact ⟨ad, cap, h⟩
def loadRes (l : List Par) (left : List Bool) (b : Nat) : List Int × Par × Bool := if okIdx left b l.length then (idxs b l.length, tot l (idxs b l.length), true) else ([], (0, 0, 0), false)
def LoadPost (l : List Par) (left : List Bool) (b : Nat) (w : World) (e : Ending) (w' : World) : Prop :=
  ∃ v', e = .returned (.agg #[v', .int .i64 (loadRes l left b).2.1.1, .int .i64 (loadRes l left b).2.1.2.1, .int .i64 (loadRes l left b).2.1.2.2, .bool (loadRes l left b).2.2]) ∧ Kit.Sl 1 intEnc w' w'.heap.size v' (loadRes l left b).1 ∧ (∀ k, v'.ownBlock = some k → w.heap.size < k) ∧ Below w.heap.size w w'

set_option maxRecDepth 100000 in
set_option maxHeartbeats 2000000 in
theorem load_any (v u : Value) (l : List Par) (left : List Bool) (b : Nat) (w : World) (hl : Kit.Sl 3 parEnc w w.heap.size v l) (hn : l.length ≤ 16) (ha : l.all inP = true) (hq : Kit.Sl 1 boolEnc w w.heap.size u left) (hm : left.length = l.length) :
    Calls Try.prog 31 #[v, u, .int .i64 b] w (LoadPost l left b w) := by
  have HL := Lib.hid hl; have HQ := Lib.hid hq
  have HA := Lib.hid ha; clear ha
  obtain ⟨ad, cap, rfl, hcap, _⟩ := hl
  obtain ⟨ad2, cap2, rfl, hcap2, _⟩ := hq
  have HM := Lib.hid hm
  rw [hm] at HQ hcap2 ⊢
  clear hm
  go_enter Try.func31, Try.ntmps31
  go_wp2
  go_loopw [8] (fun i wr => ∃ (k : Nat) (av : Value), k ≤ l.length ∧ i = .int .i64 k ∧ okIdx left b k = true ∧ Kit.Own 3 1 intEnc wr (w.heap.size + 2) av (idxs b k) ∧ Small ((k : Int) * 1000000000000) (tot l (idxs b k)) ∧ Below w.heap.size w wr ∧ wr.heap[w.heap.size]? = some (.cells #[.slice none 0 0, .int .i64 0, .int .i64 0, .int .i64 0, .bool false] 58 (0, 0)) ∧ wr.heap[w.heap.size + 1]? = some (.cells #[av, .int .i64 (tot l (idxs b k)).1, .int .i64 (tot l (idxs b k)).2.1, .int .i64 (tot l (idxs b k)).2.2, .bool true] 58 (0, 0))) (fun i _ => l.length - (intOf i).toNat)
  case atStart =>
    refine ⟨0, _, by omega, rfl, rfl, Kit.Own.nil _ _, ⟨by simp [idxs, tot], by simp [idxs, tot], by simp [idxs, tot], by simp [idxs, tot], by simp [idxs, tot], by simp [idxs, tot]⟩, ((Below.refl _ _).alloc (Nat.le_refl _) _).alloc (by simp) _, ?_, ?_⟩
    · rw [Below.heap_alloc _ _ _ (by simp)]; exact blk_new _ _ _
    · have := blk_new (w.alloc (.cells #[.slice none 0 0, .int .i64 0, .int .i64 0, .int .i64 0, .bool false] 58)) #[.slice none 0 0, .int .i64 0, .int .i64 0, .int .i64 0, .bool true] 58
      simpa [idxs, tot] using this
  case round =>
    obtain ⟨k, av, hk, rfl, hok, hown, hsm, hbr, hB0, hB1⟩ := hrel
    obtain ⟨r0, r1, r2, r3, r4, rf⟩ := blk5 hB0
    obtain ⟨s0, s1, s2, s3, s4, sf⟩ := blk5 hB1
    have f0 := rf 0; have f1 := rf 1; have f2 := rf 2; have f3 := rf 3; have f4 := rf 4
    have g0 := sf 0; have g1 := sf 1; have g2 := sf 2; have g3 := sf 3; have g4 := sf 4
    have HOK := Lib.hid hok
    have HOW := Lib.hid hown
    have HSM := Lib.hid hsm
    have H0 := Lib.hid hB0; have H1 := Lib.hid hB1
    have hgl : w.heap.size + 1 < wr.heap.size := (Array.getElem?_eq_some_iff.1 hB1).1
    clear hok hown hsm hB0 hB1 rf sf
    by_cases hlt : k < l.length
    · rcases (Bool.eq_false_or_eq_true (bit b k)).symm with hbit | hbit
      · have hbi := bit_int b k
        rw [hbit] at hbi
        simp only [Bool.not_false] at hbi
        have HB := Lib.hid hbit; clear hbit
        go_wp2
        go_roundw
        case rel =>
          refine ⟨k + 1, av, by omega, by go_num, by rw [okIdx_no HB.out]; exact HOK.out, by rw [idxs_no HB.out]; exact HOW.out, ?_, hbr, H0.out, by rw [idxs_no HB.out]; exact H1.out⟩
          rw [idxs_no HB.out]
          obtain ⟨a1, a2, a3, a4, a5, a6⟩ := HSM.out
          exact ⟨a1, by omega, a3, by omega, a5, by omega⟩
        case measure => simp [intOf]; omega
      · have hbi := bit_int b k
        rw [hbit] at hbi
        simp only [Bool.not_true] at hbi
        have HB := Lib.hid hbit; clear hbit
        obtain ⟨b1, off1, ⟨cap1', hv1⟩, hbl1, c1⟩ := slb HQ.out k (by rw [HM.out]; exact hlt)
        obtain rfl : ad2 = some ⟨b1, off1, none⟩ := (Value.slice.inj hv1).1
        clear hv1
        rw [← hbr.cell (p := ⟨b1, off1 + k, none⟩) hbl1] at c1
        have HOY := Lib.hid (okIdx_yes (left := left) HB.out (by rw [HM.out]; exact hlt))
        generalize left[k]'(by rw [HM.out]; exact hlt) = x at *
        have k0 : (0 : Int) ≤ (k : Int) := by omega
        have k1 : (k : Int) < (l.length : Int) := by omega
        rcases (Bool.eq_false_or_eq_true x).symm with rfl | rfl
        · have HRES : Hid (loadRes l left b = ([], (0, 0, 0), false)) := by
            unfold Hid loadRes
            rw [okIdx_false (show k + 1 ≤ l.length by omega) (by rw [HOY.out, Bool.and_false])]; rfl
          go_wp2
          exact bodyPost_ret (v := .agg #[.slice none 0 0, .int .i64 0, .int .i64 0, .int .i64 0, .bool false]) (by simp [results, Try.results31, go_sem, r0, r1, r2, r3, r4]) rfl ⟨_, by rw [HRES.out], by rw [HRES.out]; exact ⟨none, 0, rfl, Nat.le_refl _, Or.inl rfl⟩, (fun k hk => by simp [Value.ownBlock] at hk), ((((hbr.setCell (p := ⟨w.heap.size, 0, none⟩) (Nat.le_refl _) _).setCell (p := ⟨w.heap.size, 1, none⟩) (Nat.le_refl _) _).setCell (p := ⟨w.heap.size, 2, none⟩) (Nat.le_refl _) _).setCell (p := ⟨w.heap.size, 3, none⟩) (Nat.le_refl _) _).setCell (p := ⟨w.heap.size, 4, none⟩) (Nat.le_refl _) _⟩
        · have HIL := Lib.hid (idxs_len b k)
          go_wp2_with (at_builtin; refine Kit.wp_push T_int (by rfl) _ _ (by rfl) wr (w.heap.size + 2) _ _ (by rfl) HOW.out (k : Int) _ _ wr.heap.size rfl (by rfl) ?c1 ?c2 ?c3 hgl ?_)
          case c1 => rfl
          case c2 => have := HIL.out; unfold maxLen; omega
          case c3 => have := HIL.out; omega
          intro gl capl w3 hown3 hb3 hgr3 hsz3 hv3 hgl3 _
          have HO3 := Lib.hid hown3
          have e0 : w3.heap[w.heap.size]? = some (.cells #[.slice none 0 0, .int .i64 0, .int .i64 0, .int .i64 0, .bool false] 58 (0, 0)) := by rw [hb3.block _ (by omega)]; exact H0.out
          have e1 : w3.heap[w.heap.size + 1]? = some (.cells #[av, .int .i64 (tot l (idxs b k)).1, .int .i64 (tot l (idxs b k)).2.1, .int .i64 (tot l (idxs b k)).2.2, .bool true] 58 (0, 0)) := by rw [hb3.block _ (by omega)]; exact H1.out
          have E0 := Lib.hid e0; have E1 := Lib.hid e1
          obtain ⟨_, _, _, _, _, ef⟩ := blk5 e1
          have ef0 := ef 0
          clear e0 e1 ef hgr3 hv3 hown3
          have hbr3 : Below w.heap.size w w3 := hbr.trans (hb3.mono (by omega))
          have hbl3 : w3.heap.size = (w3.setCell ⟨w.heap.size + 1, 0, none⟩ (.slice (some ⟨gl, 0, none⟩) ((idxs b k).length + 1) capl)).heap.size := by simp [World.setCell]
          go_wp2
          have F0 : Hid ((w3.setCell ⟨w.heap.size + 1, 0, none⟩ (.slice (some ⟨gl, 0, none⟩) ((idxs b k).length + 1) capl)).heap[w.heap.size]? = some (.cells #[.slice none 0 0, .int .i64 0, .int .i64 0, .int .i64 0, .bool false] 58 (0, 0))) := by
            unfold Hid; rw [blk_other (by omega)]; exact E0.out
          have F1 : Hid ((w3.setCell ⟨w.heap.size + 1, 0, none⟩ (.slice (some ⟨gl, 0, none⟩) ((idxs b k).length + 1) capl)).heap[w.heap.size + 1]? = some (.cells #[.slice (some ⟨gl, 0, none⟩) ((idxs b k).length + 1) capl, .int .i64 (tot l (idxs b k)).1, .int .i64 (tot l (idxs b k)).2.1, .int .i64 (tot l (idxs b k)).2.2, .bool true] 58 (0, 0))) := by
            unfold Hid; exact blk_set E1.out 0 _
          have FO := Lib.hid (ownSet HO3.out (show w.heap.size + 1 < w.heap.size + 2 by omega) 0 (.slice (some ⟨gl, 0, none⟩) ((idxs b k).length + 1) capl))
          have hbW := hbr3.setCell (p := ⟨w.heap.size + 1, 0, none⟩) (Nat.le_succ _) (.slice (some ⟨gl, 0, none⟩) ((idxs b k).length + 1) capl)
          have hszW : w.heap.size + 1 < (w3.setCell ⟨w.heap.size + 1, 0, none⟩ (.slice (some ⟨gl, 0, none⟩) ((idxs b k).length + 1) capl)).heap.size := by rw [← hbl3]; omega
          clear hbl3
          generalize w3.setCell ⟨w.heap.size + 1, 0, none⟩ (.slice (some ⟨gl, 0, none⟩) ((idxs b k).length + 1) capl) = W0 at *
          clear HO3 E0 E1 H0 H1 s0 s1 s2 s3 s4 g0 g1 g2 g3 g4 r0 r1 r2 r3 r4 f0 f1 f2 f3 f4 c1 ef0 hbi hb3 hsz3 hgl3 hbr3 HOW
          have HNX : Hid (tot l (idxs b (k + 1)) = addP (tot l (idxs b k)) l[k]) := by unfold Hid; rw [idxs_yes HB.out, tot_snoc l _ k hlt]
          have HIX := Lib.hid (idxs_yes HB.out)
          have HOK2 : Hid (okIdx left b (k + 1) = true) := by unfold Hid; rw [HOY.out, HOK.out]; rfl
          have HPS := small_at HA.out k hlt
          have HSN : Hid (Small (((k + 1 : Nat) : Int) * 1000000000000) (addP (tot l (idxs b k)) l[k])) := Lib.hid (small_next HSM.out HPS)
          obtain ⟨b', off', ⟨cap'', hv⟩, hbl', d0, d1, d2⟩ := sl3 HL.out k hlt
          obtain rfl : ad = some ⟨b', off', none⟩ := (Value.slice.inj hv).1
          clear hv
          rw [← hbW.cell (p := ⟨b', off' + k * 3, none⟩) hbl'] at d0
          rw [← hbW.cell (p := ⟨b', off' + k * 3 + 1, none⟩) hbl'] at d1
          rw [← hbW.cell (p := ⟨b', off' + k * 3 + 2, none⟩) hbl'] at d2
          generalize l[k] = p at *
          generalize tot l (idxs b k) = q at *
          have HS1 : Hid (Small 1000000000000000 q) := by
            obtain ⟨a1, a2, a3, a4, a5, a6⟩ := HSM.out
            exact ⟨a1, by omega, a3, by omega, a5, by omega⟩
          have HP1 : Hid (Small 1000000000000000 p) := by
            obtain ⟨b1, b2, b3, b4, b5, b6⟩ := HPS
            exact ⟨b1, by omega, b3, by omega, b5, by omega⟩
          clear HPS HSM
          obtain ⟨s0, s1, s2, s3, s4, sf⟩ := blk5 F1.out
          have g1 := sf 1; have g2 := sf 2; have g3 := sf 3
          clear sf
          generalize hLL : (idxs b k).length + 1 = LL at *
          have hne : w.heap.size ≠ w.heap.size + 1 := by omega
          have KEY : Hid (∀ w2, Below W0.heap.size W0 w2 →
              Below w.heap.size w (((w2.setCell ⟨w.heap.size + 1, 1, none⟩ (.int .i64 (addP q p).1)).setCell ⟨w.heap.size + 1, 2, none⟩ (.int .i64 (addP q p).2.1)).setCell ⟨w.heap.size + 1, 3, none⟩ (.int .i64 (addP q p).2.2)) ∧
              Kit.Own 3 1 intEnc (((w2.setCell ⟨w.heap.size + 1, 1, none⟩ (.int .i64 (addP q p).1)).setCell ⟨w.heap.size + 1, 2, none⟩ (.int .i64 (addP q p).2.1)).setCell ⟨w.heap.size + 1, 3, none⟩ (.int .i64 (addP q p).2.2)) (w.heap.size + 2) (.slice (some ⟨gl, 0, none⟩) LL capl) (idxs b k ++ [(k : Int)]) ∧
              (((w2.setCell ⟨w.heap.size + 1, 1, none⟩ (.int .i64 (addP q p).1)).setCell ⟨w.heap.size + 1, 2, none⟩ (.int .i64 (addP q p).2.1)).setCell ⟨w.heap.size + 1, 3, none⟩ (.int .i64 (addP q p).2.2)).heap[w.heap.size]? = some (.cells #[.slice none 0 0, .int .i64 0, .int .i64 0, .int .i64 0, .bool false] 58 (0, 0)) ∧
              (((w2.setCell ⟨w.heap.size + 1, 1, none⟩ (.int .i64 (addP q p).1)).setCell ⟨w.heap.size + 1, 2, none⟩ (.int .i64 (addP q p).2.1)).setCell ⟨w.heap.size + 1, 3, none⟩ (.int .i64 (addP q p).2.2)).heap[w.heap.size + 1]? = some (.cells #[.slice (some ⟨gl, 0, none⟩) LL capl, .int .i64 (addP q p).1, .int .i64 (addP q p).2.1, .int .i64 (addP q p).2.2, .bool true] 58 (0, 0))) := by
            intro w2 h4
            have e1 : w2.heap[w.heap.size]? = some (.cells #[.slice none 0 0, .int .i64 0, .int .i64 0, .int .i64 0, .bool false] 58 (0, 0)) := by rw [h4.block _ (by omega)]; exact F0.out
            have e2 : w2.heap[w.heap.size + 1]? = some (.cells #[.slice (some ⟨gl, 0, none⟩) LL capl, .int .i64 q.1, .int .i64 q.2.1, .int .i64 q.2.2, .bool true] 58 (0, 0)) := by rw [h4.block _ (by omega)]; exact F1.out
            have hlt2 : w.heap.size + 1 < w.heap.size + 2 := by omega
            refine ⟨?_, ?_, ?_, ?_⟩
            · exact (((hbW.trans (h4.mono hbW.size)).setCell (p := ⟨w.heap.size + 1, 1, none⟩) (Nat.le_succ _) _).setCell (p := ⟨w.heap.size + 1, 2, none⟩) (Nat.le_succ _) _).setCell (p := ⟨w.heap.size + 1, 3, none⟩) (Nat.le_succ _) _
            · exact ownSet (ownSet (ownSet (FO.out.below' h4) hlt2 _ _) hlt2 _ _) hlt2 _ _
            · rw [blk_other hne, blk_other hne, blk_other hne]; exact e1
            · exact blk_set (blk_set (blk_set e2 1 _) 2 _) 3 _
          go_region_with (go_at_call 22; refine (plus_any q p _ HS1.out HP1.out).mono ?_; rintro e w2 ⟨rfl, hb2⟩; obtain ⟨y0, y1, y2, y3, y4, yf⟩ := blk5 (show w2.heap[w.heap.size + 1]? = some (.cells #[.slice (some ⟨gl, 0, none⟩) LL capl, .int .i64 q.1, .int .i64 q.2.1, .int .i64 q.2.2, .bool true] 58 (0, 0)) from (by rw [hb2.block _ (by simp; omega)]; exact F1.out)); have z1 := yf 1; have z2 := yf 2; have z3 := yf 3; clear yf)
          all_goals
            go_wp2
            obtain ⟨t1, t2, t3, t4⟩ := KEY.out w2 ((Below.refl _ _).drew.trans hb2)
            go_roundw
            case rel => exact ⟨k + 1, _, by omega, by go_num, HOK2.out, by rw [HIX.out]; exact t2, by rw [HNX.out]; exact HSN.out, t1, t3, by rw [HNX.out]; exact t4⟩
            case measure => simp [intOf]; omega
    · obtain rfl : k = l.length := by omega
      have HRES : Hid (loadRes l left b = (idxs b l.length, tot l (idxs b l.length), true)) := by
        unfold Hid loadRes; rw [HOK.out]; rfl
      have HSL := Lib.hid (HOW.out.sl (fun _ => rfl))
      have HFS : Hid (∀ a0 a1 a2 a3 a4 : Value, Kit.Sl 1 intEnc (((((wr.setCell ⟨w.heap.size, 0, none⟩ a0).setCell ⟨w.heap.size, 1, none⟩ a1).setCell ⟨w.heap.size, 2, none⟩ a2).setCell ⟨w.heap.size, 3, none⟩ a3).setCell ⟨w.heap.size, 4, none⟩ a4) (((((wr.setCell ⟨w.heap.size, 0, none⟩ a0).setCell ⟨w.heap.size, 1, none⟩ a1).setCell ⟨w.heap.size, 2, none⟩ a2).setCell ⟨w.heap.size, 3, none⟩ a3).setCell ⟨w.heap.size, 4, none⟩ a4).heap.size av (idxs b l.length)) := by
        intro a0 a1 a2 a3 a4
        have h2 : w.heap.size < w.heap.size + 2 := by omega
        exact (ownSet (ownSet (ownSet (ownSet (ownSet HOW.out h2 _ _) h2 _ _) h2 _ _) h2 _ _) h2 _ _).sl (fun _ => rfl)
      have HFR : Hid (∀ k, av.ownBlock = some k → w.heap.size < k) := fun k hk => by have := (World.ownsRow.lt HOW.out k hk).1; omega
      obtain ⟨ada, capa, hva⟩ := own_val' HOW.out
      subst hva
      go_wp2
      exact bodyPost_ret (v := .agg #[.slice ada (idxs b l.length).length capa, .int .i64 (tot l (idxs b l.length)).1, .int .i64 (tot l (idxs b l.length)).2.1, .int .i64 (tot l (idxs b l.length)).2.2, .bool true]) (by simp [results, Try.results31, go_sem, r0, r1, r2, r3, r4]) rfl ⟨_, by rw [HRES.out], by rw [HRES.out]; exact HFS.out _ _ _ _ _, HFR.out, ((((hbr.setCell (p := ⟨w.heap.size, 0, none⟩) (Nat.le_refl _) _).setCell (p := ⟨w.heap.size, 1, none⟩) (Nat.le_refl _) _).setCell (p := ⟨w.heap.size, 2, none⟩) (Nat.le_refl _) _).setCell (p := ⟨w.heap.size, 3, none⟩) (Nat.le_refl _) _).setCell (p := ⟨w.heap.size, 4, none⟩) (Nat.le_refl _) _⟩
end Go.Proofs.Ytcipnajdbafahaa.Tk
