/- The walks of slices.Clone, visit, Best. -/
import Derived.Test.YtcipnajdbafahaaTruckCheck
import Derived.Test.YtcipnajdbafahaaTruckDfs
import Derived.RegionTactic
namespace Go.Proofs.Ytcipnajdbafahaa.Tk
set_option linter.unusedVariables false
set_option linter.unusedSimpArgs false
open Go.RowKit

theorem info_int : (Try.prog.info? 3).map (fun i => (i.zero, i.size, i.bytes)) = some (some (.int .i64 0), 1, 8) := by kernel_rfl
theorem T_int : Kit.SlTy Try.prog 25 3 1 8 intEnc where
  und := Try.underlying25
  info := by obtain ⟨i, h1, h2, h3, h4⟩ := info_parts info_int; exact ⟨i, _, h1, h2, h3, h4, rfl⟩
  pos := by decide
  len := fun _ => rfl
  one := fun x u h => by simp [intEnc] at h; subst h; rfl

set_option maxRecDepth 100000 in
set_option maxHeartbeats 1000000 in
theorem clone_any (v : Value) (l : List Int) (w : World) (hi : Nat) (hl : Kit.Sl 1 intEnc w hi v l) (hn : l.length ≤ 1000000) :
    Calls Try.prog 30 #[v] w fun e w' => ∃ v', e = .returned v' ∧ Kit.Sl 1 intEnc w' w'.heap.size v' l ∧ Below w.heap.size w w' ∧ ∀ k, v'.ownBlock = some k → w.heap.size ≤ k := by
  have hl' := hl
  obtain ⟨ad, cap, rfl, hcap, _⟩ := hl
  have he := fun (w : World) (a : Option Addr) (n c : Nat) => Lib.run_eql_slice_nil (P := Try.prog) w 25 3 a n c 0 0 Try.underlying25
  cases ad with
  | none =>
    have hl0 : l = [] := by
      obtain ⟨_, _, h1, _, h2⟩ := hl'
      rcases h2 with h | ⟨b, off, h, _⟩
      · exact h
      · simp at h1; rw [← h1.1] at h; simp at h
    subst hl0
    go_enter Try.func30, Try.ntmps30
    go_wp2
    go_ret
    exact ⟨_, rfl, ⟨none, 0, rfl, by simp, Or.inl rfl⟩, Below.refl _ _, fun k hk => by simp [Value.ownBlock] at hk⟩
  | some ad =>
    have HL := Lib.hid hl'; clear hl'
    go_enter Try.func30, Try.ntmps30
    go_wp2_with (at_builtin; refine Kit.wp_appendN T_int (by rfl) _ _ (by rfl) (w.alloc (.cells #[] 3)) w.heap.size (.slice (some ⟨w.heap.size, 0, none⟩) 0 0) [] (by rfl) ?own l ad cap hi (by rfl) ?sl ?c1 ?c2 ?c3 ?_)
    case own => exact World.ownsRow_made w #[] 0 (Nat.le_refl _) (by unfold maxLen; omega) rfl
    case sl => exact (HL.out.other (fun k hk hne hlt => by
      have : k < w.heap.size := by
        obtain ⟨ad', cap', h1, _, h2⟩ := HL.out
        simp only [Value.slice.injEq, Option.some.injEq] at h1
        rcases h2 with h | ⟨b, off, rfl, hb, hc⟩
        · exact absurd h hne
        · simp only [Option.some.injEq] at h1
          obtain ⟨rfl, _, _⟩ := h1
          simp [Value.ownBlock] at hk
          subst hk
          obtain ⟨x, r, rfl⟩ := List.exists_cons_of_ne_nil hne
          have := hc 0 0 x rfl (by omega)
          exact World.block_lt_of_cell? w _ this
      exact Below.heap_alloc _ _ _ this))
    case c1 => simp; unfold maxLen; omega
    case c2 => simp; omega
    case c3 => simp
    intro v' w' hown hbel _
    have HO := Lib.hid hown; clear hown
    go_wp2
    go_ret
    refine ⟨_, rfl, HO.out.sl (fun _ => rfl), ((Below.refl _ _).alloc (Nat.le_refl _) _).trans hbel, fun k hk => (World.ownsRow.lt HO.out k hk).1⟩

/-- the search struct in block g: its parcels lie below B, its load is a row of its own behind g, its best load lies elsewhere -/
structure SrcAt (w : World) (B g : Nat) (pv : Value) (l : List Par) (load : List Int) (st : St) : Prop where
  B_le : B ≤ g
  ex : ∃ lv bv, w.heap[g]? = some (.cells #[pv, lv, bv, .int .i64 st.2] 50 (0, 0)) ∧ Kit.Own 3 1 intEnc w (g + 1) lv load ∧ Kit.Sl 1 intEnc w w.heap.size bv st.1 ∧
    ∀ k, bv.ownBlock = some k → st.1 ≠ [] → g < k ∧ lv.ownBlock ≠ some k
  pars : Kit.Sl 3 parEnc w B pv l


theorem ownSet {w : World} {B g : Nat} {v : Value} {l : List Int} (h : Kit.Own 3 1 intEnc w B v l) (hg : g < B) (j : Nat) (u : Value) : Kit.Own 3 1 intEnc (w.setCell ⟨g, j, none⟩ u) B v l :=
  ownsRow_setCell_below h hg u

/-- the best load is replaced by a copy of the load -/
theorem src_up {w w1 : World} {B g : Nat} {pv : Value} {l : List Par} {load : List Int} {st : St} {wo : Int} {bv' : Value} (hs : SrcAt w B g pv l load st) (hb : Below w.heap.size (w.setCell ⟨g, 3, none⟩ (.int .i64 wo)) w1)
    (hsl : Kit.Sl 1 intEnc w1 w1.heap.size bv' load) (hf : ∀ k, bv'.ownBlock = some k → w.heap.size ≤ k) :
    SrcAt (w1.setCell ⟨g, 2, none⟩ bv') B g pv l load (load, wo) ∧ Below g w (w1.setCell ⟨g, 2, none⟩ bv') := by
  obtain ⟨hB, ⟨lv, bv, h1, h2, h3, h4⟩, h5⟩ := hs
  have hgl : g < w.heap.size := (Array.getElem?_eq_some_iff.1 h1).1
  have hb' : Below g w w1 := ((Below.refl g w).setCell (p := ⟨g, 3, none⟩) (Nat.le_refl _) _).trans (hb.mono (by omega))
  have e1 : w1.heap[g]? = some (.cells #[pv, lv, bv, .int .i64 wo] 50 (0, 0)) := by
    rw [hb.block g hgl]; exact blk_set h1 3 _
  refine ⟨⟨hB, ⟨lv, bv', blk_set e1 2 _, ?_, ?_, ?_⟩, ?_⟩, hb'.setCell (p := ⟨g, 2, none⟩) (Nat.le_refl _) _⟩
  · refine ownSet ?_ (Nat.lt_succ_self _) _ _
    exact (ownSet h2 (Nat.lt_succ_self _) _ _).below hb (fun k hk => (World.ownsRow.lt h2 k hk).2)
  · have hsz : (w1.setCell ⟨g, 2, none⟩ bv').heap.size = w1.heap.size := by simp [World.setCell]
    rw [hsz]
    exact hsl.other (fun k hk _ _ => blk_other (by have := hf k hk; omega) _ _)
  · intro k hk _
    have hk' := hf k hk
    refine ⟨by omega, fun e => ?_⟩
    have := (World.ownsRow.lt h2 k e).2
    omega
  · exact (h5.below (hb'.mono hB) (Nat.le_refl _)).other (fun k hk _ hlt => blk_other (by omega) _ _)

/-- a parcel has been pushed onto the load -/
theorem src_push {w wq w1 : World} {B g : Nat} {pv lv bv : Value} {l : List Par} {load : List Int} {st : St} {j : Int} {gl cap : Nat} (hB : B ≤ g) (h1 : w.heap[g]? = some (.cells #[pv, lv, bv, .int .i64 st.2] 50 (0, 0)))
    (_h2 : Kit.Own 3 1 intEnc w (g + 1) lv load) (h3 : Kit.Sl 1 intEnc w w.heap.size bv st.1) (h4 : ∀ k, bv.ownBlock = some k → st.1 ≠ [] → g < k ∧ lv.ownBlock ≠ some k) (h5 : Kit.Sl 3 parEnc w B pv l)
    (hq : Below w.heap.size w wq) (hqs : w.heap.size ≤ wq.heap.size) (ho : Kit.Own 3 1 intEnc w1 (g + 1) (.slice (some ⟨gl, 0, none⟩) (load.length + 1) cap) (load ++ [j])) (hb : Below (g + 1) wq w1) (hgr : wq.grownBy w1 lv.ownBlock) (hv : lv.ownBlock = some gl ∨ w.heap.size ≤ gl) :
    SrcAt (w1.setCell ⟨g, 1, none⟩ (.slice (some ⟨gl, 0, none⟩) (load.length + 1) cap)) B g pv l (load ++ [j]) st ∧ Below g w (w1.setCell ⟨g, 1, none⟩ (.slice (some ⟨gl, 0, none⟩) (load.length + 1) cap)) := by
  have hgl : g < w.heap.size := (Array.getElem?_eq_some_iff.1 h1).1
  have e1 : w1.heap[g]? = some (.cells #[pv, lv, bv, .int .i64 st.2] 50 (0, 0)) := by
    rw [hb.block g (by omega), hq.block g hgl]; exact h1
  have hb' : Below g w w1 := (hq.mono (by omega)).trans (hb.mono (by omega))
  refine ⟨⟨hB, ⟨_, bv, blk_set e1 1 _, ownSet ho (Nat.lt_succ_self _) _ _, ?_, ?_⟩, ?_⟩, hb'.setCell (p := ⟨g, 1, none⟩) (Nat.le_refl _) _⟩
  · have hsz : (w1.setCell ⟨g, 1, none⟩ (.slice (some ⟨gl, 0, none⟩) (load.length + 1) cap)).heap.size = w1.heap.size := by simp [World.setCell]
    rw [hsz]
    refine (h3.other (fun k hk hne hlt => ?_)).mono (Nat.le_trans hqs hgr.size)
    obtain ⟨a1, a2⟩ := h4 k hk hne
    rw [blk_other (by omega), hgr.block k (by omega) (Ne.symm a2), hq.block k hlt]
  · intro k hk hne
    obtain ⟨a1, a2⟩ := h4 k hk hne
    refine ⟨a1, fun e => ?_⟩
    simp [Value.ownBlock] at e
    subst e
    rcases hv with hv | hv
    · exact a2 hv
    · obtain ⟨ad, cp, rfl, _, h⟩ := h3
      rcases h with h | ⟨b, off, rfl, hlt, _⟩
      · exact hne h
      · simp [Value.ownBlock] at hk; omega
  · exact (h5.below (hb'.mono hB) (Nat.le_refl _)).other (fun k hk _ hlt => blk_other (by omega) _ _)

/-- the last parcel has been taken from the load -/
theorem src_pop {w : World} {B g : Nat} {pv : Value} {l : List Par} {load : List Int} {j : Int} {st : St} (hs : SrcAt w B g pv l (load ++ [j]) st) :
    ∃ gl cap bv, w.heap[g]? = some (.cells #[pv, .slice (some ⟨gl, 0, none⟩) (load.length + 1) cap, bv, .int .i64 st.2] 50 (0, 0)) ∧ load.length + 1 ≤ cap ∧
      SrcAt (w.setCell ⟨g, 1, none⟩ (.slice (some ⟨gl, 0, none⟩) load.length cap)) B g pv l load st ∧ Below g w (w.setCell ⟨g, 1, none⟩ (.slice (some ⟨gl, 0, none⟩) load.length cap)) := by
  obtain ⟨hB, ⟨lv, bv, h1, h2, h3, h4⟩, h5⟩ := hs
  rcases h2.form with ⟨_, hn⟩ | ⟨gl, cap, rfl, hgl, hglt, hc⟩
  · simp at hn
  rw [List.length_append, List.length_cons, List.length_nil, Nat.zero_add] at h1 h2 hc
  have ht := Kit.Own.take (size := 1) (enc := intEnc) (fun _ => rfl) h2 load.length (by rw [List.length_append]; omega)
  rw [List.take_left] at ht
  refine ⟨gl, cap, bv, h1, hc, ⟨hB, ⟨_, bv, blk_set h1 1 _, ownSet ht (Nat.lt_succ_self _) _ _, ?_, ?_⟩, ?_⟩, (Below.refl _ _).setCell (p := ⟨g, 1, none⟩) (Nat.le_refl _) _⟩
  · have hsz : (w.setCell ⟨g, 1, none⟩ (.slice (some ⟨gl, 0, none⟩) load.length cap)).heap.size = w.heap.size := by simp [World.setCell]
    rw [hsz]
    exact h3.other (fun k hk hne hlt => blk_other (by have := h4 k hk hne; omega) _ _)
  · intro k hk hne
    have := h4 k hk hne
    exact ⟨this.1, by simpa [Value.ownBlock] using this.2⟩
  · exact h5.other (fun k hk _ hlt => blk_other (by omega) _ _)

theorem src_alloc {w : World} {B g : Nat} {pv : Value} {l : List Par} {load : List Int} {st : St} (hs : SrcAt w B g pv l load st) (o : Obj) : SrcAt (w.alloc o) B g pv l load st := by
  obtain ⟨hB, ⟨lv, bv, h1, h2, h3, h4⟩, h5⟩ := hs
  have hb : Below w.heap.size w (w.alloc o) := (Below.refl _ _).alloc (Nat.le_refl _) _
  have hgl : g < w.heap.size := (Array.getElem?_eq_some_iff.1 h1).1
  exact ⟨hB, ⟨lv, bv, by rw [hb.block g hgl]; exact h1, h2.alloc _, (h3.below hb (Nat.le_refl _)).mono (by simp), h4⟩, h5.below hb (by omega)⟩
theorem SrcAt.drew {w : World} {B g : Nat} {pv : Value} {l : List Par} {load : List Int} {st : St} (hs : SrcAt w B g pv l load st) : SrcAt w.drew B g pv l load st := ⟨hs.B_le, hs.ex, hs.pars⟩
set_option maxRecDepth 100000 in
set_option maxHeartbeats 4000000 in
theorem visit_any (pv : Value) (l : List Par) (hall : l.all inP = true) (h16 : l.length ≤ 16) (B g : Nat) : ∀ (n k : Nat) (load : List Int) (W V wo : Int) (st : St) (w : World), l.length - k = n → k ≤ l.length → load.length ≤ k → 0 ≤ W → W ≤ 1000000000000 → 0 ≤ V → V ≤ 1000000000000 → 0 ≤ wo → wo ≤ (k : Int) * 1000000000000 → SrcAt w B g pv l load st →
    Calls Try.prog 26 #[.pointer (some ⟨g, 0, none⟩), .int .i64 k, .int .i64 W, .int .i64 V, .int .i64 wo] w fun e w' => e = .returned (.tuple #[]) ∧ SrcAt w' B g pv l load (visit l k load W V wo st) ∧ Below g w w' := by
  intro n
  induction n using Nat.strongRecOn with
  | ind n ih =>
  intro k load W V wo st w hn hk hlo hW0 hW1 hV0 hV1 hw0 hw1 hs
  have HIH := Lib.hid ih; clear ih
  -- the head: the best load is replaced if this one is worth more
  have HS := Lib.hid hs
  obtain ⟨hBg, ⟨lv, bv, hB, hown, hbest, hap⟩, hpars⟩ := hs
  have hgl : g < w.heap.size := (Array.getElem?_eq_some_iff.1 hB).1
  obtain ⟨r0, r1, r2, r3, rf⟩ := blk4 hB
  have f0 := rf 1; have f1 := rf 2; have f2 := rf 3
  have HB := Lib.hid hB
  have HL0 : Hid (Kit.Sl 1 intEnc w w.heap.size lv load) := Lib.hid (hown.sl (fun _ => rfl))
  clear hB hown hbest hap hpars rf
  have tail : ∀ (K : Act → World → Prop) (w0 : World), SrcAt w0 B g pv l load (upd load wo st) → Below g w w0 → True := fun _ _ _ _ => trivial
  clear tail
  by_cases hup : st.2 < wo
  · go_enter Try.func26, Try.ntmps26
    go_wp2_with fail
    refine (clone_any lv load _ w.heap.size (HL0.out.other (fun k hk hne hlt => by
      by_cases e : k = g
      · subst e
        exfalso
        obtain ⟨_, ⟨lv', bv', h1, h2, _⟩, _⟩ := HS.out
        have h3 := HB.out
        rw [h1] at h3
        simp at h3
        obtain ⟨rfl, _⟩ := h3
        have := (World.ownsRow.lt h2 k hk).1
        omega
      · exact blk_other e _ _)) (by omega)).mono ?_
    rintro e w1 ⟨v', rfl, hsl, hb1, hfr⟩
    have hsl2 := hsl
    obtain ⟨ad', cap', rfl, _⟩ := hsl2
    have hsz3 : (w.setCell ⟨g, 3, none⟩ (.int .i64 wo)).heap.size = w.heap.size := by simp [World.setCell]
    rw [hsz3] at hb1 hfr
    have hup1 : upd load wo st = (load, wo) := by unfold upd; rw [if_pos hup]
    have hsup := src_up HS.out hb1 hsl hfr
    rw [← hup1] at hsup
    have HS1 := Lib.hid hsup
    have hB1 : w1.heap[g]? = some (.cells #[pv, lv, bv, .int .i64 wo] 50 (0, 0)) := by
      rw [hb1.block g hgl]; exact blk_set HB.out 3 _
    obtain ⟨q0, q1, q2, q3, qf⟩ := blk4 hB1
    have g0 := qf 2
    clear hsl hfr hb1 hB1 qf r0 r1 r2 r3 f0 f1 f2 HL0 hsz3 hup1 hsup
    go_wp2
    clear q0 q1 q2 q3 g0

    go_loopw [10] (fun i wr => ∃ j : Nat, ∃ s : St, k ≤ j ∧ j ≤ l.length ∧ i = .int .i64 j ∧ SrcAt wr B g pv l load s ∧ visit l k load W V wo st = loop (l.drop j) j load W V wo s ∧ Below g w wr) (fun i _ => l.length - (intOf i).toNat)
    case atStart => exact ⟨k, upd load wo st, Nat.le_refl _, hk, rfl, HS1.out.1, rfl, HS1.out.2⟩
    case round =>
      clear HS1 HS HB
      obtain ⟨j, s, hkj, hjl, rfl, hs, heq, hbr⟩ := hrel
      have HEQ := Lib.hid heq; clear heq
      have HSS := Lib.hid hs
      obtain ⟨_, ⟨lv2, bv2, hB2, hown2, hbest2, hap2⟩, hpars2⟩ := hs
      have hgl2 : g < wr.heap.size := (Array.getElem?_eq_some_iff.1 hB2).1
      obtain ⟨r0, r1, r2, r3, rf⟩ := blk4 hB2
      have f1 := rf 1
      clear rf
      have HB2 := Lib.hid hB2; have HO2 := Lib.hid hown2; have HBE2 := Lib.hid hbest2; have HAP2 := Lib.hid hap2; have HPA2 := Lib.hid hpars2
      clear hB2 hown2 hbest2 hap2 hpars2
      by_cases hlt : j < l.length
      · obtain ⟨b, off, ⟨cap3, hv⟩, hbl, c0, c1, c2⟩ := sl3 HPA2.out j hlt
        have hsm := small_at hall j hlt
        have HST := Lib.hid (loop_step l j hlt load W V wo s)
        subst hv
        have hbg : b ≠ g := by omega
        have jj : (j : Int) < (l.length : Int) := by omega
        generalize l[j] = p at *
        obtain ⟨p1, p2, p3, p4, p5, p6⟩ := hsm
        by_cases hfit : W < p.1 ∨ V < p.2.1
        · have HNX : Hid (visit l k load W V wo st = loop (l.drop (j + 1)) (j + 1) load W V wo s) := by unfold Hid; rw [HEQ.out, HST.out, if_pos hfit]
          have HSA : Hid (SrcAt (wr.alloc (.cells #[.int .i64 p.1, .int .i64 p.2.1, .int .i64 p.2.2] 28)) B g (.slice (some ⟨b, off, none⟩) l.length cap3) l load s) := Lib.hid (src_alloc HSS.out _)
          have HF := Lib.hid hfit; clear hfit
          rcases HF.out with h | h
          · clear HF
            go_wp2
            go_roundw
            case rel => exact ⟨j + 1, s, by omega, by omega, by go_num, HSA.out, HNX.out, hbr.alloc (by omega) _⟩
            case measure => simp [intOf]; omega
          · clear HF
            by_cases h0 : W < p.1
            · go_wp2
              go_roundw
              case rel => exact ⟨j + 1, s, by omega, by omega, by go_num, HSA.out, HNX.out, hbr.alloc (by omega) _⟩
              case measure => simp [intOf]; omega
            · go_wp2
              go_roundw
              case rel => exact ⟨j + 1, s, by omega, by omega, by go_num, HSA.out, HNX.out, hbr.alloc (by omega) _⟩
              case measure => simp [intOf]; omega
        · have w1' : p.1 ≤ W := by omega
          have w2' : p.2.1 ≤ V := by omega
          have HNX : Hid (visit l k load W V wo st = loop (l.drop (j + 1)) (j + 1) load W V wo (visit l (j + 1) (load ++ [(j : Int)]) (W - p.1) (V - p.2.1) (wo + p.2.2) s)) := by unfold Hid; rw [HEQ.out, HST.out, if_neg hfit]
          clear hfit HST HEQ
          have hq : Below wr.heap.size wr (wr.alloc (.cells #[.int .i64 p.1, .int .i64 p.2.1, .int .i64 p.2.2] 28)) := (Below.refl _ _).alloc (Nat.le_refl _) _
          have HQ := Lib.hid hq; clear hq
          go_wp2_with (at_builtin; refine Kit.wp_push T_int (by rfl) _ _ (by rfl) (wr.alloc (.cells #[.int .i64 p.1, .int .i64 p.2.1, .int .i64 p.2.2] 28)) (g + 1) _ _ (by rfl) (HO2.out.alloc _) (j : Int) _ _ (wr.heap.size + 1) (by simp) (by rfl) ?c1 ?c2 ?c3 ?c4 ?_)
          case c1 => rfl
          case c2 => unfold maxLen; omega
          case c3 => omega
          case c4 => simp; omega
          intro gl capl w3 hown3 hb3 hgr3 hsz3 hv3 hgl3 _
          have HP3 := Lib.hid (src_push (j := (j : Int)) hBg HB2.out HO2.out HBE2.out HAP2.out HPA2.out HQ.out (by simp) hown3 hb3 hgr3 (by rcases hv3 with h | h; exact Or.inl h; exact Or.inr (by omega)))
          have hB3 : w3.heap[g]? = some (.cells #[.slice (some ⟨b, off, none⟩) l.length cap3, lv2, bv2, .int .i64 s.2] 50 (0, 0)) := by
            rw [hb3.block g (by omega), HQ.out.block g hgl2]; exact HB2.out
          obtain ⟨t0, t1, t2, t3, tf⟩ := blk4 hB3
          have tf1 := tf 1
          have hpb : w3.heap[wr.heap.size]? = some (.cells #[.int .i64 p.1, .int .i64 p.2.1, .int .i64 p.2.2] 28 (0, 0)) := by
            rw [hgr3.block _ (by simp) (fun e => by have := (World.ownsRow.lt HO2.out wr.heap.size e.symm).2; omega)]
            exact blk_new _ _ _
          obtain ⟨y0, y1, y2, _⟩ := blk3 hpb
          clear hown3 hb3 hgr3 hsz3 hv3 hB3 tf hpb r0 r1 r2 r3 f1 c0 c1 c2
          have hgw : wr.heap.size ≠ g := by omega
          go_wp2_with fail
          refine (HIH.out (l.length - (j + 1)) (by omega) (j + 1) (load ++ [(j : Int)]) (W - p.1) (V - p.2.1) (wo + p.2.2) s _ rfl (by omega) (by rw [List.length_append]; simp; omega) (by omega) (by omega) (by omega) (by omega) (by omega) (by omega) HP3.out.1).mono ?_
          rintro e w4 ⟨rfl, hs4, hb4⟩
          obtain ⟨gl4, cap4, bv4, hB4, hcap4, hs5, hb5⟩ := src_pop hs4
          obtain ⟨t0', t1', t2', t3', tf'⟩ := blk4 hB4
          have tf1' := tf' 1
          have HS5 := Lib.hid hs5
          have HB5 : Hid (Below g w (w4.setCell ⟨g, 1, none⟩ (.slice (some ⟨gl4, 0, none⟩) load.length cap4))) := Lib.hid ((hbr.trans HP3.out.2).trans (hb4.trans hb5))
          clear hs5 hb5 hb4 hs4 hB4 tf' HP3 t0 t1 t2 t3 tf1 y0 y1 y2
          have m1 : (0 : Int) ≤ ((load.length + 1 : Nat) : Int) - 1 := by omega
          have m2 : ((load.length + 1 : Nat) : Int) - 1 ≤ (cap4 : Int) := by omega
          have m3 : (((load.length + 1 : Nat) : Int) - 1).toNat = load.length := by omega
          go_wp2
          go_region
          go_wp2
          go_roundw
          case rel => exact ⟨j + 1, _, by omega, by omega, by go_num, HS5.out.drew, HNX.out, HB5.out.drew⟩
          case measure => simp [intOf]; omega
      · obtain rfl : j = l.length := by omega
        have HFIN : Hid (visit l k load W V wo st = s) := by unfold Hid; rw [HEQ.out, loop_end l _ (Nat.le_refl _)]
        obtain ⟨adp, capp, hvp⟩ : ∃ ad cap, pv = .slice ad l.length cap := by
          obtain ⟨ad, cap, h, _⟩ := HPA2.out
          exact ⟨ad, cap, h⟩
        subst hvp
        go_wp2
        go_end0
        exact ⟨rfl, by rw [HFIN.out]; exact HSS.out, hbr⟩
  · have hup1 : upd load wo st = st := by unfold upd; rw [if_neg hup]
    have HS1 : Hid (SrcAt w B g pv l load (upd load wo st) ∧ Below g w w) := by unfold Hid; rw [hup1]; exact ⟨HS.out, Below.refl _ _⟩
    clear hup1
    go_enter Try.func26, Try.ntmps26
    go_wp2
    clear r0 r1 r2 r3 f0 f1 f2 HL0

    go_loopw [10] (fun i wr => ∃ j : Nat, ∃ s : St, k ≤ j ∧ j ≤ l.length ∧ i = .int .i64 j ∧ SrcAt wr B g pv l load s ∧ visit l k load W V wo st = loop (l.drop j) j load W V wo s ∧ Below g w wr) (fun i _ => l.length - (intOf i).toNat)
    case atStart => exact ⟨k, upd load wo st, Nat.le_refl _, hk, rfl, HS1.out.1, rfl, HS1.out.2⟩
    case round =>
      clear HS1 HS HB
      obtain ⟨j, s, hkj, hjl, rfl, hs, heq, hbr⟩ := hrel
      have HEQ := Lib.hid heq; clear heq
      have HSS := Lib.hid hs
      obtain ⟨_, ⟨lv2, bv2, hB2, hown2, hbest2, hap2⟩, hpars2⟩ := hs
      have hgl2 : g < wr.heap.size := (Array.getElem?_eq_some_iff.1 hB2).1
      obtain ⟨r0, r1, r2, r3, rf⟩ := blk4 hB2
      have f1 := rf 1
      clear rf
      have HB2 := Lib.hid hB2; have HO2 := Lib.hid hown2; have HBE2 := Lib.hid hbest2; have HAP2 := Lib.hid hap2; have HPA2 := Lib.hid hpars2
      clear hB2 hown2 hbest2 hap2 hpars2
      by_cases hlt : j < l.length
      · obtain ⟨b, off, ⟨cap3, hv⟩, hbl, c0, c1, c2⟩ := sl3 HPA2.out j hlt
        have hsm := small_at hall j hlt
        have HST := Lib.hid (loop_step l j hlt load W V wo s)
        subst hv
        have hbg : b ≠ g := by omega
        have jj : (j : Int) < (l.length : Int) := by omega
        generalize l[j] = p at *
        obtain ⟨p1, p2, p3, p4, p5, p6⟩ := hsm
        by_cases hfit : W < p.1 ∨ V < p.2.1
        · have HNX : Hid (visit l k load W V wo st = loop (l.drop (j + 1)) (j + 1) load W V wo s) := by unfold Hid; rw [HEQ.out, HST.out, if_pos hfit]
          have HSA : Hid (SrcAt (wr.alloc (.cells #[.int .i64 p.1, .int .i64 p.2.1, .int .i64 p.2.2] 28)) B g (.slice (some ⟨b, off, none⟩) l.length cap3) l load s) := Lib.hid (src_alloc HSS.out _)
          have HF := Lib.hid hfit; clear hfit
          rcases HF.out with h | h
          · clear HF
            go_wp2
            go_roundw
            case rel => exact ⟨j + 1, s, by omega, by omega, by go_num, HSA.out, HNX.out, hbr.alloc (by omega) _⟩
            case measure => simp [intOf]; omega
          · clear HF
            by_cases h0 : W < p.1
            · go_wp2
              go_roundw
              case rel => exact ⟨j + 1, s, by omega, by omega, by go_num, HSA.out, HNX.out, hbr.alloc (by omega) _⟩
              case measure => simp [intOf]; omega
            · go_wp2
              go_roundw
              case rel => exact ⟨j + 1, s, by omega, by omega, by go_num, HSA.out, HNX.out, hbr.alloc (by omega) _⟩
              case measure => simp [intOf]; omega
        · have w1' : p.1 ≤ W := by omega
          have w2' : p.2.1 ≤ V := by omega
          have HNX : Hid (visit l k load W V wo st = loop (l.drop (j + 1)) (j + 1) load W V wo (visit l (j + 1) (load ++ [(j : Int)]) (W - p.1) (V - p.2.1) (wo + p.2.2) s)) := by unfold Hid; rw [HEQ.out, HST.out, if_neg hfit]
          clear hfit HST HEQ
          have hq : Below wr.heap.size wr (wr.alloc (.cells #[.int .i64 p.1, .int .i64 p.2.1, .int .i64 p.2.2] 28)) := (Below.refl _ _).alloc (Nat.le_refl _) _
          have HQ := Lib.hid hq; clear hq
          go_wp2_with (at_builtin; refine Kit.wp_push T_int (by rfl) _ _ (by rfl) (wr.alloc (.cells #[.int .i64 p.1, .int .i64 p.2.1, .int .i64 p.2.2] 28)) (g + 1) _ _ (by rfl) (HO2.out.alloc _) (j : Int) _ _ (wr.heap.size + 1) (by simp) (by rfl) ?c1 ?c2 ?c3 ?c4 ?_)
          case c1 => rfl
          case c2 => unfold maxLen; omega
          case c3 => omega
          case c4 => simp; omega
          intro gl capl w3 hown3 hb3 hgr3 hsz3 hv3 hgl3 _
          have HP3 := Lib.hid (src_push (j := (j : Int)) hBg HB2.out HO2.out HBE2.out HAP2.out HPA2.out HQ.out (by simp) hown3 hb3 hgr3 (by rcases hv3 with h | h; exact Or.inl h; exact Or.inr (by omega)))
          have hB3 : w3.heap[g]? = some (.cells #[.slice (some ⟨b, off, none⟩) l.length cap3, lv2, bv2, .int .i64 s.2] 50 (0, 0)) := by
            rw [hb3.block g (by omega), HQ.out.block g hgl2]; exact HB2.out
          obtain ⟨t0, t1, t2, t3, tf⟩ := blk4 hB3
          have tf1 := tf 1
          have hpb : w3.heap[wr.heap.size]? = some (.cells #[.int .i64 p.1, .int .i64 p.2.1, .int .i64 p.2.2] 28 (0, 0)) := by
            rw [hgr3.block _ (by simp) (fun e => by have := (World.ownsRow.lt HO2.out wr.heap.size e.symm).2; omega)]
            exact blk_new _ _ _
          obtain ⟨y0, y1, y2, _⟩ := blk3 hpb
          clear hown3 hb3 hgr3 hsz3 hv3 hB3 tf hpb r0 r1 r2 r3 f1 c0 c1 c2
          have hgw : wr.heap.size ≠ g := by omega
          go_wp2_with fail
          refine (HIH.out (l.length - (j + 1)) (by omega) (j + 1) (load ++ [(j : Int)]) (W - p.1) (V - p.2.1) (wo + p.2.2) s _ rfl (by omega) (by rw [List.length_append]; simp; omega) (by omega) (by omega) (by omega) (by omega) (by omega) (by omega) HP3.out.1).mono ?_
          rintro e w4 ⟨rfl, hs4, hb4⟩
          obtain ⟨gl4, cap4, bv4, hB4, hcap4, hs5, hb5⟩ := src_pop hs4
          obtain ⟨t0', t1', t2', t3', tf'⟩ := blk4 hB4
          have tf1' := tf' 1
          have HS5 := Lib.hid hs5
          have HB5 : Hid (Below g w (w4.setCell ⟨g, 1, none⟩ (.slice (some ⟨gl4, 0, none⟩) load.length cap4))) := Lib.hid ((hbr.trans HP3.out.2).trans (hb4.trans hb5))
          clear hs5 hb5 hb4 hs4 hB4 tf' HP3 t0 t1 t2 t3 tf1 y0 y1 y2
          have m1 : (0 : Int) ≤ ((load.length + 1 : Nat) : Int) - 1 := by omega
          have m2 : ((load.length + 1 : Nat) : Int) - 1 ≤ (cap4 : Int) := by omega
          have m3 : (((load.length + 1 : Nat) : Int) - 1).toNat = load.length := by omega
          go_wp2
          go_region
          go_wp2
          go_roundw
          case rel => exact ⟨j + 1, _, by omega, by omega, by go_num, HS5.out.drew, HNX.out, HB5.out.drew⟩
          case measure => simp [intOf]; omega
      · obtain rfl : j = l.length := by omega
        have HFIN : Hid (visit l k load W V wo st = s) := by unfold Hid; rw [HEQ.out, loop_end l _ (Nat.le_refl _)]
        obtain ⟨adp, capp, hvp⟩ : ∃ ad cap, pv = .slice ad l.length cap := by
          obtain ⟨ad, cap, h, _⟩ := HPA2.out
          exact ⟨ad, cap, h⟩
        subst hvp
        go_wp2
        go_end0
        exact ⟨rfl, by rw [HFIN.out]; exact HSS.out, hbr⟩
end Go.Proofs.Ytcipnajdbafahaa.Tk
