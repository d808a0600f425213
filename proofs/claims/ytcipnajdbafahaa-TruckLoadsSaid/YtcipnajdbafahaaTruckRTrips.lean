/- The walk of the reference's Trips. -/
import Derived.Test.YtcipnajdbafahaaTruckRBest
import Derived.Test.YtcipnajdbafahaaTruckTripsR
import Derived.Test.YtcipnajdbafahaaTruckTrips2
namespace Go.Proofs.Ytcipnajdbafahaa.Tk
set_option linter.unusedVariables false
set_option linter.unusedSimpArgs false
open Go.RowKit

theorem flat_bool : ∀ l : List Bool, l.flatMap boolEnc = l.map Value.bool
  | [] => rfl
  | b :: l => by simp only [List.flatMap_cons, List.map_cons, flat_bool l]; rfl
theorem own_store {w : World} {B g cap n : Nat} {fl : List Bool} (h : Kit.Own 4 1 boolEnc w B (.slice (some ⟨g, 0, none⟩) n cap) fl) (m : Nat) (b : Bool) :
    Kit.Own 4 1 boolEnc (w.setCell ⟨g, m, none⟩ (.bool b)) B (.slice (some ⟨g, 0, none⟩) n cap) (fl.set m b) := by
  obtain ⟨h1, h2⟩ := h
  rw [flat_bool] at h1 h2
  refine ⟨by rw [flat_bool]; simp, ?_⟩
  rcases h2 with ⟨h2, _⟩ | ⟨g', cap', cur, hv, hg, hh, hc1, hc2, hc3, htk⟩
  · simp at h2
  · simp only [Value.slice.injEq, Option.some.injEq, Addr.mk.injEq] at hv
    obtain ⟨⟨rfl, _, _⟩, rfl, rfl⟩ := hv
    refine Or.inr ⟨g, cap, cur.setIfInBounds m (.bool b), by rw [List.length_set], hg, blk_set hh m _, by rw [List.length_set]; exact hc1, hc2, by simpa using hc3, ?_⟩
    rw [flat_bool, List.map_set, ← htk, List.length_set, Array.toList_setIfInBounds, List.take_set]
theorem own_thaw {w : World} {B g cap n : Nat} {fl : List Bool} (h : Kit.Own 4 1 boolEnc w B (.slice (some ⟨g, 0, none⟩) n cap) fl) (m : Nat) : w.frozen? ⟨g, m, none⟩ = false := by
  rcases h.2 with ⟨h2, _⟩ | ⟨g', cap', cur, hv, hg, hh, _⟩
  · simp at h2
  · simp only [Value.slice.injEq, Option.some.injEq, Addr.mk.injEq] at hv
    obtain ⟨⟨rfl, _, _⟩, rfl, rfl⟩ := hv
    simp [World.frozen?, hh]

/-- a slice of slices, all from block B on -/
def TripsFar (w : World) (B : Nat) (tv : Value) (ls : List (List Int)) : Prop :=
  ∃ vs : List SV, Kit.Own 25 1 slEnc w B tv vs ∧ vs.length = ls.length ∧ ∀ i (h1 : i < vs.length) (h2 : i < ls.length), (Kit.Sl 1 intEnc w w.heap.size (.slice vs[i].1 vs[i].2.1 vs[i].2.2) ls[i] ∧ ∀ k, (Value.slice vs[i].1 vs[i].2.1 vs[i].2.2).ownBlock = some k → ls[i] ≠ [] → tv.ownBlock ≠ some k) ∧ ∀ k, (Value.slice vs[i].1 vs[i].2.1 vs[i].2.2).ownBlock = some k → B ≤ k
theorem TripsFar.at {w : World} {B B' : Nat} {tv : Value} {ls : List (List Int)} (h : TripsFar w B tv ls) (hB : B' ≤ B) : TripsAt w B' tv ls := by
  obtain ⟨vs, h1, h2, h3⟩ := h
  exact ⟨vs, h1.mono hB, h2, fun i a b => (h3 i a b).1⟩
theorem TripsFar.nil (w : World) (B : Nat) : TripsFar w B (.slice none 0 0) [] := ⟨[], Kit.Own.nil _ _, rfl, fun i h => absurd h (by simp)⟩
theorem TripsFar.below {w w' : World} {B : Nat} {tv : Value} {ls : List (List Int)} (h : TripsFar w B tv ls) (hb : Below w.heap.size w w') : TripsFar w' B tv ls := by
  obtain ⟨vs, h1, h2, h3⟩ := h
  exact ⟨vs, h1.below' hb, h2, fun i a b => ⟨⟨((h3 i a b).1.1.below hb (Nat.le_refl _)).mono hb.size, (h3 i a b).1.2⟩, (h3 i a b).2⟩⟩
theorem TripsFar.set {w : World} {B g : Nat} {tv : Value} {ls : List (List Int)} (h : TripsFar w B tv ls) (hg : g < B) (j : Nat) (u : Value) : TripsFar (w.setCell ⟨g, j, none⟩ u) B tv ls := by
  obtain ⟨vs, h1, h2, h3⟩ := h
  have hsz : (w.setCell ⟨g, j, none⟩ u).heap.size = w.heap.size := by simp [World.setCell]
  refine ⟨vs, ownsRow_setCell_below h1 hg u, h2, fun i a b => ⟨⟨?_, (h3 i a b).1.2⟩, (h3 i a b).2⟩⟩
  rw [hsz]
  exact (h3 i a b).1.1.other (fun k hk _ _ => blk_other (by have := (h3 i a b).2 k hk; omega) _ _)
theorem TripsFar.len {w : World} {B : Nat} {tv : Value} {ls : List (List Int)} (h : TripsFar w B tv ls) : ∃ a c, tv = .slice a ls.length c := by
  obtain ⟨vs, h1, h2, _⟩ := h
  obtain ⟨a, c, h, _⟩ := h1.sl (fun _ => rfl)
  exact ⟨a, c, by rw [← h2]; exact h⟩
theorem TripsFar.push {w wq : World} {B : Nat} {tv : Value} {ls : List (List Int)} (h : TripsFar w B tv ls)
    (hq : Below w.heap.size w wq) {a : Option Addr} {n c : Nat} {load : List Int} (hload : Kit.Sl 1 intEnc wq wq.heap.size (.slice a n c) load) (hnew : ∀ k, (Value.slice a n c).ownBlock = some k → w.heap.size ≤ k) (hBw : B ≤ w.heap.size) :
    ∃ vs : List SV, vs.length = ls.length ∧ Kit.Own 25 1 slEnc wq B tv vs ∧ ∀ (w' : World) (g cap : Nat), Kit.Own 25 1 slEnc w' B (.slice (some ⟨g, 0, none⟩) (vs.length + 1) cap) (vs ++ [(a, n, c)]) → wq.grownBy w' tv.ownBlock → (tv.ownBlock = some g ∨ g = wq.heap.size + 1) →
      TripsFar w' B (.slice (some ⟨g, 0, none⟩) (vs.length + 1) cap) (ls ++ [load]) := by
  obtain ⟨vs, h0, h1, h2⟩ := h
  have hqs := hq.size
  have hlt : ∀ k, tv.ownBlock = some k → k < w.heap.size := fun k hk => (World.ownsRow.lt h0 k hk).2
  refine ⟨vs, h1, h0.below' hq, ?_⟩
  intro w' g cap ho hgr hv
  refine ⟨_, ho, by simp [h1], ?_⟩
  intro i a1 a2
  by_cases hi : i < vs.length
  · have hi2 : i < ls.length := by omega
    rw [List.getElem_append_left hi, List.getElem_append_left hi2]
    obtain ⟨⟨b1, b2⟩, b3⟩ := h2 i hi hi2
    refine ⟨⟨?_, ?_⟩, b3⟩
    · refine (b1.other (fun k hk hne hlt => ?_)).mono (Nat.le_trans hqs hgr.size)
      rw [hgr.block k (by omega) (Ne.symm (b2 k hk hne)), hq.block k hlt]
    · intro k hk hne e
      simp [Value.ownBlock] at e
      subst e
      rcases hv with hv | hv
      · exact b2 g hk hne hv
      · obtain ⟨ad, cp, he, _, h⟩ := b1
        rcases h with h | ⟨b, off, he2, hb, _⟩
        · exact hne h
        · rw [he, he2] at hk
          simp [Value.ownBlock] at hk; omega
  · have e1 : i = vs.length := by simp at a1; omega
    subst e1
    have e2 : (vs ++ [(a, n, c)])[vs.length] = (a, n, c) := by simp
    have e3 : (ls ++ [load])[vs.length] = load := by simp [h1]
    rw [e2, e3]
    refine ⟨⟨?_, ?_⟩, fun k hk => Nat.le_trans hBw (hnew k hk)⟩
    · refine (hload.other (fun k hk hne hlt' => ?_)).mono hgr.size
      refine hgr.block k hlt' (fun e => ?_)
      have := hnew k hk
      have := hlt k e.symm
      omega
    · intro k hk hne e
      simp [Value.ownBlock] at e
      subst e
      have := hnew g hk
      rcases hv with hv | hv
      · have := hlt g hv; omega
      · obtain ⟨ad, cp, he, _, h⟩ := hload
        rcases h with h | ⟨b, off, he2, hb, _⟩
        · exact hne h
        · rw [he, he2] at hk
          simp [Value.ownBlock] at hk; omega

theorem asc_at {n : Nat} {a : List Int} (h : Asc n 0 a) (k : Nat) (hk : k < a.length) : ∃ m : Nat, a[k] = (m : Int) ∧ m < n := by
  obtain ⟨m, e, _, h⟩ := h.mem _ (List.getElem_mem hk)
  exact ⟨m, e, h⟩

set_option maxRecDepth 100000 in
set_option maxHeartbeats 4000000 in
theorem rtrips_any (v : Value) (l : List Par) (W V : Int) (w : World) (hl : Kit.Sl 3 parEnc w w.heap.size v l) (hn : l.length ≤ 1000000) :
    Calls Try.prog 19 #[v, .int .i64 W, .int .i64 V] w (TripsPost l W V w) := by
  have HL := Lib.hid hl
  obtain ⟨ad, cap, rfl, hcap, _⟩ := hl
  by_cases hc : checkOf l W V = 0
  · have hr : tripsRes l W V = (tripsOf l W V, 0) := by unfold tripsRes; rw [if_pos hc]
    have HR := Lib.hid hr
    obtain ⟨z1, z2, z3, z4⟩ := check_zero hc
    have HG := Lib.hid (good_of_all z4)
    have Z4 := Lib.hid z4
    have HW := Lib.hid (inR_true z2).1; have HV := Lib.hid (inR_true z3).1
    have HC := Lib.hid hc
    clear hc hr z2 z3 z4
    go_enter Try.func19, Try.ntmps19
    go_wp2_with fail
    refine (rcheck_any _ l W V _ HL.out hn).mono ?_
    rintro e w1 ⟨rfl, rfl⟩
    rw [HC.out]
    go_wp2_with fail
    refine (all_any l.length _ hn).mono ?_
    rintro e w2 ⟨lv, rfl, hown, hb2⟩
    have HLB : Hid (∀ k, lv.ownBlock = some k → k < w2.heap.size) := fun k hk => (World.ownsRow.lt hown k hk).2
    have HO2 := Lib.hid hown
    obtain ⟨adl, capl, hvl, _⟩ := hown.sl (fun _ => rfl)
    rw [List.length_replicate] at hvl
    subst hvl
    clear hown
    have hsz2 := hb2.size
    go_wp2
    go_loopw [10, 11, 12, 13] (fun tv i _ _ wr => ∃ (k n : Nat) (left : List Int) (fl : List Bool) (done : List (List Int)), k ≤ l.length ∧ i = .int .i64 k ∧ Asc l.length 0 left ∧ Flag l fl left ∧ left.length < n ∧ left.length + k ≤ l.length ∧ done.length ≤ k ∧ tripsOf l W V = done ++ tripsGo l W V n left ∧ TripsFar wr w2.heap.size tv done ∧ Kit.Own 4 1 boolEnc wr w.heap.size (.slice adl l.length capl) fl ∧ Below w.heap.size w wr ∧ w2.heap.size ≤ wr.heap.size) (fun _ i _ _ _ => l.length - (intOf i).toNat)
    case atStart => exact ⟨0, l.length + 1, upto l.length, _, [], by omega, rfl, upto_asc _, Flag.start l, by rw [upto_len]; omega, by rw [upto_len]; omega, by simp, rfl, TripsFar.nil _ _, HO2.out, hb2, Nat.le_refl _⟩
    case round =>
      clear HO2
      obtain ⟨k, n, left, fl, done, hk, rfl, hasc, hflag, hln, hlk, hdk, heq, htr, hown, hbr, hsr⟩ := hrel
      have HAS := Lib.hid hasc; have HFL := Lib.hid hflag; have HEQ := Lib.hid heq; have HTR := Lib.hid htr; have HOW := Lib.hid hown
      clear hasc hflag heq htr hown
      have hszr := hbr.size
      by_cases hlt : k < l.length
      · have HFLN := Lib.hid HFL.out.1
        have HSL := Lib.hid (HOW.out.sl (fun _ => rfl))
        have HTE := Lib.hid (trip_eq HG.out HW.out HV.out HAS.out HFL.out)
        go_wp2_with fail
        refine (rbest_any _ _ l fl W V _ (HL.out.below hbr (Nat.le_refl _) |>.mono hszr) z1 Z4.out HSL.out HFLN.out HW.out HV.out).mono ?_
        rintro e w3 ⟨xv, rfl, hxs, hxf, hb3⟩
        rw [HTE.out] at hxs
        have hgo : tripsGo l W V n left = if bestOf (parOf l left) W V = [] then [] else picks (bestOf (parOf l left) W V) true 0 left :: tripsGo l W V (n - 1) (picks (bestOf (parOf l left) W V) false 0 left) := by
          obtain ⟨n', rfl⟩ : ∃ n', n = n' + 1 := ⟨n - 1, by omega⟩
          rfl
        have HGO := Lib.hid hgo; clear hgo
        have hval : ∀ x ∈ left, ∃ m : Nat, x = (m : Int) ∧ m < l.length := fun x hx => by obtain ⟨m, e, _, h⟩ := HAS.out.mem x hx; exact ⟨m, e, h⟩
        have HPO : Hid (bestOf (parOf l left) W V ≠ [] → picks (bestOf (parOf l left) W V) true 0 left ≠ []) := fun h => best_pos HG.out HW.out HV.out hval h
        have HRL : Hid (bestOf (parOf l left) W V ≠ [] → (picks (bestOf (parOf l left) W V) false 0 left).length < left.length) := fun h => rest_lt HG.out HW.out HV.out hval h
        clear hval HTE HSL
        generalize bestOf (parOf l left) W V = best at *
        have HXA := Lib.hid (picks_asc best true left 0 0 HAS.out)
        have HNF := Lib.hid (HFL.out.next (best := best) HAS.out)
        have HXS := Lib.hid hxs; have HXF := Lib.hid hxf
        have hb3' := hbr.trans (hb3.mono hszr)
        have hsz3 := hb3.size
        obtain ⟨adx, capx, rfl, hcapx, _⟩ := hxs
        clear hxf
        by_cases hbe : best = []
        · subst hbe
          have hx0 : picks [] true 0 left = [] := by rw [picks_map left 0 [] trivial]; rfl
          have HFIN : Hid (tripsRes l W V = (done, 0)) := by unfold Hid; rw [HR.out, HEQ.out, HGO.out]; simp
          have hbl0 : (picks [] true 0 left).length = 0 := by rw [hx0]; rfl
          have HTB := Lib.hid (HTR.out.below hb3)
          rw [hbl0]
          clear hx0 hbl0 HXS hcapx
          obtain ⟨at', ct', hvt⟩ := HTR.out.len
          subst hvt
          go_wp2
          go_ret2
          show TripsPost _ _ _ _ _ _
          unfold TripsPost
          rw [HFIN.out]
          exact ⟨_, rfl, HTB.out.at hsz2, hb3'⟩
        · have HNE := Lib.hid hbe
          have hxne := HPO.out hbe
          have HREST := Lib.hid (HRL.out hbe)
          have HNX : Hid (tripsOf l W V = (done ++ [picks best true 0 left]) ++ tripsGo l W V (n - 1) (picks best false 0 left)) := by unfold Hid; rw [HEQ.out, HGO.out, if_neg HNE.out, List.append_assoc]; rfl
          have HRA := Lib.hid (picks_asc best false left 0 0 HAS.out)
          have HXL : Hid ((picks best true 0 left).length ≤ 16) := by
            have := picks_len_le best true left 0
            unfold Hid; omega
          clear hbe HRL HPO HGO HEQ
          generalize picks best true 0 left = x at *
          generalize picks best false 0 left = rest at *
          have hxl : 0 < x.length := List.length_pos_iff.2 hxne
          have hx16 : x.length ≤ 16 := HXL.out
          have hbl1 : ((x.length : Int) == 0) = false := by simp; omega
          have hbl2 : x.length ≠ 0 := by omega
          have hflen : fl.length = l.length := HFLN.out
          obtain ⟨g, hgad⟩ : ∃ g, adl = some ⟨g, 0, none⟩ := by
            rcases HOW.out.form with ⟨_, h⟩ | ⟨g, cp, h, _⟩
            · rw [h] at hflen; simp at hflen; omega
            · exact ⟨g, (Value.slice.inj h).1⟩
          subst hgad
          have hgB : g < w2.heap.size := HLB.out g rfl
          have hgw : w.heap.size ≤ g := (World.ownsRow.lt HOW.out g rfl).1
          obtain ⟨vs, hvl, hvo, hpush⟩ := HTR.out.push hb3 HXS.out (fun k hk => Nat.le_of_lt (HXF.out k hk)) hsr
          have HUB : Hid (∀ k, u10.ownBlock = some k → w2.heap.size ≤ k ∧ k < wr.heap.size) := fun k hk => by
            obtain ⟨vs', h1, _⟩ := HTR.out
            exact World.ownsRow.lt h1 k hk
          have HVO := Lib.hid hvo; have HPU := Lib.hid hpush
          clear hvo hpush hflen hxne
          obtain ⟨at', ct', hvt⟩ := HTR.out.len
          rw [← hvl] at hvt
          subst hvt
          have hvs16 : vs.length ≤ 16 := by omega
          have HVL := Lib.hid hvl; clear hvl
          have hB3 : w2.heap.size ≤ w3.heap.size := by omega
          go_wp2_with (at_builtin; refine Kit.wp_push T_sl (by rfl) _ _ (by rfl) w3 w2.heap.size _ _ (by rfl) HVO.out (adx, x.length, capx) _ _ w3.heap.size rfl (by rfl) ?c1 ?c2 ?c3 hB3 ?_)
          case c1 => rfl
          case c2 => unfold maxLen; omega
          case c3 => omega
          intro g7 cap7 w7 hown7 hb7 hgr7 hsz7 hv7 hgl7 _
          have HT7 := Lib.hid (HPU.out w7 g7 cap7 hown7 hgr7 hv7)
          have HO7 : Hid (Kit.Own 4 1 boolEnc w7 w.heap.size (.slice (some ⟨g, 0, none⟩) l.length capl) fl) := by
            refine Lib.hid ((HOW.out.below' hb3).kept hgr7 (Or.inr ?_))
            intro e
            have := (HUB.out g e.symm).1
            omega
          have HX7 : Hid (Kit.Sl 1 intEnc w7 w7.heap.size (.slice adx x.length capx) x) := by
            refine Lib.hid ((HXS.out.other (w' := w7) (fun k hk hne hlt => hgr7.block k hlt (fun e => ?_))).mono (Nat.le_of_lt hsz7))
            have h1 := (HUB.out k e.symm).2
            have h2 := HXF.out k hk
            omega
          have hb7' := hb3'.trans (hb7.mono hsz2)
          clear hown7 hgr7 hv7 HPU HVO HUB HTR HOW
          go_wp2
          go_loopw [13] (fun i wr => ∃ j : Nat, j ≤ x.length ∧ i = .int .i64 j ∧ TripsFar wr w2.heap.size (.slice (some ⟨g7, 0, none⟩) (vs.length + 1) cap7) (done ++ [x]) ∧ Kit.Own 4 1 boolEnc wr w.heap.size (.slice (some ⟨g, 0, none⟩) l.length capl) (clr fl (x.take j)) ∧ Kit.Sl 1 intEnc wr wr.heap.size (.slice adx x.length capx) x ∧ Below w.heap.size w wr ∧ w2.heap.size ≤ wr.heap.size) (fun i _ => x.length - (intOf i).toNat)
          case atStart => exact ⟨0, by omega, rfl, HT7.out, HO7.out, HX7.out, hb7', by omega⟩
          case round =>
            clear HT7 HO7 HX7
            obtain ⟨j, hj, rfl, ht5, ho5, hx5, hb5, hs5⟩ := hrel
            have HT5 := Lib.hid ht5; have HO5 := Lib.hid ho5; have HX5 := Lib.hid hx5
            clear ht5 ho5 hx5
            by_cases hjl : j < x.length
            · obtain ⟨bx, offx, ⟨capx', hvx⟩, _, cx⟩ := sl1 HX5.out j hjl
              obtain rfl : adx = some ⟨bx, offx, none⟩ := (Value.slice.inj hvx).1
              clear hvx
              obtain ⟨m, em, hm⟩ := asc_at HXA.out j hjl
              have HTK : Hid (clr fl (x.take (j + 1)) = (clr fl (x.take j)).set m false) := by unfold Hid; rw [take_snoc' x j hjl, clr_snoc, em]; rfl
              rw [em] at cx
              clear em
              have hcl : m < (clr fl (x.take j)).length := by rw [clr_len, HFLN.out]; exact hm
              obtain ⟨bg, offg, ⟨capg, hvg⟩, _, cg⟩ := slb (HO5.out.sl (fun _ => rfl)) m hcl
              obtain ⟨rfl, rfl, _⟩ := Addr.mk.inj (Option.some.inj (Value.slice.inj hvg).1)
              rw [Nat.zero_add] at cg
              have cf := own_thaw HO5.out m
              have HBX : Hid (bx ≠ g) := by
                have := HXF.out bx rfl
                unfold Hid; omega
              generalize (clr fl (x.take j))[m] = old at *
              have j0 : (0 : Int) ≤ (j : Int) := by omega
              have m0 : (0 : Int) ≤ (m : Int) := by omega
              have m1 : (m : Int) < (l.length : Int) := by omega
              clear hvg hcl
              go_wp2
              go_roundw
              case rel =>
                refine ⟨j + 1, by omega, by go_num, HT5.out.set hgB _ _, by rw [HTK.out]; exact own_store HO5.out m false, ?_, hb5.setCell (p := ⟨g, m, none⟩) hgw _, by simpa [World.setCell] using hs5⟩
                have hsz : (wr.setCell ⟨g, m, none⟩ (.bool false)).heap.size = wr.heap.size := by simp [World.setCell]
                rw [hsz]
                exact HX5.out.other (fun k hk _ _ => blk_other (by simp [Value.ownBlock] at hk; rw [← hk]; exact HBX.out) _ _)
              case measure => simp [intOf]; omega
            · obtain rfl : j = x.length := by omega
              have ho := HO5.out
              rw [List.take_length] at ho
              have HO6 := Lib.hid ho; clear ho
              have hrl := HREST.out
              go_wp2
              go_roundw
              case rel => exact ⟨k + 1, n - 1, rest, clr fl x, done ++ [x], by omega, by go_num, HRA.out, HNF.out, by omega, by omega, by simp; omega, HNX.out, HT5.out, HO6.out, hb5, hs5⟩
              case measure => simp [intOf]; omega
      · obtain rfl : k = l.length := by omega
        have hl0 : left = [] := List.eq_nil_of_length_eq_zero (by omega)
        subst hl0
        have HFIN : Hid (tripsRes l W V = (done, 0)) := by unfold Hid; rw [HR.out, HEQ.out, trips_nil]; simp
        obtain ⟨at', ct', hvt⟩ := HTR.out.len
        subst hvt
        go_wp2
        go_ret2
        show TripsPost _ _ _ _ _ _
        unfold TripsPost
        rw [HFIN.out]
        exact ⟨_, rfl, HTR.out.at hsz2, hbr⟩
  · have hr : tripsRes l W V = ([], checkOf l W V) := by unfold tripsRes; rw [if_neg hc]
    have HR := Lib.hid hr
    have hc1 : (checkOf l W V != 0) = true := by simp [hc]
    clear hc hr
    generalize hcc : checkOf l W V = c at *
    have HCC := Lib.hid hcc; clear hcc
    go_enter Try.func19, Try.ntmps19
    go_wp2_with fail
    refine (rcheck_any _ l W V _ HL.out hn).mono ?_
    rintro e w1 ⟨rfl, rfl⟩
    rw [HCC.out]
    go_wp2
    go_ret2
    show TripsPost _ _ _ _ _ _
    unfold TripsPost
    rw [HR.out]
    exact ⟨_, rfl, TripsAt.nil _ _, Below.refl _ _⟩
end Go.Proofs.Ytcipnajdbafahaa.Tk
