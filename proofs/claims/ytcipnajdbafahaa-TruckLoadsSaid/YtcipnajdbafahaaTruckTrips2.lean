/- The walk of Trips. -/
import Derived.Test.YtcipnajdbafahaaTruckTrips
namespace Go.Proofs.Ytcipnajdbafahaa.Tk
set_option linter.unusedVariables false
set_option linter.unusedSimpArgs false
open Go.RowKit

def lenV : Value → Nat
  | .slice _ n _ => n
  | _ => 0
def TripsPost (l : List Par) (W V : Int) (w : World) (e : Ending) (w' : World) : Prop :=
  ∃ v', e = .returned (.tuple #[v', .int .i64 (tripsRes l W V).2]) ∧ TripsAt w' w.heap.size v' (tripsRes l W V).1 ∧ Below w.heap.size w w'

/-- two slices of the call's own, in rows apart -/
def Two (w : World) (B : Nat) (a b : Value) (la lb : List Int) : Prop :=
  Kit.Own 3 1 intEnc w B a la ∧ Kit.Own 3 1 intEnc w B b lb ∧ (a.ownBlock = none ∨ a.ownBlock ≠ b.ownBlock)
theorem Two.left {wr w' : World} {B : Nat} {a b : Value} {la lb : List Int} (h : Two wr B a b la lb) {g cap n : Nat} {x : Int} (ho : Kit.Own 3 1 intEnc w' B (.slice (some ⟨g, 0, none⟩) n cap) (la ++ [x])) (hgr : wr.grownBy w' a.ownBlock) (hv : a.ownBlock = some g ∨ g = wr.heap.size + 1) :
    Two w' B (.slice (some ⟨g, 0, none⟩) n cap) b (la ++ [x]) lb := by
  obtain ⟨h1, h2, h3⟩ := h
  refine ⟨ho, h2.kept hgr ?_, ?_⟩
  · rcases h3 with h3 | h3
    · rw [h3]
      cases hb : b.ownBlock with
      | none => exact Or.inl rfl
      | some k => exact Or.inr (by simp)
    · exact Or.inr (Ne.symm h3)
  · right
    simp only [Value.ownBlock]
    intro e
    rcases hv with hv | hv
    · rcases h3 with h3 | h3
      · rw [h3] at hv; simp at hv
      · exact h3 (hv.trans e)
    · have := (World.ownsRow.lt h2 g e.symm).2
      omega
theorem Two.swap {w : World} {B : Nat} {a b : Value} {la lb : List Int} (h : Two w B a b la lb) : Two w B b a lb la := by
  obtain ⟨h1, h2, h3⟩ := h
  refine ⟨h2, h1, ?_⟩
  cases hb : b.ownBlock with
  | none => exact Or.inl rfl
  | some k =>
    right
    rcases h3 with h3 | h3
    · rw [h3]; simp
    · rw [hb] at h3; exact Ne.symm h3

theorem own_val {w : World} {B : Nat} {v : Value} {l : List Int} (h : Kit.Own 3 1 intEnc w B v l) : ∃ ad cap, v = .slice ad l.length cap := by
  obtain ⟨ad, cap, h, _⟩ := h.sl (fun _ => rfl)
  exact ⟨ad, cap, h⟩

theorem par_at {l : List Par} {left : List Int} (h : ∀ x ∈ left, ∃ m : Nat, x = (m : Int) ∧ m < l.length) (k : Nat) (hk : k < left.length) : ∃ m : Nat, left[k] = (m : Int) ∧ m < l.length := h _ (List.getElem_mem _)

set_option maxRecDepth 100000 in
set_option maxHeartbeats 4000000 in
theorem trips_any (v : Value) (l : List Par) (W V : Int) (w : World) (hl : Kit.Sl 3 parEnc w w.heap.size v l) (hn : l.length ≤ 1000000) :
    Calls Try.prog 18 #[v, .int .i64 W, .int .i64 V] w (TripsPost l W V w) := by
  have HL := Lib.hid hl
  obtain ⟨ad, cap, rfl, hcap, _⟩ := hl
  by_cases hc : checkOf l W V = 0
  · have hr : tripsRes l W V = (tripsOf l W V, 0) := by unfold tripsRes; rw [if_pos hc]
    have HR := Lib.hid hr
    obtain ⟨z1, z2, z3, z4⟩ := check_zero hc
    have hgood := good_of_all z4
    have HG := Lib.hid hgood
    have Z2 := Lib.hid z2; have Z3 := Lib.hid z3
    have hW := (inR_true z2).1; have hV := (inR_true z3).1
    have HC := Lib.hid hc
    clear hc hr z2 z3 z4 hgood
    go_enter Try.func18, Try.ntmps18
    go_wp2_with fail
    refine (check_any _ l W V _ HL.out hn).mono ?_
    rintro e w1 ⟨rfl, hb1⟩
    rw [HC.out]
    go_wp2
    go_loopw [9, 30] (fun lv i wr => ∃ k : Nat, k ≤ l.length ∧ i = .int .i64 k ∧ Kit.Own 3 1 intEnc wr w.heap.size lv (upto k) ∧ Below w.heap.size w wr) (fun _ i _ => l.length - (intOf i).toNat)
    case atStart => exact ⟨0, by omega, rfl, Kit.Own.nil _ _, hb1⟩
    case round =>
      obtain ⟨k, hk, rfl, hown, hbr⟩ := hrel
      have HO := Lib.hid hown; clear hown
      have hsz := hbr.size
      by_cases hlt : k < l.length
      · have HU := Lib.hid (upto_len k)
        go_wp2_with (at_builtin; refine Kit.wp_push T_int (by rfl) _ _ (by rfl) wr w.heap.size _ _ (by rfl) HO.out (k : Int) _ _ wr.heap.size rfl (by rfl) ?c1 ?c2 ?c3 hsz ?_)
        case c1 => rfl
        case c2 => rw [HU.out]; unfold maxLen; omega
        case c3 => rw [HU.out]; omega
        intro gl capl w3 hown3 hb3 hgr3 hsz3 hv3 hgl3 _
        rw [← upto_snoc] at hown3
        have HO3 := Lib.hid hown3; clear hown3 hgr3 hv3
        go_wp2
        go_roundw
        case rel => exact ⟨k + 1, by omega, by go_num, HO3.out, hbr.trans hb3⟩
        case measure => simp [intOf]; omega
      · obtain rfl : k = l.length := by omega
        obtain ⟨adl, capl, hvl⟩ := own_val HO.out
        have HSL := Lib.hid (HO.out.sl (fun _ => rfl))
        subst hvl
        clear HO
        obtain ⟨wo, rfl⟩ : ∃ wo : World, wo = wr := ⟨_, rfl⟩
        go_wp2
        go_loopw [9, 11] (fun lv tv wr => ∃ (n : Nat) (left : List Int) (done : List (List Int)), Kit.Sl 1 intEnc wr wr.heap.size lv left ∧ TripsAt wr w.heap.size tv done ∧ (∀ x ∈ left, ∃ m : Nat, x = (m : Int) ∧ m < l.length) ∧ left.length < n ∧ left.length ≤ l.length ∧ done.length + n ≤ l.length + 1 ∧ tripsOf l W V = done ++ tripsGo l W V n left ∧ Below w.heap.size w wr) (fun lv _ _ => lenV lv)
        case atStart => exact ⟨l.length + 1, upto l.length, [], HSL.out, TripsAt.nil _ _, upto_mem _, by rw [upto_len]; omega, by rw [upto_len]; omega, by simp, rfl, hbr⟩
        case round =>
          clear HSL
          obtain ⟨n, left, done, hleft, htr, hval, hln, hll, hdn, heq, hbr2⟩ := hrel
          have HLE := Lib.hid hleft; have HTR := Lib.hid htr; have HVA := Lib.hid hval; have HEQ := Lib.hid heq
          obtain ⟨adf, capf, rfl, _⟩ := hleft
          clear htr hval heq
          have hsz2 := hbr2.size
          obtain ⟨wq, rfl⟩ : ∃ wq : World, wq = wr := ⟨_, rfl⟩
          go_wp2
          go_loopw [12, 40] (fun pv i wr => ∃ k : Nat, k ≤ left.length ∧ i = .int .i64 k ∧ Kit.Own 28 3 parEnc wr wq.heap.size pv (parOf l (left.take k)) ∧ Below wq.heap.size wq wr) (fun _ i _ => left.length - (intOf i).toNat)
          case atStart => exact ⟨0, by omega, rfl, Kit.Own.nil _ _, Below.refl _ _⟩
          case round =>
            obtain ⟨k, hk, rfl, hown, hbr3⟩ := hrel
            have HO := Lib.hid hown; clear hown
            have hsz3 := hbr3.size
            by_cases hlt2 : k < left.length
            · obtain ⟨b1, off1, ⟨cap1', hv1⟩, hbl1, c1⟩ := sl1 HLE.out k hlt2
              have hv1' : adf = some ⟨b1, off1, none⟩ := by simpa using congrArg (fun v => match v with | Value.slice a _ _ => a | _ => none) hv1
              subst hv1'
              clear hv1
              rw [← hbr3.cell (p := ⟨b1, off1 + k, none⟩) hbl1] at c1
              obtain ⟨m, hm, hml⟩ := par_at HVA.out k hlt2
              have HSN : Hid (parOf l (left.take (k + 1)) = parOf l (left.take k) ++ [l[m]]) := by unfold Hid; rw [take_snoc' left k hlt2, hm, parOf_snoc l _ m hml]
              rw [hm] at c1
              clear hm
              obtain ⟨b', off', ⟨cap'', hv⟩, hbl', d0, d1, d2⟩ := sl3 HL.out m hml
              have hv' : ad = some ⟨b', off', none⟩ := by simpa using congrArg (fun v => match v with | Value.slice a _ _ => a | _ => none) hv
              subst hv'
              clear hv
              rw [← hbr2.cell (p := ⟨b', off' + m * 3, none⟩) hbl', ← hbr3.cell (p := ⟨b', off' + m * 3, none⟩) (by show b' < wq.heap.size; omega)] at d0
              rw [← hbr2.cell (p := ⟨b', off' + m * 3 + 1, none⟩) hbl', ← hbr3.cell (p := ⟨b', off' + m * 3 + 1, none⟩) (by show b' < wq.heap.size; omega)] at d1
              rw [← hbr2.cell (p := ⟨b', off' + m * 3 + 2, none⟩) hbl', ← hbr3.cell (p := ⟨b', off' + m * 3 + 2, none⟩) (by show b' < wq.heap.size; omega)] at d2
              have HPL : Hid ((parOf l (left.take k)).length ≤ left.length) := by unfold Hid parOf; rw [List.length_map, List.length_take]; omega
              generalize l[m] = p at *
              go_wp2_with (at_builtin; refine Kit.wp_push T_par (by rfl) _ _ (by rfl) wr wq.heap.size _ _ (by rfl) HO.out p _ _ wr.heap.size rfl (by rfl) ?c1 ?c2 ?c3 hsz3 ?_)
              case c1 => rfl
              case c2 => have := HPL.out; unfold maxLen; omega
              case c3 => have := HPL.out; omega
              intro gl capl w3 hown3 hb3 hgr3 hsz3' hv3 hgl3 _
              rw [← HSN.out] at hown3
              have HO3 := Lib.hid hown3; clear hown3 hgr3 hv3
              go_wp2
              go_roundw
              case rel => exact ⟨k + 1, by omega, by go_num, HO3.out, hbr3.trans hb3⟩
              case measure => simp [intOf]; omega
            · obtain rfl : k = left.length := by omega
              have ho := HO.out
              rw [List.take_length] at ho
              have HPS := Lib.hid (ho.sl (fun _ => rfl))
              have hpl : (parOf l left).length = left.length := by simp [parOf]
              have hck : checkOf (parOf l left) W V = 0 := check_of_good (parOf_good HG.out HVA.out) (by omega) Z2.out Z3.out
              have hbr' : bestRes (parOf l left) W V = (bestOf (parOf l left) W V, 0) := by unfold bestRes; rw [if_pos hck]
              have HBR := Lib.hid hbr'
              have hpn : (parOf l left).length ≤ 1000000 := by omega
              have HRL : Hid (bestOf (parOf l left) W V ≠ [] → (picks (bestOf (parOf l left) W V) false 0 left).length < left.length) := fun h => rest_lt HG.out hW hV HVA.out h
              clear HO ho hck hbr' hpl
              go_wp2_with fail
              refine (best_any _ (parOf l left) W V _ HPS.out hpn).mono ?_
              rintro e w4 ⟨bv, rfl, hbs, hb4⟩
              rw [HBR.out] at hbs
              rw [HBR.out]
              clear hpn HPS HBR
              have hb4' : Below wq.heap.size wq w4 := hbr3.trans (hb4.mono hsz3)
              clear hb4
              have hgo : tripsGo l W V n left = if bestOf (parOf l left) W V = [] then [] else picks (bestOf (parOf l left) W V) true 0 left :: tripsGo l W V (n - 1) (picks (bestOf (parOf l left) W V) false 0 left) := by
                obtain ⟨n', rfl⟩ : ∃ n', n = n' + 1 := ⟨n - 1, by omega⟩
                rfl
              have HGO := Lib.hid hgo; clear hgo
              have HBL : Hid ((bestOf (parOf l left) W V).length ≤ 1000000) := by
                have h1 := (bestOf_isBest (parOf_good HG.out HVA.out) hW hV).1.len (Nat.zero_le _)
                have h2 : (parOf l left).length = left.length := by simp [parOf]
                unfold Hid; omega
              generalize bestOf (parOf l left) W V = best at *
              have HBS := Lib.hid hbs
              obtain ⟨adb, capb, rfl, _⟩ := hbs
              by_cases hbe : best = []
              · subst hbe
                have HFIN : Hid (tripsRes l W V = (done, 0)) := by unfold Hid; rw [HR.out, HEQ.out, HGO.out]; simp
                obtain ⟨vs, hvs, hov⟩ := HTR.out.len
                obtain ⟨at', cp', hvt, _⟩ := hov.sl (fun _ => rfl)
                rw [hvs] at hvt
                clear hvs hov
                subst hvt
                go_wp2
                go_ret2
                show TripsPost _ _ _ _ _ _
                unfold TripsPost
                rw [HFIN.out]
                exact ⟨_, rfl, HTR.out.below hb4', hbr2.trans (hb4'.mono hsz2)⟩
              · have hbl1 : ((best.length : Int) == 0) = false := by
                  have : 0 < best.length := List.length_pos_iff.2 hbe
                  simp; omega
                have hbl2 : best.length ≠ 0 := by
                  have : 0 < best.length := List.length_pos_iff.2 hbe
                  omega
                have HNE := Lib.hid hbe
                have HRE := HRL.out hbe
                clear hbe HRL
                have HREST := Lib.hid HRE; clear HRE
                obtain ⟨wb, rfl⟩ : ∃ wb : World, wb = w4 := ⟨_, rfl⟩
                have hlo : left.length ≤ 16 := by omega
                go_wp2
                go_loopw [17, 18, 65] (fun a b i wr => ∃ k : Nat, k ≤ left.length ∧ i = .int .i64 k ∧ Two wr wb.heap.size a b (picks best true 0 (left.take k)) (picks best false 0 (left.take k)) ∧ Below wb.heap.size wb wr) (fun _ _ i _ => left.length - (intOf i).toNat)
                case atStart => exact ⟨0, by omega, rfl, ⟨Kit.Own.nil _ _, Kit.Own.nil _ _, Or.inl rfl⟩, Below.refl _ _⟩
                case round =>
                  obtain ⟨k, hk, rfl, htwo, hbr5⟩ := hrel
                  have HTW := Lib.hid htwo; clear htwo
                  have hsz5 := hbr5.size
                  have hwqb := hb4'.size
                  by_cases hlt3 : k < left.length
                  · obtain ⟨b1, off1, ⟨cap1', hv1⟩, hbl1, c1⟩ := sl1 HLE.out k hlt3
                    have hv1' : adf = some ⟨b1, off1, none⟩ := by simpa using congrArg (fun v => match v with | Value.slice a _ _ => a | _ => none) hv1
                    subst hv1'
                    clear hv1
                    rw [← hb4'.cell (p := ⟨b1, off1 + k, none⟩) hbl1, ← hbr5.cell (p := ⟨b1, off1 + k, none⟩) (by show b1 < wb.heap.size; omega)] at c1
                    have HBS5 := Lib.hid (HBS.out.below hbr5 (Nat.le_refl _))
                    have HPT := Lib.hid (picks_snoc best true (left.take k) 0 left[k])
                    have HPF := Lib.hid (picks_snoc best false (left.take k) 0 left[k])
                    have HTK := Lib.hid (take_snoc' left k hlt3)
                    have hkl : 0 + (left.take k).length = k := by rw [List.length_take]; omega
                    rw [hkl] at HPT HPF
                    have HPL1 : Hid ((picks best true 0 (left.take k)).length ≤ 16) := by
                      have := picks_len_le best true (left.take k) 0
                      rw [List.length_take] at this; unfold Hid; omega
                    have HPL2 : Hid ((picks best false 0 (left.take k)).length ≤ 16) := by
                      have := picks_len_le best false (left.take k) 0
                      rw [List.length_take] at this; unfold Hid; omega
                    generalize left[k] = x at *
                    clear hkl
                    rcases (Bool.eq_false_or_eq_true (best.contains (k : Int))).symm with hco | hco
                    · have HCO := Lib.hid hco
                      have E1 : Hid (picks best true 0 (left.take (k + 1)) = picks best true 0 (left.take k)) := by unfold Hid; rw [HTK.out, HPT.out, hco]; simp
                      have E2 : Hid (picks best false 0 (left.take (k + 1)) = picks best false 0 (left.take k) ++ [x]) := by unfold Hid; rw [HTK.out, HPF.out, hco]; simp
                      clear hco
                      go_wp2_with fail
                      refine (contains_is _ best (k : Int) false HCO.out _ _ HBS5.out HBL.out).mono ?_
                      rintro e w6 ⟨rfl, rfl⟩
                      go_wp2_with (at_builtin; refine Kit.wp_push T_int (by rfl) _ _ (by rfl) wr wb.heap.size _ _ (by rfl) HTW.out.2.1 x _ _ wr.heap.size rfl (by rfl) ?c1 ?c2 ?c3 hsz5 ?_)
                      case c1 => rfl
                      case c2 => have := HPL2.out; unfold maxLen; omega
                      case c3 => have := HPL2.out; omega
                      intro gl capl w7 hown7 hb7 hgr7 hsz7 hv7 hgl7 _
                      have HT7 := Lib.hid (HTW.out.swap.left hown7 hgr7 hv7).swap
                      clear hown7 hgr7 hv7
                      rw [← E2.out, ← E1.out] at HT7
                      go_wp2
                      go_roundw
                      case rel => exact ⟨k + 1, by omega, by go_num, HT7.out, hbr5.trans hb7⟩
                      case measure => simp [intOf]; omega
                    · have HCO := Lib.hid hco
                      have E1 : Hid (picks best true 0 (left.take (k + 1)) = picks best true 0 (left.take k) ++ [x]) := by unfold Hid; rw [HTK.out, HPT.out, hco]; simp
                      have E2 : Hid (picks best false 0 (left.take (k + 1)) = picks best false 0 (left.take k)) := by unfold Hid; rw [HTK.out, HPF.out, hco]; simp
                      clear hco
                      go_wp2_with fail
                      refine (contains_is _ best (k : Int) true HCO.out _ _ HBS5.out HBL.out).mono ?_
                      rintro e w6 ⟨rfl, rfl⟩
                      go_wp2_with (at_builtin; refine Kit.wp_push T_int (by rfl) _ _ (by rfl) wr wb.heap.size _ _ (by rfl) HTW.out.1 x _ _ wr.heap.size rfl (by rfl) ?c1 ?c2 ?c3 hsz5 ?_)
                      case c1 => rfl
                      case c2 => have := HPL1.out; unfold maxLen; omega
                      case c3 => have := HPL1.out; omega
                      intro gl capl w7 hown7 hb7 hgr7 hsz7 hv7 hgl7 _
                      have HT7 := Lib.hid (HTW.out.left hown7 hgr7 hv7)
                      clear hown7 hgr7 hv7
                      rw [← E1.out, ← E2.out] at HT7
                      go_wp2
                      go_roundw
                      case rel => exact ⟨k + 1, by omega, by go_num, HT7.out, hbr5.trans hb7⟩
                      case measure => simp [intOf]; omega
                  · obtain rfl : k = left.length := by omega
                    have htw := HTW.out
                    rw [List.take_length] at htw
                    obtain ⟨t1, t2, _⟩ := htw
                    have ht1 := t1.sl (fun _ => rfl)
                    have ht2 := t2.sl (fun _ => rfl)
                    have hnew : ∀ k, u17.ownBlock = some k → wb.heap.size ≤ k := fun k hk => (World.ownsRow.lt t1 k hk).1
                    have HRB : Hid (∀ k, u18.ownBlock = some k → wb.heap.size ≤ k) := fun k hk => (World.ownsRow.lt t2 k hk).1
                    have HT1 := Lib.hid ht1; have HT2 := Lib.hid ht2
                    obtain ⟨ad1, cap1, rfl, _⟩ := ht1
                    obtain ⟨ad2, cap2, rfl, _⟩ := ht2
                    have hbq : Below wq.heap.size wq wr := hb4'.trans (hbr5.mono hwqb)
                    obtain ⟨vs, hvs, hvl, hvi⟩ := HTR.out
                    have HVS := Lib.hid (hvs.below' hbq)
                    have HNX : Hid (tripsOf l W V = (done ++ [picks best true 0 left]) ++ tripsGo l W V (n - 1) (picks best false 0 left)) := by unfold Hid; rw [HEQ.out, HGO.out, if_neg HNE.out, List.append_assoc]; rfl
                    have HVA2 : Hid (∀ x ∈ picks best false 0 left, ∃ m : Nat, x = (m : Int) ∧ m < l.length) := fun x hx => HVA.out x (picks_mem best false left 0 x hx)
                    have hvsl : vs.length ≤ 17 := by omega
                    have HVT := Lib.hid (show Below wq.heap.size wq wr from hbq)
                    have HPUSH := Lib.hid (fun (g cap : Nat) (w' : World) ho hgr hv => TripsAt.push (w' := w') hvs hvl hvi hbq HT1.out (fun k hk _ => Nat.le_trans hwqb (hnew k hk)) (g := g) (cap := cap) ho hgr hv)
                    have HTB : Hid (∀ k, u11.ownBlock = some k → k < wq.heap.size) := fun k hk => (World.ownsRow.lt hvs k hk).2
                    have HVLE := Lib.hid hvl
                    clear t1 t2 hnew hvs hvi hvl
                    have hsz8 : w.heap.size ≤ wr.heap.size := by have := hbq.size; omega
                    obtain ⟨adt, capt, hvt⟩ : ∃ a c, u11 = .slice a vs.length c := by
                      obtain ⟨a, c, h, _⟩ := HVS.out.sl (fun _ => rfl)
                      exact ⟨a, c, h⟩
                    subst hvt
                    go_wp2_with (at_builtin; refine Kit.wp_push T_sl (by rfl) _ _ (by rfl) wr w.heap.size _ _ (by rfl) HVS.out (ad1, (picks best true 0 left).length, cap1) _ _ wr.heap.size rfl (by rfl) ?c1 ?c2 ?c3 hsz8 ?_)
                    case c1 => rfl
                    case c2 => unfold maxLen; omega
                    case c3 => omega
                    intro gl capl w7 hown7 hb7 hgr7 hsz7 hv7 hgl7 _
                    have HT7 := Lib.hid (HPUSH.out gl capl w7 hown7 hgr7 hv7)
                    have hrs := HT2.out.other (w' := w7) (fun k hk hne hlt => by
                      refine hgr7.block k hlt (fun e => ?_)
                      have h1 := HTB.out k e.symm
                      have h2 := HRB.out k hk
                      omega)
                    have HRS := Lib.hid (hrs.mono (Nat.le_of_lt hsz7))
                    clear hown7 hgr7 hv7 hrs
                    have HLR := HREST.out
                    go_wp2
                    go_roundw
                    case rel => exact ⟨n - 1, picks best false 0 left, done ++ [picks best true 0 left], HRS.out, HT7.out, HVA2.out, by omega, by omega, by simp; omega, HNX.out, (hbr2.trans (hbq.mono hsz2)).trans hb7⟩
                    case measure => simpa [lenV] using HLR
  · have hr : tripsRes l W V = ([], checkOf l W V) := by unfold tripsRes; rw [if_neg hc]
    have HR := Lib.hid hr
    have hc1 : (checkOf l W V != 0) = true := by simp [hc]
    clear hc hr
    generalize hcc : checkOf l W V = c at *
    have HCC := Lib.hid hcc; clear hcc
    go_enter Try.func18, Try.ntmps18
    go_wp2_with fail
    refine (check_any _ l W V _ HL.out hn).mono ?_
    rintro e w1 ⟨rfl, hb1⟩
    rw [HCC.out]
    go_wp2
    go_ret2
    show TripsPost _ _ _ _ _ _
    unfold TripsPost
    rw [HR.out]
    exact ⟨_, rfl, TripsAt.nil _ _, hb1⟩
end Go.Proofs.Ytcipnajdbafahaa.Tk
