/- The walk of the law SumsDetects. -/
import Derived.Test.YtohpaijpndphbaaSumsLaw3
import Derived.Lib.SmallJoins
import Derived.OpenShut
namespace Go.Proofs.Ytohpaijpndphbaa.Sm
open Go.RowKit

/-- the bytes p .. p + k - 1 of l are changed by xs -/
def chg (l : List UInt8) (p : Nat) (xs : List UInt8) (k : Nat) : List UInt8 := (List.range l.length).map fun j => if p ≤ j ∧ j < p + k then l.getD j 0 ^^^ xs.getD (j - p) 0 else l.getD j 0
theorem chg_len (l : List UInt8) (p : Nat) (xs : List UInt8) (k : Nat) : (chg l p xs k).length = l.length := by simp [chg]
theorem chg_zero (l : List UInt8) (p : Nat) (xs : List UInt8) : chg l p xs 0 = l := by
  apply List.ext_getElem
  · simp [chg]
  · intro i h1 h2
    have : ¬ (p ≤ i ∧ i < p + 0) := by omega
    simp only [chg, List.getElem_map, List.getElem_range, if_neg this]
    simp [h2]
theorem chg_at (l : List UInt8) (p : Nat) (xs : List UInt8) (k : Nat) (h : p + k < (chg l p xs k).length) : (chg l p xs k)[p + k] = l.getD (p + k) 0 := by
  have : ¬ (p ≤ p + k ∧ p + k < p + k) := by omega
  simp only [chg, List.getElem_map, List.getElem_range, if_neg this]
theorem chg_set (l : List UInt8) (p : Nat) (xs : List UInt8) (k : Nat) : ((chg l p xs k).map fun x => (x.toNat : Int)).set (p + k) ((l.getD (p + k) 0 ^^^ xs.getD k 0).toNat : Int) = (chg l p xs (k + 1)).map fun x => (x.toNat : Int) := by
  rw [← List.map_set (f := fun x : UInt8 => (x.toNat : Int))]
  congr 1
  apply List.ext_getElem
  · simp [chg]
  · intro i h1 h2
    simp only [List.getElem_set, chg, List.getElem_map, List.getElem_range]
    by_cases e : p + k = i
    · subst e
      have h1 : p ≤ p + k ∧ p + k < p + (k + 1) := by omega
      rw [if_pos rfl, if_pos h1, show p + k - p = k from by omega]
    · rw [if_neg e]
      by_cases hl : p ≤ i ∧ i < p + k
      · rw [if_pos hl, if_pos (by omega)]
      · rw [if_neg hl, if_neg (by omega)]
theorem chg_split (l c xs : List UInt8) (p m : Nat) (hm : p + m ≤ l.length) (hx : m ≤ xs.length) :
    chg (l ++ c) p xs m = (l.take p ++ List.zipWith (· ^^^ ·) ((l.drop p).take m) (xs.take m) ++ l.drop (p + m)) ++ c := by
  apply List.ext_getElem
  · rw [chg_len]; simp; omega
  · intro i h1 h2
    have hi : i < l.length + c.length := by rw [chg_len, List.length_append] at h1; exact h1
    simp only [chg, List.getElem_map, List.getElem_range]
    by_cases a : i < l.length
    · have e0 : (l ++ c).getD i 0 = l[i] := by simp [List.getElem?_append_left a, a]
      rw [e0, List.getElem_append_left (by simp; omega)]
      by_cases b : p ≤ i ∧ i < p + m
      · rw [if_pos b, List.getElem_append_left (by simp; omega), List.getElem_append_right (by simp; omega)]
        have hx' : i - p < xs.length := by omega
        simp only [List.getElem_zipWith, List.getElem_take, List.getElem_drop, List.length_take]
        rw [List.getD_eq_getElem?_getD]
        have e1 : min p l.length = p := by omega
        simp only [e1, show p + (i - p) = i from by omega]
        rw [List.getElem?_eq_getElem hx']; rfl
      · rw [if_neg b]
        by_cases d : i < p
        · rw [List.getElem_append_left (by simp; omega), List.getElem_append_left (by simp; omega), List.getElem_take]
        · rw [List.getElem_append_right (by simp; omega), List.getElem_drop]
          congr 1
          simp; omega
    · have b : ¬ (p ≤ i ∧ i < p + m) := by omega
      have e0 : (l ++ c).getD i 0 = c[i - l.length]'(by omega) := by
        rw [List.getD_eq_getElem?_getD, List.getElem?_append_right (by omega), List.getElem?_eq_getElem (by omega)]; rfl
      rw [if_neg b, e0, List.getElem_append_right (by simp; omega)]
      congr 1
      simp; omega

theorem crc_lt (l : List UInt8) : (crc l).toNat < 16 ^ 8 := by have := (crc l).isLt; exact this
theorem check_inj (a b : List UInt8) (h : checkOf a = checkOf b) : crc a = crc b := BitVec.eq_of_toNat_eq (digits_inj 8 _ _ (crc_lt a) (crc_lt b) h)

def anyOf (xs : List UInt8) (k : Nat) : Bool := (xs.take k).any fun x => x != 0
theorem anyOf_succ (xs : List UInt8) (k : Nat) (h : k < xs.length) : anyOf xs (k + 1) = (anyOf xs k || xs.getD k 0 != 0) := by
  unfold anyOf
  rw [List.take_succ_eq_append_getElem h, List.any_append]
  simp [h]
theorem zip_zero : ∀ (a d : List UInt8), a.length = d.length → (∀ x ∈ d, x = 0) → List.zipWith (· ^^^ ·) a d = a
  | [], [], _, _ => rfl
  | a :: at', d :: ds, h, hz => by
    have e := hz d (by simp)
    subst e
    simp only [List.zipWith_cons_cons]
    rw [zip_zero at' ds (by simpa using h) (fun x hx => hz x (by simp [hx]))]
    simp
  | [], _ :: _, h, _ => by simp at h
  | _ :: _, [], h, _ => by simp at h

/-- what Open says of a sealed string with up to four changed bytes -/
theorem det_one (l xs : List UInt8) (p m : Nat) (hm : p + m ≤ l.length) (h4 : m ≤ 4) (hx : m ≤ xs.length) :
    ∃ b c, openOf (chg (sealOf l) p xs m) = (b, c) ∧ ((c : Int) == 16) = anyOf xs m := by
  unfold sealOf
  rw [chg_split l (checkOf l) xs p m hm hx, open_app _ _ (check_len l)]
  have hlen : ((l.drop p).take m).length = (xs.take m).length := by simp; omega
  have hsplit : l.take p ++ (l.drop p).take m ++ l.drop (p + m) = l := by
    rw [List.append_assoc, ← List.drop_drop, List.take_append_drop, List.take_append_drop]
  by_cases e : checkOf l = checkOf (l.take p ++ List.zipWith (· ^^^ ·) ((l.drop p).take m) (xs.take m) ++ l.drop (p + m))
  · rw [if_pos e]
    refine ⟨_, _, rfl, ?_⟩
    have hc := check_inj _ _ e
    rw [← hsplit] at hc
    have hz := crc_burst (l.take p) ((l.drop p).take m) (l.drop (p + m)) (xs.take m) hlen (by simp; omega) (by rw [hsplit] at hc ⊢; exact hc.symm)
    have : anyOf xs m = false := by
      unfold anyOf
      rw [List.any_eq_false]
      intro x hx; rw [hz x hx]; decide
    rw [this]; rfl
  · rw [if_neg e]
    refine ⟨_, _, rfl, ?_⟩
    have : anyOf xs m = true := by
      rw [← Bool.not_eq_false]
      intro hf
      apply e
      unfold anyOf at hf
      rw [List.any_eq_false] at hf
      rw [zip_zero _ _ hlen (fun x hx => by simpa using hf x hx), hsplit]
    rw [this]; rfl

def chgDigit (l : List UInt8) (q : Nat) (x : UInt8) : List UInt8 := (sealOf l).set (l.length + q) ((sealOf l).getD (l.length + q) 0 ^^^ x)
theorem chgDigit_len (l : List UInt8) (q : Nat) (x : UInt8) : (chgDigit l q x).length = l.length + 8 := by unfold chgDigit; rw [List.length_set, seal_len]
theorem det_two (l : List UInt8) (q : Nat) (x : UInt8) (hq : q < 8) : ∃ b c, openOf (chgDigit l q x) = (b, c) ∧ ((c : Int) == 16) = ((x.toNat : Int) != 0) := by
  have hql : q < (checkOf l).length := by rw [check_len]; exact hq
  have e0 : chgDigit l q x = l ++ (checkOf l).set q ((checkOf l)[q] ^^^ x) := by
    unfold chgDigit sealOf
    rw [List.set_append_right _ _ (by omega), show l.length + q - l.length = q from by omega, List.getD_eq_getElem?_getD, List.getElem?_append_right (by omega), show l.length + q - l.length = q from by omega, List.getElem?_eq_getElem hql]
    rfl
  rw [e0, open_app _ _ (by rw [List.length_set, check_len])]
  by_cases hx : x = 0
  · subst hx
    rw [if_pos (by simp)]
    exact ⟨_, _, rfl, rfl⟩
  · have hne : (checkOf l).set q ((checkOf l)[q] ^^^ x) ≠ checkOf l := by
      intro h
      have h1 : ((checkOf l).set q ((checkOf l)[q] ^^^ x))[q]? = (checkOf l)[q]? := by rw [h]
      rw [List.getElem?_set_self hql, List.getElem?_eq_getElem hql] at h1
      have h2 : (checkOf l)[q] ^^^ x = (checkOf l)[q] := by simpa using h1
      have h3 := congrArg ((checkOf l)[q] ^^^ ·) h2
      exact hx (by simpa [← UInt8.xor_assoc] using h3)
    rw [if_neg hne]
    refine ⟨_, _, rfl, ?_⟩
    have hn : x.toNat ≠ 0 := fun h => hx (UInt8.toNat_inj.1 h)
    have e1 : ((x.toNat : Int) != 0) = true := by simp; omega
    rw [e1]; rfl

theorem nz (x : UInt8) : (x != 0) = ((x.toNat : Int) != 0) := by
  rw [Bool.eq_iff_iff]; simp only [bne_iff_ne, ne_eq]
  constructor
  · intro h e; exact h (UInt8.toNat_inj.1 (by show x.toNat = 0; omega))
  · intro h e; subst e; exact h rfl
theorem box_at (w : World) (x0 x1 x2 x3 : UInt8) (T : TypeId) (k : Nat) (h : k < 4) : (w.alloc (.cells #[.int .u8 (x0.toNat : Int), .int .u8 (x1.toNat : Int), .int .u8 (x2.toNat : Int), .int .u8 (x3.toNat : Int)] T)).cell? ⟨w.heap.size, k, none⟩ = some (.int .u8 (([x0, x1, x2, x3].getD k 0).toNat : Int)) := by
  rw [World.cell?_alloc_mark]
  match k, h with
  | 0, _ => rfl
  | 1, _ => rfl
  | 2, _ => rfl
  | 3, _ => rfl

set_option maxRecDepth 100000 in
set_option maxHeartbeats 2000000 in
theorem detects_main (s : ByteArray) (p : Nat) (x0 x1 x2 x3 : UInt8) (w : World) (hs : s.size ≤ 1000) (hp : p ≤ s.size) :
    Calls Try.prog 7 #[.string s, .int .i64 p, .agg #[.int .u8 x0.toNat, .int .u8 x1.toNat, .int .u8 x2.toNat, .int .u8 x3.toNat]] w fun e w' => e = .returned (.bool true) ∧ Below w.heap.size w w' := by
  have HBX := Lib.hid (box_at w x0 x1 x2 x3 35)
  have n1 : decide ((p : Int) < 0) = false := by simp
  have n2 : decide (s.size < p) = false := by simp [hp]
  go_enter Try.func7, Try.ntmps7
  go_wp2_with fail
  refine (short_yes s _ hs).mono ?_
  rintro e w0 ⟨rfl, rfl⟩
  go_wp2_with fail
  refine (seal_any s _ (by omega)).mono ?_
  rintro e w1 ⟨rfl, hb1⟩
  have hg0 : w.heap.size < w1.heap.size := by have := hb1.size; simp at this; omega
  have hbw : Below w.heap.size w w1 := ((Below.refl _ _).alloc (Nat.le_refl _) _).trans (hb1.mono (by simp))
  have HX : Hid (∀ k, k < 4 → w1.cell? ⟨w.heap.size, k, none⟩ = some (.int .u8 (([x0, x1, x2, x3].getD k 0).toNat : Int))) := by
    intro k hk
    rw [hb1.cell (p := ⟨w.heap.size, k, none⟩) (by simp)]
    exact HBX.out k hk
  have hX0 := HX.out 0 (by omega)
  clear HBX hb1
  generalize hxs : [x0, x1, x2, x3] = xs at *
  have hxl : xs.length = 4 := by rw [← hxs]; rfl
  have hx0 : xs.getD 0 0 = x0 := by rw [← hxs]; rfl
  rw [hx0] at hX0
  have HX0 := Lib.hid hx0; clear hx0
  have HXL := Lib.hid hxl; clear hxl hxs
  have hS2 : (⟨(sealOf s.data.toList).toArray⟩ : ByteArray).data.toList = sealOf s.data.toList := rfl
  have hSs : (⟨(sealOf s.data.toList).toArray⟩ : ByteArray).size = s.size + 8 := by rw [size_list, hS2, seal_len]; rfl
  generalize (⟨(sealOf s.data.toList).toArray⟩ : ByteArray) = S at *
  have HS2 := Lib.hid hS2; clear hS2
  have n3 : ((S.size : Int) != (s.size : Int) + 8) = false := by simp; omega
  have hSl : S.size ≤ 1008 := by omega
  have hSg : s.size + 8 ≤ S.size := by omega
  have HSS := Lib.hid hSs; clear hSs
  obtain ⟨cap, w2, hconv, hcap, hb2, hz2, hcell, hfr⟩ := conv_bytes w1 S
  have HR := Lib.hid (row_of w2 _ S hcell hfr)
  rw [HS2.out] at HR
  clear hcell hfr hz2
  obtain ⟨m, hm4, hml, hmm⟩ : ∃ m, m ≤ 4 ∧ p + m ≤ s.size ∧ (m = 4 ∨ p + m = s.size) := by
    by_cases h : p + 4 ≤ s.size
    · exact ⟨4, by omega, h, Or.inl rfl⟩
    · exact ⟨s.size - p, by omega, by omega, by omega⟩
  have HM := Lib.hid hmm; clear hmm
  go_wp2
  clear hconv n1 n2 n3
  go_loopw [9, 10] (fun ch i wr => ∃ k : Nat, k ≤ m ∧ i = .int .i64 k ∧ ch = .bool (anyOf xs k) ∧ Below w1.heap.size w1 wr ∧ Row wr w1.heap.size ((chg (sealOf s.data.toList) p xs k).map fun x => (x.toNat : Int))) (fun _ i _ => m - (intOf i).toNat)
  case atStart => exact ⟨0, by omega, rfl, rfl, hb2, by rw [chg_zero]; exact HR.out⟩
  case round =>
    obtain ⟨k, hk, rfl, rfl, hbr, hr⟩ := hrel
    have HRR := Lib.hid hr; clear hr HR
    by_cases hlt : k < m
    · have hl : p + k < ((chg (sealOf s.data.toList) p xs k).map fun x => (x.toNat : Int)).length := by rw [List.length_map, chg_len, seal_len, ← size_list]; omega
      have hc := HRR.out.1 (p + k) hl
      have hf := HRR.out.2 (p + k) hl
      rw [List.getElem_map, chg_at] at hc
      have HS := Lib.hid (chg_set (sealOf s.data.toList) p xs k)
      have HA := Lib.hid (anyOf_succ xs k (by rw [HXL.out]; omega))
      have hxk := HX.out k (by omega)
      rw [← hbr.cell (p := ⟨w.heap.size, k, none⟩) hg0] at hxk
      generalize (sealOf s.data.toList).getD (p + k) 0 = c at *
      generalize xs.getD k 0 = x at *
      clear hl
      generalize hch : anyOf xs k = ch at *
      have HCH := Lib.hid hch; clear hch
      have HXR := Lib.hid (xor_u8 c x)
      have i1 : (0 : Int) ≤ (p : Int) + (k : Int) := by omega
      have i2 : (p : Int) + (k : Int) < (s.size : Int) := by omega
      have i3 : (p : Int) + (k : Int) < (S.size : Int) := by omega
      have i4 : (k : Int) < 4 := by omega
      have i5 : ((p : Int) + (k : Int)).toNat = p + k := by omega
      have i6 : (0 : Int) ≤ (k : Int) := by omega
      have j1 : p + k < S.size := by omega
      have hne : w.heap.size ≠ w1.heap.size := by omega
      cases ch
      all_goals
        go_wp2
        go_region
        go_wp2
        go_roundw
        case rel =>
          rw [HXR.out]
          exact ⟨k + 1, by omega, by go_num, by rw [HA.out]; simp [nz], (hbr.setCell (p := ⟨w1.heap.size, p + k, none⟩) (Nat.le_refl _) _).drew, by rw [← HS.out]; exact (HRR.out.put (p + k) _).drew⟩
        case measure => simp [intOf]; omega
    · obtain rfl : k = m := by omega
      obtain ⟨b1, c1, hd1, he1⟩ := det_one s.data.toList xs p k (by rw [← size_list]; omega) hm4 (by rw [HXL.out]; exact hm4)
      obtain ⟨b2, c2, hd2, he2⟩ := det_two s.data.toList (p % 8) x0 (Nat.mod_lt _ (by omega))
      have HD1 := Lib.hid hd1; clear hd1
      have HD2 := Lib.hid hd2; clear hd2
      have hback := HRR.out.back cap
      rw [chg_len, seal_len, ← size_list, ← HSS.out] at hback
      have HL1 := Lib.hid (show (chg (sealOf s.data.toList) p xs k).length = s.size + 8 from by rw [chg_len, seal_len]; rfl)
      generalize chg (sealOf s.data.toList) p xs k = l1 at *
      have HZ1 : Hid ((⟨l1.toArray⟩ : ByteArray).size ≤ 2000) := by unfold Hid; rw [size_list]; simp; rw [HL1.out]; omega
      have hmm := HM.out
      have hS8 := HSS.out
      have hq8 : p % 8 < 8 := Nat.mod_lt _ (by omega)
      have i1 : (0 : Int) ≤ (s.size : Int) + (p : Int) % 8 := by omega
      have i2 : (s.size : Int) + (p : Int) % 8 < (S.size : Int) := by omega
      have i3 : ((s.size : Int) + (p : Int) % 8).toNat = s.size + p % 8 := by omega
      have q1 : 4 ≤ k ∨ (k < 4 ∧ (s.size : Int) ≤ (p : Int) + (k : Int)) := by
        by_cases h : k < 4
        · exact Or.inr ⟨h, by omega⟩
        · exact Or.inl (by omega)
      have HI3 := Lib.hid i3; clear i3 hS8 hmm
      have HQ1 := Lib.hid q1; clear q1
      rcases HQ1.out with q1 | ⟨q1, q2⟩
      all_goals
        go_wp2_with fail
        refine (open_is ⟨l1.toArray⟩ _ HZ1.out b1 c1 HD1.out).mono ?_
        rintro e w3 ⟨rfl, hb3⟩
        clear hback
        have hb3' : Below w1.heap.size w1 w3 := hbr.trans (hb3.mono hbr.size)
        obtain ⟨cap2, w4, hconv4, hcap4, hb4, hz4, hcell4, hfr4⟩ := conv_bytes w3 S
        have hrow := row_of w4 _ S hcell4 hfr4
        rw [HS2.out] at hrow
        have hlq : s.size + p % 8 < ((sealOf s.data.toList).map fun b => (b.toNat : Int)).length := by rw [List.length_map, seal_len, ← size_list]; omega
        have hc4 := hrow.1 _ hlq
        have hf4 := hrow.2 _ hlq
        have hg3 : w.heap.size < w3.heap.size := by have := hb3'.size; omega
        have hx4 : w4.cell? ⟨w.heap.size, 0, none⟩ = some (.int .u8 (x0.toNat : Int)) := by
          rw [hb4.cell (p := ⟨w.heap.size, 0, none⟩) hg3, hb3'.cell (p := ⟨w.heap.size, 0, none⟩) hg0]; exact hX0
        have hput := hrow.put (s.size + p % 8) (((sealOf s.data.toList).getD (s.size + p % 8) 0 ^^^ x0).toNat : Int)
        have e5 : ((sealOf s.data.toList).map fun b => (b.toNat : Int)).set (s.size + p % 8) (((sealOf s.data.toList).getD (s.size + p % 8) 0 ^^^ x0).toNat : Int) = (chgDigit s.data.toList (p % 8) x0).map fun b => (b.toNat : Int) := by
          unfold chgDigit; rw [List.map_set]; rfl
        rw [e5] at hput
        have e6 : ((sealOf s.data.toList).map fun b => (b.toNat : Int))[s.size + p % 8] = (((sealOf s.data.toList).getD (s.size + p % 8) 0).toNat : Int) := by
          rw [List.getElem_map, List.getD_eq_getElem?_getD, List.getElem?_eq_getElem (by rw [List.length_map] at hlq; exact hlq)]; rfl
        rw [e6] at hc4
        have hback4 := hput.drew.back cap2
        rw [chgDigit_len, ← size_list, ← HSS.out] at hback4
        have HL2 := Lib.hid (chgDigit_len s.data.toList (p % 8) x0)
        have hdd := HD2.out
        generalize chgDigit s.data.toList (p % 8) x0 = l2 at *
        generalize (sealOf s.data.toList).getD (s.size + p % 8) 0 = c at *
        rw [← xor_u8] at hback4
        have HDD := Lib.hid hdd; clear hdd
        have HZ2 : Hid ((⟨l2.toArray⟩ : ByteArray).size ≤ 2000) := by unfold Hid; rw [size_list]; simp; rw [HL2.out, ← size_list]; omega
        have i3 := HI3.out
        have hne4 : w.heap.size ≠ w3.heap.size := by omega
        clear hrow hlq hput e5 e6 hcell4 hfr4 hz4
        go_wp2
        go_region
        clear hconv4
        go_wp2_with fail
        refine (open_is ⟨l2.toArray⟩ _ HZ2.out b2 c2 HDD.out).mono ?_
        rintro e w5 ⟨rfl, hb5⟩
        clear hback4
        have hb4' := hb4.setCell (p := ⟨w3.heap.size, s.size + p % 8, none⟩) (Nat.le_refl _) (.int .u8 (bits .xor .u8 c.toNat x0.toNat))
        have hb5' : Below w3.heap.size w3 w5 := hb4'.trans ((below_drew_left hb5).mono (by simpa using hb4'.size))
        have hx5 : w5.cell? ⟨w.heap.size, 0, none⟩ = some (.int .u8 (x0.toNat : Int)) := by
          rw [hb5'.cell (p := ⟨w.heap.size, 0, none⟩) hg3, hb3'.cell (p := ⟨w.heap.size, 0, none⟩) hg0]; exact hX0
        clear hx4 hc4 hf4
        go_wp2_with fail
        refine (awake_any _).mono ?_
        rintro e w6 ⟨rfl, hb6⟩
        go_wp2
        go_ret
        exact ⟨rfl, ((hbw.trans (hb3'.mono (by omega))).trans (hb5'.mono (by omega))).trans (hb6.mono (by have := hb5'.size; omega))⟩

theorem open_arr4 {H : Type} {enc : TypeId × Value → H} {W : World} {base : Nat} {v : Value} {d : DataW H} {ps : List MemPlace} (ok : Value.okWide Try.prog W .any base 35 v) (h : DataW.Trod enc Try.prog W 0 (fun _ => true) true 35 v d ps) :
    ∃ x0 x1 x2 x3 : UInt8, v = .agg #[.int .u8 (x0.toNat : Int), .int .u8 (x1.toNat : Int), .int .u8 (x2.toNat : Int), .int .u8 (x3.toNat : Int)] := by
  simp only [Value.okWide, Try.underlying35] at ok
  obtain ⟨cs, rfl, hsz, _⟩ := ok
  obtain ⟨c0, c1, c2, c3, rfl⟩ := Joins.array4 (hsz.trans (show Try.prog.cellsOf 35 = 4 from by kernel_rfl))
  obtain ⟨fuel, hf⟩ := h
  obtain ⟨xs, m, _, _, _, hl, he⟩ := DataW.trod_array Try.underlying35 hf
  have hc : Try.prog.cellsOf 5 = 1 := by kernel_rfl
  have one : ∀ (i : Nat) (c : Value), i < 4 → (([c0, c1, c2, c3].drop (i * 1)).take 1) = [c] → ∃ x : UInt8, c = .int .u8 (x.toNat : Int) := by
    intro i c hi hcs
    have h := he i hi
    rw [hc] at h
    have hcs' : ((Value.agg #[c0, c1, c2, c3]).cells.toList.drop (i * 1)).take 1 = [c] := hcs
    rw [hcs', List.getElem?_eq_getElem (by omega)] at h
    obtain ⟨n, e1, _, hn⟩ := DataW.trod_int Try.underlying5 h
    obtain ⟨x, rfl⟩ := u8_of n hn
    exact ⟨x, by simpa using e1⟩
  obtain ⟨x0, rfl⟩ := one 0 c0 (by omega) rfl
  obtain ⟨x1, rfl⟩ := one 1 c1 (by omega) rfl
  obtain ⟨x2, rfl⟩ := one 2 c2 (by omega) rfl
  obtain ⟨x3, rfl⟩ := one 3 c3 (by omega) rfl
  exact ⟨x0, x1, x2, x3, rfl⟩

set_option maxRecDepth 100000 in
set_option maxHeartbeats 400000 in
theorem sumsDetects_walk {H : Type} {enc : TypeId × Value → H} {base : Nat} (w : World) (s : ByteArray) (hm : s.size ≤ maxLen) (p : Int) (hp : (Lit.int .i64 p).wf = true) (v : Value) (d : DataW H) (ps : List MemPlace) (ok : Value.okWide Try.prog w .any base 35 v) (h : DataW.Trod enc Try.prog w 0 (fun _ => true) true 35 v d ps) :
    Calls Try.prog 7 #[.string s, .int .i64 p, v] w fun e w' => e = .returned (.bool true) ∧ Below w.heap.size w w' := by
  obtain ⟨x0, x1, x2, x3, rfl⟩ := open_arr4 ok h
  clear ok h
  have hm' := hm
  unfold maxLen at hm'
  by_cases hs : s.size ≤ 1000
  · by_cases h1 : p < 0
    · have n1 : decide (p < 0) = true := by simp [h1]
      go_enter Try.func7, Try.ntmps7
      go_wp2_with fail
      refine (short_yes s _ hs).mono ?_
      rintro e w0 ⟨rfl, rfl⟩
      go_wp2_with fail
      refine (awake_any _).mono ?_
      rintro e w1 ⟨rfl, hb1⟩
      go_wp2
      go_ret
      exact ⟨rfl, ((Below.refl _ _).alloc (Nat.le_refl _) _).trans (hb1.mono (by simp))⟩
    · obtain ⟨q, rfl⟩ := Int.eq_ofNat_of_zero_le (by omega : 0 ≤ p)
      by_cases h2 : q ≤ s.size
      · exact detects_main s q x0 x1 x2 x3 w hs h2
      · have n1 : decide ((q : Int) < 0) = false := by simp
        have n2 : decide (s.size < q) = true := by simp; omega
        go_enter Try.func7, Try.ntmps7
        go_wp2_with fail
        refine (short_yes s _ hs).mono ?_
        rintro e w0 ⟨rfl, rfl⟩
        go_wp2_with fail
        refine (awake_any _).mono ?_
        rintro e w1 ⟨rfl, hb1⟩
        go_wp2
        go_ret
        exact ⟨rfl, ((Below.refl _ _).alloc (Nat.le_refl _) _).trans (hb1.mono (by simp))⟩
  · go_enter Try.func7, Try.ntmps7
    go_wp2_with fail
    refine (short_no s _ hm hs).mono ?_
    rintro e w0 ⟨rfl, rfl⟩
    go_wp2_with fail
    refine (awake_any _).mono ?_
    rintro e w1 ⟨rfl, hb1⟩
    go_wp2
    go_ret
    exact ⟨rfl, ((Below.refl _ _).alloc (Nat.le_refl _) _).trans (hb1.mono (by simp))⟩
end Go.Proofs.Ytohpaijpndphbaa.Sm
