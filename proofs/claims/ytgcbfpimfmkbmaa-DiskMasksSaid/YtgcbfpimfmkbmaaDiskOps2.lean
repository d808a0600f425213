/- The laws' own functions: short, contents, same; opening a list of calls. -/
import Derived.Test.YtgcbfpimfmkbmaaDiskOps
namespace Go.Proofs.Ytgcbfpimfmkbmaa.Dk
set_option linter.unusedVariables false
set_option linter.unusedSimpArgs false
open Go.RowKit Go.ChangeMaps

theorem sl_op {w : World} {hi : Nat} {v : Value} {l : List OpD} (h : Kit.Sl 4 opEnc w hi v l) (k : Nat) (hk : k < l.length) :
    ∃ b off cap, v = .slice (some ⟨b, off, none⟩) l.length cap ∧ b < hi ∧ w.cell? ⟨b, off + k * 4, none⟩ = some (.int .i64 l[k].1) ∧ w.cell? ⟨b, off + k * 4 + 1, none⟩ = some (.int .i64 l[k].2.1) ∧ w.cell? ⟨b, off + k * 4 + 2, none⟩ = some (.string l[k].2.2.1) ∧ w.cell? ⟨b, off + k * 4 + 3, none⟩ = some (.int .u64 l[k].2.2.2) := by
  obtain ⟨ad, cap, rfl, hc, h⟩ := h
  rcases h with h | ⟨b, off, rfl, hlt, h⟩
  · subst h; simp at hk
  · have h0 := h k 0 l[k] (by simp [hk]) (by omega)
    have h1 := h k 1 l[k] (by simp [hk]) (by omega)
    have h2 := h k 2 l[k] (by simp [hk]) (by omega)
    have h3 := h k 3 l[k] (by simp [hk]) (by omega)
    exact ⟨b, off, cap, rfl, hlt, by simpa [opEnc] using h0, by rw [Nat.add_assoc]; simpa [opEnc] using h1, by rw [Nat.add_assoc]; simpa [opEnc] using h2, by rw [Nat.add_assoc]; simpa [opEnc] using h3⟩
def shortOf (l : List OpD) : Bool := decide (l.length ≤ 80) && l.all (fun o => decide (o.2.2.1.size ≤ 100))
set_option maxRecDepth 100000 in
set_option maxHeartbeats 2000000 in
theorem short_any (v : Value) (l : List OpD) (w : World) (hi : Nat) (h : Kit.Sl 4 opEnc w hi v l) (hn : l.length ≤ maxLen) (hok : ∀ o ∈ l, OkOp o) :
    Calls Try.prog 16 #[v] w fun e w' => e = .returned (.bool (shortOf l)) ∧ w = w' := by
  unfold maxLen at hn
  have H := Lib.hid h
  have HOK := Lib.hid hok
  obtain ⟨ad, cap, rfl, hc, _⟩ := h
  clear hok
  by_cases h80 : 80 < l.length
  · have HS : Hid (shortOf l = false) := by unfold Hid shortOf; simp; intro h; omega
    have b1 : decide (80 < l.length) = true := by simpa using h80
    have b2 : decide ((80 : Int) < (l.length : Int)) = true := by simp; omega
    go_enter Try.func16, Try.ntmps16
    go_wp2
    go_ret
    rw [HS.out]; exact ⟨rfl, rfl⟩
  have b1 : decide (80 < l.length) = false := by simpa using h80
  have b2 : decide ((80 : Int) < (l.length : Int)) = false := by simp; omega
  go_enter Try.func16, Try.ntmps16
  go_wp2
  go_loop [3] (fun i => ∃ k : Nat, k ≤ l.length ∧ i = .int .i64 k ∧ (l.take k).all (fun o => decide (o.2.2.1.size ≤ 100)) = true) (fun i => l.length - (intOf i).toNat)
  case atStart => exact ⟨0, by omega, rfl, by simp⟩
  case round =>
    obtain ⟨k, hk, rfl, hall⟩ := hrel
    have HAL := Lib.hid hall; clear hall
    by_cases hlt : k < l.length
    · obtain ⟨b, off, cap', hv, hb, c0, c1, c2, c3⟩ := sl_op H.out k hlt
      obtain rfl : ad = some ⟨b, off, none⟩ := (Value.slice.inj hv).1
      have HTS : Hid (l.take (k + 1) = l.take k ++ [l[k]]) := Lib.hid (List.take_succ_eq_append_getElem hlt)
      have hts := (HOK.out l[k] (List.getElem_mem _)).1
      have HMEM : Hid (l[k] ∈ l) := Lib.hid (List.getElem_mem _)
      unfold maxLen at hts
      have i1 : (0 : Int) ≤ (k : Int) := by omega
      have i2 : (k : Int) < (l.length : Int) := by omega
      clear hv c0 c1 c3
      generalize l[k] = o at *
      by_cases hbig : 100 < o.2.2.1.size
      · have HS : Hid (shortOf l = false) := by
          unfold Hid shortOf
          rw [Bool.and_eq_false_iff]
          right
          rw [List.all_eq_false]
          exact ⟨o, HMEM.out, by simp; omega⟩
        have b3 : decide (100 < o.2.2.1.size) = true := by simpa using hbig
        have b4 : decide ((100 : Int) < (o.2.2.1.size : Int)) = true := by simp; omega
        go_wp2
        go_ret
        rw [HS.out]; exact ⟨rfl, rfl⟩
      · have HN : Hid ((l.take (k + 1)).all (fun o => decide (o.2.2.1.size ≤ 100)) = true) := by
          unfold Hid; rw [HTS.out, List.all_append, HAL.out]; simp; omega
        have b3 : decide (100 < o.2.2.1.size) = false := by simpa using hbig
        have b4 : decide ((100 : Int) < (o.2.2.1.size : Int)) = false := by simp; omega
        go_wp2
        go_round
        case rel => exact ⟨k + 1, by omega, by go_num, HN.out⟩
        case measure => simp [intOf]; omega
    · obtain rfl : k = l.length := by omega
      have HS : Hid (shortOf l = true) := by
        have := HAL.out
        rw [List.take_length] at this
        unfold Hid shortOf; rw [this]; simp; omega
      go_wp2
      go_ret
      rw [HS.out]; exact ⟨rfl, rfl⟩

def contentsOf (s : DS) : List ByteArray := (List.range (min s.blocks.length 8)).map (fun n : Nat => (s.read (n : Int)).1)
set_option maxRecDepth 100000 in
set_option maxHeartbeats 2000000 in
theorem contents_any {B : Nat} {X : Nat → Prop} {w : World} {d n : Nat} {s : DS} (h : Ses B X w d n s) :
    Calls Try.prog 23 #[.pointer (some ⟨d, 0, none⟩)] w fun e w' => ∃ v, e = .returned v ∧ Kit.Own 9 1 strEnc w' w.heap.size v (contentsOf s) ∧ Below w.heap.size w w' := by
  have H := Lib.hid h
  have HL := Lib.hid h.fine.len
  obtain ⟨hl1, hl2⟩ := h.fine.len
  clear h
  go_enter Try.func23, Try.ntmps23
  go_wp2
  go_loopw [3, 4] (fun ov i wr => ∃ k : Nat, k ≤ min s.blocks.length 8 ∧ i = .int .i64 k ∧ Kit.Own 9 1 strEnc wr w.heap.size ov ((List.range k).map (fun n : Nat => (s.read (n : Int)).1)) ∧ Below w.heap.size w wr) (fun _ i _ => 8 - (intOf i).toNat)
  case atStart => exact ⟨0, by omega, rfl, Kit.Own.nil _ _, Below.refl _ _⟩
  case round =>
    obtain ⟨k, hk, rfl, hown, hbr⟩ := hrel
    have HO := Lib.hid hown
    have HS := Lib.hid (H.out.below hbr)
    obtain ⟨oa, oc, hov⟩ : ∃ a c, u3 = .slice a k c := by obtain ⟨a, c, h, _⟩ := hown.sl (fun _ => rfl); exact ⟨a, c, by simpa using h⟩
    subst hov
    clear hown
    have hk8 : k ≤ 8 := by omega
    by_cases hlt : k < min s.blocks.length 8
    · have b1 : decide (k < s.blocks.length) = true := by simp; omega
      have b1' : decide ((k : Int) < (s.blocks.length : Int)) = true := by simp; omega
      have b2 : decide (k < 8) = true := by simp; omega
      have b2' : decide ((k : Int) < 8) = true := by simp; omega
      have HE : Hid ((List.range (k + 1)).map (fun n : Nat => (s.read (n : Int)).1) = (List.range k).map (fun n : Nat => (s.read (n : Int)).1) ++ [(s.read k).1]) := by unfold Hid; rw [List.range_succ]; simp
      have hsz := hbr.size
      go_wp2_with fail
      refine (ses_blocks HS.out).mono ?_
      rintro e w1 ⟨rfl, rfl⟩
      go_wp2_with fail
      refine (ses_read HS.out k).mono ?_
      rintro e w1 ⟨rfl, rfl⟩
      generalize (s.read k).2 = ec at *
      generalize (s.read k).1 = tx at *
      go_wp2_with (at_builtin; refine Kit.wp_push T_str (by rfl) _ _ (by rfl) wr w.heap.size _ _ (by rfl) HO.out tx _ _ wr.heap.size rfl (by rfl) ?c1 ?c2 ?c3 hsz ?_)
      case c1 => rfl
      case c2 => simp; unfold maxLen; omega
      case c3 => simp; omega
      intro g3 cap3 w3 hown3 hb3 _ _ _ _ _
      rw [← HE.out] at hown3
      have HO3 := Lib.hid hown3
      clear hown3
      go_wp2
      go_roundw
      case rel => exact ⟨k + 1, by omega, by go_num, by simpa using HO3.out, hbr.trans hb3⟩
      case measure => simp [intOf]; omega
    · obtain rfl : k = min s.blocks.length 8 := by omega
      have HFIN : Hid (Kit.Own 9 1 strEnc wr w.heap.size (.slice oa (min s.blocks.length 8) oc) (contentsOf s)) := HO
      by_cases h8 : s.blocks.length ≤ 8
      · have hmin : min s.blocks.length 8 = s.blocks.length := by omega
        rw [hmin] at HFIN ⊢
        have b1 : decide (s.blocks.length < s.blocks.length) = false := by simp
        have b1' : decide ((s.blocks.length : Int) < (s.blocks.length : Int)) = false := by simp
        clear hmin hlt HO hk hk8
        go_wp2_with fail
        refine (ses_blocks HS.out).mono ?_
        rintro e w1 ⟨rfl, rfl⟩
        go_wp2
        go_ret
        exact ⟨_, rfl, HFIN.out, hbr⟩
      · have hmin : min s.blocks.length 8 = 8 := by omega
        rw [hmin] at HFIN ⊢
        have b1 : decide ((8 : Int) < (s.blocks.length : Int)) = true := by simp; omega
        clear hmin hlt HO hk hk8
        go_wp2_with fail
        refine (ses_blocks HS.out).mono ?_
        rintro e w1 ⟨rfl, rfl⟩
        go_wp2
        go_ret
        exact ⟨_, rfl, HFIN.out, hbr⟩

theorem str_ne {x y : ByteArray} (h : x ≠ y) : (x.toList == y.toList) = false := by
  rw [ByteArray.toList_eq, ByteArray.toList_eq, beq_eq_false_iff_ne]
  intro e
  apply h
  cases x; cases y; simp at e; rw [e]
theorem drewN_heap (w : World) : ∀ n, (w.drewN n).heap = w.heap := fun n => by
  simp [World.drewN]
theorem drewN_below (B : Nat) (w : World) (n : Nat) : Below B w (w.drewN n) := ⟨rfl, rfl, rfl, Nat.le_refl _, fun _ _ => rfl⟩
theorem sl_str' {w : World} {hi : Nat} {a : Option Addr} {n cap : Nat} {l : List ByteArray} (h : Kit.Sl 1 strEnc w hi (.slice a n cap) l) (k : Nat) (hk : k < l.length) : ∃ b off, a = some ⟨b, off, none⟩ ∧ w.cell? ⟨b, off + k, none⟩ = some (.string l[k]) := by
  obtain ⟨ad, cp, hv, _, h⟩ := h
  rcases h with h | ⟨b', off', rfl, hlt, h⟩
  · subst h; simp at hk
  · have := (Value.slice.inj hv).1
    subst this
    have := h k 0 l[k] (by simp [hk]) (by omega)
    exact ⟨b', off', rfl, by simpa [strEnc] using this⟩
def sameS (a b : List ByteArray) : Bool := decide (a = b)
set_option maxRecDepth 100000 in
set_option maxHeartbeats 2000000 in
theorem same_any (v u : Value) (a b : List ByteArray) (w : World) (hi : Nat) (ha : Kit.Sl 1 strEnc w hi v a) (hb : Kit.Sl 1 strEnc w hi u b) (hna : a.length ≤ 1000000) (hnb : b.length ≤ 1000000) :
    Calls Try.prog 22 #[v, u] w fun e w' => e = .returned (.bool (sameS a b)) ∧ Below w.heap.size w w' := by
  have HA := Lib.hid ha; have HB := Lib.hid hb
  obtain ⟨ad, ca, rfl, _⟩ := ha
  obtain ⟨bd, cb, rfl, _⟩ := hb
  by_cases hl : a.length = b.length
  · rw [← hl]
    have HL := Lib.hid hl
    clear hl
    go_enter Try.func22, Try.ntmps22
    go_wp2
    go_loopw [5] (fun i wr => ∃ k : Nat, k ≤ a.length ∧ i = .int .i64 k ∧ (∀ j, (h1 : j < a.length) → (h2 : j < b.length) → j < k → a[j] = b[j]) ∧ Below w.heap.size w wr ∧ wr.heap = w.heap) (fun i _ => a.length - (intOf i).toNat)
    case atStart => exact ⟨0, by omega, rfl, fun j _ _ h => by omega, Below.refl _ _, rfl⟩
    case round =>
      obtain ⟨k, hk, rfl, heq, hbr, hheap⟩ := hrel
      have HEQ := Lib.hid heq; clear heq
      have HWH := Lib.hid hheap; clear hheap
      have HC : Hid (∀ p, wr.cell? p = w.cell? p) := Lib.hid fun p => by simp [World.cell?, HWH.out]
      by_cases hlt : k < a.length
      · have hlb : k < b.length := by have := HL.out; omega
        obtain ⟨b1, o1, e1, c1⟩ := sl_str' HA.out k hlt
        obtain ⟨b2, o2, e2, c2⟩ := sl_str' HB.out k hlb
        subst e1 e2
        rw [← HC.out] at c1 c2
        have i1 : (0 : Int) ≤ (k : Int) := by omega
        have i2 : (k : Int) < (a.length : Int) := by omega
        have HK : Hid (a[k] = b[k] → ∀ j, (h1 : j < a.length) → (h2 : j < b.length) → j < k + 1 → a[j] = b[j]) := Lib.hid fun he j h1 h2 hj => by
          by_cases hjk : j = k
          · subst hjk; exact he
          · exact HEQ.out j h1 h2 (by omega)
        have HN : Hid (a[k] ≠ b[k] → sameS a b = false) := Lib.hid fun hne => by
          unfold sameS; simp; intro h; subst h; exact hne rfl
        generalize a[k] = x at *
        generalize b[k] = y at *
        by_cases hxy : x = y
        · have HX := Lib.hid (HK.out hxy)
          subst hxy
          go_wp2
          go_quiet (fail)
          go_wp2
          go_roundw
          case rel => exact ⟨k + 1, by omega, by go_num, HX.out, hbr.trans (drewN_below _ _ _), HWH.out⟩
          case measure => simp [intOf]; omega
        · have HX := Lib.hid (HN.out hxy)
          have q1 := str_ne hxy
          go_wp2
          go_quiet (fail)
          go_wp2
          go_ret
          rw [HX.out]
          exact ⟨rfl, hbr.trans (drewN_below _ _ _)⟩
      · obtain rfl : k = a.length := by omega
        have HS : Hid (sameS a b = true) := by
          unfold Hid sameS; simp; exact List.ext_getElem HL.out (fun j h1 h2 => HEQ.out j h1 h2 h1)
        go_wp2
        go_ret
        rw [HS.out]; exact ⟨rfl, hbr⟩
  · have HS : Hid (sameS a b = false) := by unfold Hid sameS; simp; intro h; exact hl (by rw [h])
    have b1 : (a.length != b.length) = true := by simp [hl]
    have b1' : ((a.length : Int) != (b.length : Int)) = true := by simp; omega
    go_enter Try.func22, Try.ntmps22
    go_wp2
    go_ret
    rw [HS.out]; exact ⟨rfl, Below.refl _ _⟩
end Go.Proofs.Ytgcbfpimfmkbmaa.Dk
