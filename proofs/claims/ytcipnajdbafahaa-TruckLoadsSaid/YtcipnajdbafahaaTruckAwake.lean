/- The law's own examples: awake returns true. -/
import Derived.Test.YtcipnajdbafahaaTruckTrips2
import Derived.Test.YtcipnajdbafahaaTruckSum
import Derived.Laws.StructEq
namespace Go.Proofs.Ytcipnajdbafahaa.Tk
set_option linter.unusedVariables false
set_option linter.unusedSimpArgs false
open Go.RowKit

theorem keepBlk {W w1 : World} (hb : Below W.heap.size W w1) {g : Nat} {o : Obj} (h : W.heap[g]? = some o) : w1.heap[g]? = some o := by
  rw [hb.block g (Array.getElem?_eq_some_iff.1 h).1]; exact h
theorem slKeep {α : Type} {size : Nat} {enc : α → List Value} {W w1 : World} (hb : Below W.heap.size W w1) {v : Value} {l : List α} (h : Kit.Sl size enc W W.heap.size v l) : Kit.Sl size enc w1 w1.heap.size v l :=
  (h.below hb (Nat.le_refl _)).mono hb.size
theorem newB (W : World) (o : Obj) : Below W.heap.size W (W.alloc o) := (Below.refl _ _).alloc (Nat.le_refl _) _
theorem sl_alloc_int (w : World) (C : Array Value) (l : List Int) (T n : Nat) (hn : n = l.length) (h : C.toList = l.flatMap intEnc) : Kit.Sl 1 intEnc (w.alloc (.cells C T)) (w.alloc (.cells C T)).heap.size (.slice (some ⟨w.heap.size, 0, none⟩) n n) l := by
  subst hn
  refine ⟨_, _, rfl, Nat.le_refl _, Or.inr ⟨_, _, rfl, by simp, ?_⟩⟩
  intro i j x hi hj
  rw [World.cell?_alloc_mark, ← Array.getElem?_toList, h, Nat.zero_add]
  exact Kit.flat_get (size := 1) (enc := intEnc) (fun _ => rfl) l i j x hi hj

def smp : List Par := [(5, 1, 10), (4, 1, 7), (3, 1, 6)]
theorem sl_smp (w : World) (T : Nat) : Kit.Sl 3 parEnc (w.alloc (.cells #[.int .i64 5, .int .i64 1, .int .i64 10, .int .i64 4, .int .i64 1, .int .i64 7, .int .i64 3, .int .i64 1, .int .i64 6] T)) (w.alloc (.cells #[.int .i64 5, .int .i64 1, .int .i64 10, .int .i64 4, .int .i64 1, .int .i64 7, .int .i64 3, .int .i64 1, .int .i64 6] T)).heap.size (.slice (some ⟨w.heap.size, 0, none⟩) 3 3) smp := by
  refine ⟨_, _, rfl, Nat.le_refl _, Or.inr ⟨_, _, rfl, by simp, ?_⟩⟩
  intro i j x hi hj
  rw [World.cell?_alloc_mark, ← Array.getElem?_toList, Nat.zero_add]
  exact Kit.flat_get (size := 3) (enc := parEnc) (fun _ => rfl) smp i j x hi hj

def SamplePost (w : World) (e : Ending) (w' : World) : Prop := ∃ g, e = .returned (.agg #[.slice (some ⟨g, 0, none⟩) 3 3, .int .i64 7, .int .i64 9]) ∧ Kit.Sl 3 parEnc w' w'.heap.size (.slice (some ⟨g, 0, none⟩) 3 3) smp ∧ Below w.heap.size w w'

set_option maxRecDepth 100000 in
theorem sample_any (w : World) : Calls Try.prog 21 #[] w (SamplePost w) := by
  go_enter Try.func21, Try.ntmps21
  go_wp2
  have h := sl_smp (w.alloc (.cells #[.slice (some ⟨w.heap.size + 1, 0, none⟩) 3 3, .int .i64 7, .int .i64 9] 24)) 28
  exact bodyPost_ret (v := .agg #[.slice (some ⟨w.heap.size + 1, 0, none⟩) 3 3, .int .i64 7, .int .i64 9]) (by simp [results, Try.results21, go_sem]) rfl ⟨w.heap.size + 1, rfl, by simpa using h, ((Below.refl _ _).alloc (Nat.le_refl _) _).alloc (by simp) _⟩

theorem ex1 : bestRes smp 7 9 = ([1, 2], 0) := by decide +kernel
theorem ex2 : bestRes smp 8 9 = ([0, 2], 0) := by decide +kernel
theorem ex3 : tripsRes smp 7 9 = ([[1, 2], [0]], 0) := by decide +kernel
theorem ex4 : sumOf smp [0, 2] = ((8, 2, 16), 0) := by decide +kernel
theorem ex5 : sumOf smp [2, 0] = ((0, 0, 0), 11) := by decide +kernel
theorem ex6 : checkOf smp (-1) 0 = 9 := by decide +kernel

theorem TripsAt.at {w : World} {B : Nat} {tv : Value} {ls : List (List Int)} (h : TripsAt w B tv ls) (i : Nat) (hi : i < ls.length) :
    ∃ g cap a n c, tv = .slice (some ⟨g, 0, none⟩) ls.length cap ∧ w.cell? ⟨g, i, none⟩ = some (.slice a n c) ∧ Kit.Sl 1 intEnc w w.heap.size (.slice a n c) ls[i] := by
  obtain ⟨vs, h1, h2, h3⟩ := h
  have hi' : i < vs.length := by omega
  have h4 := h1.sl (fun _ => rfl)
  rcases h1.form with ⟨_, hn⟩ | ⟨g, cap, rfl, _, _, _⟩
  · subst hn; simp at hi'
  · obtain ⟨ad, cp, he, _, hc⟩ := h4
    rcases hc with hc | ⟨b, off, hb, _, hc⟩
    · subst hc; simp at hi'
    · simp only [Value.slice.injEq] at he
      rw [hb] at he
      simp only [Option.some.injEq, Addr.mk.injEq] at he
      obtain ⟨⟨rfl, rfl, _⟩, _, _⟩ := he
      have := hc i 0 vs[i] (by simp [hi']) (by omega)
      refine ⟨g, cap, vs[i].1, vs[i].2.1, vs[i].2.2, by rw [h2], ?_, (h3 i hi' hi).1⟩
      simpa [slEnc] using this
theorem same_is (v u : Value) (a b : List Int) (r : Bool) (h : sameOf a b = r) (w : World) (hi : Nat) (ha : Kit.Sl 1 intEnc w hi v a) (hb : Kit.Sl 1 intEnc w hi u b) (hna : a.length ≤ 1000000) (hnb : b.length ≤ 1000000) :
    Calls Try.prog 17 #[v, u] w fun e w' => e = .returned (.bool r) ∧ Below w.heap.size w w' := by
  rw [← h]; exact same_any v u a b w hi ha hb hna hnb

set_option maxRecDepth 100000 in
set_option maxHeartbeats 4000000 in
theorem awake_any (w : World) : Calls Try.prog 9 #[] w fun e w' => e = .returned (.bool true) ∧ Below w.heap.size w w' := by
  go_enter Try.func9, Try.ntmps9
  go_wp2_with fail
  refine (sample_any _).mono ?_
  rintro e w1 ⟨g, rfl, hsl, hb1⟩
  have hA := newB w1 (.cells #[.slice (some ⟨g, 0, none⟩) 3 3, .int .i64 7, .int .i64 9] 24)
  have hbw : Below w.heap.size w (w1.alloc (.cells #[.slice (some ⟨g, 0, none⟩) 3 3, .int .i64 7, .int .i64 9] 24)) := hb1.trans (hA.mono hb1.size)
  have HP := Lib.hid (slKeep hA hsl)
  have HX := Lib.hid (blk_new w1 #[.slice (some ⟨g, 0, none⟩) 3 3, .int .i64 7, .int .i64 9] 24)
  clear hsl hb1 hA
  obtain ⟨hxc0, hxc1, hxc2, hxf⟩ := blk3 HX.out
  clear hxf
  go_wp2_with fail
  clear hxc0 hxc1 hxc2
  refine (best_any _ smp 7 9 _ HP.out (by decide)).mono ?_
  rintro e w2 ⟨v2, rfl, h2, hb2⟩
  replace HP := Lib.hid (slKeep hb2 HP.out)
  replace HX := Lib.hid (keepBlk hb2 HX.out)
  rw [ex1] at h2
  rw [ex1]
  have hbw2 := hbw.trans (hb2.mono hbw.size)
  clear hbw hb2
  have H2 := Lib.hid (h2)
  obtain ⟨a2, c2, rfl, _⟩ := h2
  obtain ⟨hxc0, hxc1, hxc2, hxf⟩ := blk3 HX.out
  clear hxf
  go_wp2_with fail
  clear hxc0 hxc1 hxc2
  refine (best_any _ smp 8 9 _ HP.out (by decide)).mono ?_
  rintro e w3 ⟨v3, rfl, h3, hb3⟩
  replace HP := Lib.hid (slKeep hb3 HP.out)
  replace HX := Lib.hid (keepBlk hb3 HX.out)
  replace H2 := Lib.hid (slKeep hb3 H2.out)
  rw [ex2] at h3
  rw [ex2]
  have hbw3 := hbw2.trans (hb3.mono hbw2.size)
  clear hbw2 hb3
  have H3 := Lib.hid (h3)
  obtain ⟨a3, c3, rfl, _⟩ := h3
  obtain ⟨hxc0, hxc1, hxc2, hxf⟩ := blk3 HX.out
  clear hxf
  go_wp2_with fail
  clear hxc0 hxc1 hxc2
  refine (trips_any _ smp 7 9 _ HP.out (by decide)).mono ?_
  rintro e w4 ⟨v4, rfl, h4, hb4⟩
  replace HP := Lib.hid (slKeep hb4 HP.out)
  replace HX := Lib.hid (keepBlk hb4 HX.out)
  replace H2 := Lib.hid (slKeep hb4 H2.out)
  replace H3 := Lib.hid (slKeep hb4 H3.out)
  rw [ex3] at h4
  rw [ex3]
  have hbw4 := hbw3.trans (hb4.mono hbw3.size)
  clear hbw3 hb4
  have H4 := Lib.hid (h4)
  obtain ⟨vs, hvl, hvo⟩ := h4.len
  obtain ⟨a4, c4, hv4, _⟩ := hvo.sl (fun _ => rfl)
  rw [hvl] at hv4
  subst hv4
  clear hvl hvo h4
  have hA := newB w4 (.cells #[.int .i64 0, .int .i64 2] 3)
  obtain ⟨hxc0, hxc1, hxc2, hxf⟩ := blk3 HX.out
  clear hxf
  go_wp2_with fail
  clear hxc0 hxc1 hxc2
  replace HP := Lib.hid (slKeep hA HP.out)
  replace HX := Lib.hid (keepBlk hA HX.out)
  replace H2 := Lib.hid (slKeep hA H2.out)
  replace H3 := Lib.hid (slKeep hA H3.out)
  replace H4 := Lib.hid (H4.out.below hA)
  refine (sum_any _ _ smp [0, 2] _ HP.out (by decide) (sl_alloc_int w4 _ [0, 2] _ 2 rfl rfl) (by decide)).mono ?_
  rintro e w5 ⟨rfl, hb5⟩
  rw [ex4]
  replace HP := Lib.hid (slKeep hb5 HP.out)
  replace HX := Lib.hid (keepBlk hb5 HX.out)
  replace H2 := Lib.hid (slKeep hb5 H2.out)
  replace H3 := Lib.hid (slKeep hb5 H3.out)
  replace H4 := Lib.hid (H4.out.below hb5)
  have hB := newB w5 (.cells #[.int .i64 8, .int .i64 2, .int .i64 16] 28)
  have hbw5 := (hbw4.trans (hA.mono hbw4.size)).trans (hb5.mono (Nat.le_trans hbw4.size hA.size))
  have hbw5 := hbw5.trans (hB.mono hbw5.size)
  replace HP := Lib.hid (slKeep hB HP.out)
  replace HX := Lib.hid (keepBlk hB HX.out)
  replace H2 := Lib.hid (slKeep hB H2.out)
  replace H3 := Lib.hid (slKeep hB H3.out)
  replace H4 := Lib.hid (H4.out.below hB)
  have HS := Lib.hid (blk_new w5 #[.int .i64 8, .int .i64 2, .int .i64 16] 28)
  clear hbw4 hA hb5 hB
  obtain ⟨w5a, hw5a⟩ : ∃ w5a, w5a = w5.alloc (.cells #[.int .i64 8, .int .i64 2, .int .i64 16] 28) := ⟨_, rfl⟩
  have hA := newB (w5.alloc (.cells #[.int .i64 8, .int .i64 2, .int .i64 16] 28)) (.cells #[.int .i64 2, .int .i64 0] 3)
  clear hw5a w5a
  obtain ⟨hxc0, hxc1, hxc2, hxf⟩ := blk3 HX.out
  clear hxf
  obtain ⟨hsc0, hsc1, hsc2, hsf⟩ := blk3 HS.out
  clear hsf
  go_wp2_with fail
  clear hxc0 hxc1 hxc2 hsc0 hsc1 hsc2
  replace HP := Lib.hid (slKeep hA HP.out)
  replace HX := Lib.hid (keepBlk hA HX.out)
  replace H2 := Lib.hid (slKeep hA H2.out)
  replace H3 := Lib.hid (slKeep hA H3.out)
  replace H4 := Lib.hid (H4.out.below hA)
  replace HS := Lib.hid (keepBlk hA HS.out)
  have HQ := sl_alloc_int (w5.alloc (.cells #[.int .i64 8, .int .i64 2, .int .i64 16] 28)) #[.int .i64 2, .int .i64 0] [2, 0] 3 2 rfl rfl
  rw [show (w5.alloc (.cells #[.int .i64 8, .int .i64 2, .int .i64 16] 28)).heap.size = w5.heap.size + 1 from by simp] at HQ
  refine (sum_any _ _ smp [2, 0] _ HP.out (by decide) HQ (by decide)).mono ?_
  rintro e w6 ⟨rfl, hb6⟩
  rw [ex5]
  clear HQ
  replace HP := Lib.hid (slKeep hb6 HP.out)
  replace HX := Lib.hid (keepBlk hb6 HX.out)
  replace H2 := Lib.hid (slKeep hb6 H2.out)
  replace H3 := Lib.hid (slKeep hb6 H3.out)
  replace H4 := Lib.hid (H4.out.below hb6)
  replace HS := Lib.hid (keepBlk hb6 HS.out)
  have hB := newB w6 (.cells #[.int .i64 0, .int .i64 0, .int .i64 0] 28)
  have hbw6 := (hbw5.trans (hA.mono hbw5.size)).trans (hb6.mono (Nat.le_trans hbw5.size hA.size))
  have hbw6 := hbw6.trans (hB.mono hbw6.size)
  replace HP := Lib.hid (slKeep hB HP.out)
  replace HX := Lib.hid (keepBlk hB HX.out)
  replace H2 := Lib.hid (slKeep hB H2.out)
  replace H3 := Lib.hid (slKeep hB H3.out)
  replace H4 := Lib.hid (H4.out.below hB)
  replace HS := Lib.hid (keepBlk hB HS.out)
  clear hbw5 hA hb6 hB
  obtain ⟨hxc0, hxc1, hxc2, hxf⟩ := blk3 HX.out
  clear hxf
  obtain ⟨hsc0, hsc1, hsc2, hsf⟩ := blk3 HS.out
  clear hsf
  go_wp2_with fail
  clear hxc0 hxc1 hxc2 hsc0 hsc1 hsc2
  have hA := newB (w6.alloc (.cells #[.int .i64 0, .int .i64 0, .int .i64 0] 28)) (.cells #[.int .i64 1, .int .i64 2] 3)
  replace HP := Lib.hid (slKeep hA HP.out)
  replace HX := Lib.hid (keepBlk hA HX.out)
  replace H2 := Lib.hid (slKeep hA H2.out)
  replace H3 := Lib.hid (slKeep hA H3.out)
  replace H4 := Lib.hid (H4.out.below hA)
  replace HS := Lib.hid (keepBlk hA HS.out)
  have HQ := sl_alloc_int (w6.alloc (.cells #[.int .i64 0, .int .i64 0, .int .i64 0] 28)) #[.int .i64 1, .int .i64 2] [1, 2] 3 2 rfl rfl
  rw [show (w6.alloc (.cells #[.int .i64 0, .int .i64 0, .int .i64 0] 28)).heap.size = w6.heap.size + 1 from by simp] at HQ
  refine (same_is _ _ [1, 2] [1, 2] true rfl _ _ H2.out HQ (by decide) (by decide)).mono ?_
  rintro e w7 ⟨rfl, hb7⟩
  clear HQ
  replace HP := Lib.hid (slKeep hb7 HP.out)
  replace HX := Lib.hid (keepBlk hb7 HX.out)
  replace H2 := Lib.hid (slKeep hb7 H2.out)
  replace H3 := Lib.hid (slKeep hb7 H3.out)
  replace H4 := Lib.hid (H4.out.below hb7)
  replace HS := Lib.hid (keepBlk hb7 HS.out)
  have hbw7 := (hbw6.trans (hA.mono hbw6.size)).trans (hb7.mono (Nat.le_trans hbw6.size hA.size))
  clear hbw6 hA hb7
  have hA := newB w7 (.cells #[.int .i64 0, .int .i64 2] 3)
  obtain ⟨hxc0, hxc1, hxc2, hxf⟩ := blk3 HX.out
  clear hxf
  obtain ⟨hsc0, hsc1, hsc2, hsf⟩ := blk3 HS.out
  clear hsf
  go_wp2_with fail
  clear hxc0 hxc1 hxc2 hsc0 hsc1 hsc2
  replace HP := Lib.hid (slKeep hA HP.out)
  replace HX := Lib.hid (keepBlk hA HX.out)
  replace H2 := Lib.hid (slKeep hA H2.out)
  replace H3 := Lib.hid (slKeep hA H3.out)
  replace H4 := Lib.hid (H4.out.below hA)
  replace HS := Lib.hid (keepBlk hA HS.out)
  refine (same_is _ _ [0, 2] [0, 2] true rfl _ _ H3.out (sl_alloc_int w7 _ [0, 2] _ 2 rfl rfl) (by decide) (by decide)).mono ?_
  rintro e w8 ⟨rfl, hb8⟩
  replace HP := Lib.hid (slKeep hb8 HP.out)
  replace HX := Lib.hid (keepBlk hb8 HX.out)
  replace H2 := Lib.hid (slKeep hb8 H2.out)
  replace H3 := Lib.hid (slKeep hb8 H3.out)
  replace H4 := Lib.hid (H4.out.below hb8)
  replace HS := Lib.hid (keepBlk hb8 HS.out)
  have hbw8 := (hbw7.trans (hA.mono hbw7.size)).trans (hb8.mono (Nat.le_trans hbw7.size hA.size))
  clear hbw7 hA hb8
  obtain ⟨gt, ct, ea, en, ec, hvt, hct, hst⟩ := H4.out.at 1 (by decide)
  have hvt2 : a4 = some ⟨gt, 0, none⟩ := (Value.slice.inj hvt).1
  subst hvt2
  clear hvt
  have HT := Lib.hid (hst)
  clear hst
  have hA := newB w8 (.cells #[.int .i64 0] 3)
  obtain ⟨hxc0, hxc1, hxc2, hxf⟩ := blk3 HX.out
  clear hxf
  obtain ⟨hsc0, hsc1, hsc2, hsf⟩ := blk3 HS.out
  clear hsf
  go_wp2_with fail
  clear hxc0 hxc1 hxc2 hsc0 hsc1 hsc2
  replace HP := Lib.hid (slKeep hA HP.out)
  replace HX := Lib.hid (keepBlk hA HX.out)
  replace H2 := Lib.hid (slKeep hA H2.out)
  replace H3 := Lib.hid (slKeep hA H3.out)
  replace H4 := Lib.hid (H4.out.below hA)
  replace HS := Lib.hid (keepBlk hA HS.out)
  replace HT := Lib.hid (slKeep hA HT.out)
  refine (same_is _ _ [0] [0] true rfl _ _ HT.out (sl_alloc_int w8 _ [0] _ 1 rfl rfl) (by decide) (by decide)).mono ?_
  rintro e w9 ⟨rfl, hb9⟩
  replace HP := Lib.hid (slKeep hb9 HP.out)
  replace HX := Lib.hid (keepBlk hb9 HX.out)
  replace H2 := Lib.hid (slKeep hb9 H2.out)
  replace H3 := Lib.hid (slKeep hb9 H3.out)
  replace H4 := Lib.hid (H4.out.below hb9)
  replace HS := Lib.hid (keepBlk hb9 HS.out)
  replace HT := Lib.hid (slKeep hb9 HT.out)
  have hbw9 := (hbw8.trans (hA.mono hbw8.size)).trans (hb9.mono (Nat.le_trans hbw8.size hA.size))
  clear hbw8 hA hb9 hct
  have heq : ∀ w, (binOp .eql 28 (.agg #[.int .i64 8, .int .i64 2, .int .i64 16]) (.agg #[.int .i64 8, .int .i64 2, .int .i64 16])).run Try.prog w = .ok (.bool true) w := fun _ => by kernel_rfl
  obtain ⟨hxc0, hxc1, hxc2, hxf⟩ := blk3 HX.out
  clear hxf
  obtain ⟨hsc0, hsc1, hsc2, hsf⟩ := blk3 HS.out
  clear hsf
  go_wp2_with fail
  clear hxc0 hxc1 hxc2 hsc0 hsc1 hsc2
  refine (check_any _ smp (-1) 0 _ HP.out (by decide)).mono ?_
  rintro e w10 ⟨rfl, hb10⟩
  rw [ex6]
  go_wp2
  go_ret
  exact ⟨rfl, hbw9.trans (hb10.mono hbw9.size)⟩
end Go.Proofs.Ytcipnajdbafahaa.Tk
