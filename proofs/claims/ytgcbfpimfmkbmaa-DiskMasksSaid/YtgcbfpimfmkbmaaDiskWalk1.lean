/- The walks of the disk's small methods: has, Down, Blocks, Pending, New, Read. -/
import Derived.Test.YtgcbfpimfmkbmaaDiskAt
namespace Go.Proofs.Ytgcbfpimfmkbmaa.Dk
set_option linter.unusedVariables false
set_option linter.unusedSimpArgs false
open Go.RowKit Go.ChangeMaps

theorem blkc {w : World} {g : Nat} {C : Array Value} {T : TypeId} {fz : Nat × Nat} (h : w.heap[g]? = some (.cells C T fz)) (j : Nat) (v : Value) (hv : C[j]? = some v) : w.cell? ⟨g, j, none⟩ = some v := by
  simp [World.cell?, h, hv]
theorem blkf {w : World} {g : Nat} {C : Array Value} {T : TypeId} (h : w.heap[g]? = some (.cells C T (0, 0))) (j : Nat) : w.frozen? ⟨g, j, none⟩ = false := by
  simp [World.frozen?, h]
theorem blk_new (w : World) (C : Array Value) (T : TypeId) : (w.alloc (.cells C T)).heap[w.heap.size]? = some (.cells C T (0, 0)) := by
  show (w.heap.push _)[w.heap.size]? = _
  simp
theorem blk_set {w : World} {g : Nat} {C : Array Value} {T : TypeId} (h : w.heap[g]? = some (.cells C T (0, 0))) (j : Nat) (v : Value) : (w.setCell ⟨g, j, none⟩ v).heap[g]? = some (.cells (C.setIfInBounds j v) T (0, 0)) := by
  simp only [World.setCell, Array.getElem?_modify, h]
  simp
theorem ret_bool {a b : Bool} (h : a = b) : Ending.returned (.bool a) = .returned (.bool b) := by rw [h]
theorem chainB {W0 W w' : World} (h1 : Below W0.heap.size W0 W) (h2 : Below W.heap.size W w') : Below W0.heap.size W0 w' := h1.trans (h2.mono h1.size)
theorem newB (W : World) (o : Obj) : Below W.heap.size W (W.alloc o) := (Below.refl _ _).alloc (Nat.le_refl _) _
theorem DAt.bform {w : World} {d : Nat} {bv pv : Value} {gm n : Nat} {s : DS} (h : DAt w d bv pv gm n s) : ∃ g cap, bv = .slice (some ⟨g, 0, none⟩) s.blocks.length cap := by
  rcases h.blocks.form with ⟨_, h0⟩ | ⟨g, cap, h1, _⟩
  · have := h.fine.len.1; rw [h0] at this; simp at this
  · exact ⟨g, cap, h1⟩
theorem DAt.pform {w : World} {d : Nat} {bv pv : Value} {gm n : Nat} {s : DS} (h : DAt w d bv pv gm n s) : ∃ a cap, pv = .slice a s.pend.length cap := by
  obtain ⟨a, c, h, _⟩ := h.pend.sl (fun _ => rfl)
  exact ⟨a, c, h⟩

set_option maxRecDepth 100000 in
set_option maxHeartbeats 1000000 in
theorem has_any {w : World} {d : Nat} {bv pv : Value} {gm n : Nat} {s : DS} (h : DAt w d bv pv gm n s) (i : Int) :
    Calls Try.prog 28 #[.pointer (some ⟨d, 0, none⟩), .int .i64 i] w fun e w' => e = .returned (.bool (inB s i)) ∧ w = w' := by
  have c0 := blkc h.blk 0 _ rfl
  obtain ⟨g, cap, rfl⟩ := h.bform
  have HF : Hid (inB s i = (decide (0 ≤ i) && decide (i < s.blocks.length))) := Lib.hid rfl
  have hl := h.fine.len
  obtain ⟨hl1, hl2⟩ := hl
  generalize s.blocks.length = L at *
  clear h
  by_cases h1 : 0 ≤ i
  · by_cases h2 : i < L
    · have b1 : decide (0 ≤ i) = true := by simpa using h1
      have b2 : decide (i < (L : Int)) = true := by simpa using h2
      go_enter Try.func28, Try.ntmps28
      go_wp2
      go_ret
      exact ⟨ret_bool (by rw [HF.out, b1, b2]; rfl), rfl⟩
    · have b1 : decide (0 ≤ i) = true := by simpa using h1
      have b2 : decide (i < (L : Int)) = false := by simpa using h2
      go_enter Try.func28, Try.ntmps28
      go_wp2
      go_ret
      exact ⟨ret_bool (by rw [HF.out, b1, b2]; rfl), rfl⟩
  · have b1 : decide (0 ≤ i) = false := by simpa using h1
    go_enter Try.func28, Try.ntmps28
    go_wp2
    go_ret
    exact ⟨ret_bool (by rw [HF.out, b1]; rfl), rfl⟩

theorem down_any {w : World} {d : Nat} {bv pv : Value} {gm n : Nat} {s : DS} (h : DAt w d bv pv gm n s) :
    Calls Try.prog 15 #[.pointer (some ⟨d, 0, none⟩)] w fun e w' => e = .returned (.bool s.down) ∧ w = w' := by
  have c0 := blkc h.blk 6 _ rfl
  clear h
  go_enter Try.func15, Try.ntmps15
  go_wp2
  go_ret
  exact ⟨rfl, rfl⟩
theorem blocks_any {w : World} {d : Nat} {bv pv : Value} {gm n : Nat} {s : DS} (h : DAt w d bv pv gm n s) :
    Calls Try.prog 13 #[.pointer (some ⟨d, 0, none⟩)] w fun e w' => e = .returned (.int .i64 s.blocks.length) ∧ w = w' := by
  have c0 := blkc h.blk 0 _ rfl
  obtain ⟨g, cap, rfl⟩ := h.bform
  clear h
  go_enter Try.func13, Try.ntmps13
  go_wp2
  go_ret
  exact ⟨rfl, rfl⟩
theorem pending_any {w : World} {d : Nat} {bv pv : Value} {gm n : Nat} {s : DS} (h : DAt w d bv pv gm n s) :
    Calls Try.prog 14 #[.pointer (some ⟨d, 0, none⟩)] w fun e w' => e = .returned (.int .i64 s.pend.length) ∧ w = w' := by
  have c0 := blkc h.blk 1 _ rfl
  obtain ⟨g, cap, rfl⟩ := h.pform
  clear h
  go_enter Try.func14, Try.ntmps14
  go_wp2
  go_ret
  exact ⟨rfl, rfl⟩

/-- What New returns. -/
def NewPost (n : Int) (w : World) (e : Ending) (w' : World) : Prop :=
  (∃ (m : Nat) (d : Nat) (bv : Value) (gm : Nat), n = (m : Int) ∧ 1 ≤ m ∧ m ≤ 4096 ∧ e = .returned (.tuple #[.pointer (some ⟨d, 0, none⟩), .int .i64 0]) ∧ DAt w' d bv (.slice none 0 0) gm 0 (DS.new m) ∧ (∀ k, Ow d bv (.slice none 0 0) gm k → w.heap.size ≤ k) ∧ Below w.heap.size w w')
  ∨ ((n < 1 ∨ 4096 < n) ∧ e = .returned (.tuple #[.pointer none, .int .i64 9]) ∧ w = w')
theorem zero_str (i : TypeInfo) (z : Value) (h : Try.prog.info? 9 = some i) (hz : i.zero = some z) : z.cells.toList = strEnc ByteArray.empty := by
  have h0 : (Try.prog.info? 9).map (fun i => i.zero) = some (some (.string ByteArray.empty)) := by kernel_rfl
  rw [h] at h0
  simp only [Option.map_some, Option.some.injEq] at h0
  rw [h0] at hz
  obtain rfl := Option.some.inj hz
  rfl
theorem MapIs.new (w : World) : MapIs (w.alloc (.map #[] 0)) w.heap.size 0 (fun _ => none) :=
  ⟨.map [], World.ownsMap_made w _ _ _, fun x _ => ⟨rfl, fun s h => by simp at h⟩⟩

set_option maxRecDepth 100000 in
set_option maxHeartbeats 1000000 in
theorem new_any (n : Int) (w : World) : Calls Try.prog 9 #[.int .i64 n] w (NewPost n w) := by
  by_cases h1 : n < 1
  · have b1 : decide (n < 1) = true := by simpa using h1
    go_enter Try.func9, Try.ntmps9
    go_wp2
    go_ret2
    exact Or.inr ⟨Or.inl h1, rfl, rfl⟩
  · have b1 : decide (n < 1) = false := by simpa using h1
    by_cases h2 : 4096 < n
    · have b2 : decide (4096 < n) = true := by simpa using h2
      go_enter Try.func9, Try.ntmps9
      go_wp2
      go_ret2
      exact Or.inr ⟨Or.inr h2, rfl, rfl⟩
    · have b2 : decide (4096 < n) = false := by simpa using h2
      obtain ⟨m, rfl⟩ : ∃ m : Nat, n = (m : Int) := ⟨n.toNat, by omega⟩
      have hmm := @run_makeMap Try.prog
      have hm1 : 1 ≤ m := by omega
      have hm2 : m ≤ 4096 := by omega
      go_enter Try.func9, Try.ntmps9
      go_wp2_with (at_make; refine Kit.wp_make T_str ByteArray.empty zero_str w rfl _ _ rfl w.heap.size m rfl rfl (by omega) (by unfold maxLen; omega) (Nat.le_refl _) w.heap.size rfl ?_)
      intro w1 hown hb1 hs1
      have HO := Lib.hid hown; clear hown
      go_wp2
      go_ret2
      have e1 : (w1.alloc (.map #[] 0)).heap.size = w1.heap.size + 1 := by simp
      have hb2 := newB w1 (.map #[] 0)
      have hb3 := newB (w1.alloc (.map #[] 0)) (.cells #[.slice (some ⟨w.heap.size, 0, none⟩) m m, .slice none 0 0, .map (some w1.heap.size), .bool false, .int .i64 0, .int .u64 0, .bool false] 60)
      have hblk := blk_new (w1.alloc (.map #[] 0)) #[.slice (some ⟨w.heap.size, 0, none⟩) m m, .slice none 0 0, .map (some w1.heap.size), .bool false, .int .i64 0, .int .u64 0, .bool false] 60
      rw [e1] at hblk
      refine Or.inl ⟨m, w1.heap.size + 1, .slice (some ⟨w.heap.size, 0, none⟩) m m, w1.heap.size, rfl, hm1, hm2, rfl, ⟨hblk, ((HO.out.below' hb2).below' hb3).mono (Nat.zero_le _), Kit.Own.nil _ _, ?_, Fine.new m hm1 hm2, Nat.zero_le _, by omega, ?_, ?_⟩, ?_, chainB (chainB hb1 hb2) hb3⟩
      · refine ((MapIs.new w1).keeps (S := fun _ => False) (Kit.Keeps.of_below hb3) (fun h => h)).congr (fun x _ => rfl)
      · intro k hk
        simp [Value.ownBlock] at hk
        omega
      · intro k hk; simp [Value.ownBlock] at hk
      · rintro k (rfl | hk | hk | rfl)
        · omega
        · simp [Value.ownBlock] at hk; omega
        · simp [Value.ownBlock] at hk
        · omega

/-- v, ok := m[k] -/
theorem wp_look {ops : Array Oper} {rest : List Oper} {o : Oper} {a : Act} {Q : Exit → Act → World → Prop} (w : World) (hg : o.guard = none) (m x : Operand) (hop : o.op = Op.lookup 57 m x true)
    (gm n : Nat) (f : Int → Option ByteArray) (h : MapIs w gm n f) (i : Int) (hi : (Lit.int .i64 i).wf = true) (hm : a.eval m = .map (some gm)) (hx : a.eval x = .int .i64 i) (r : ByteArray × Bool)
    (hr : r = match f i with | some s => (s, true) | none => (ByteArray.empty, false))
    (hK : wpList Try.prog ops Q rest (a.put o.dst (.tuple #[.string r.1, .bool r.2])) w) : wpList Try.prog ops Q (o :: rest) a w := by
  obtain ⟨D, h1, h2⟩ := h
  obtain ⟨h3, h4⟩ := h2 i hi
  refine wpList_lookup_own_ok w hg m x 57 hop 3 9 (Maps.int_keyed Try.underlying3) Try.underlying57 (plainElem Try.prog 9) (z := .string ByteArray.empty) (by kernel_rfl) (.lit (.string [])) [] (plainElem_string Try.underlying9 (by decide)) gm n D hm h1 (.int .i64 i) (.int .i64 i) hx (Maps.keyOf_int_mk Try.underlying3 hi) ?_
  intro v ps hv
  obtain ⟨s', rfl, hz, hs'⟩ := plainElem_string_inv Try.underlying9 hv
  simp only [Prod.mk.injEq] at hz
  have hbe : ∀ a b : ByteArray, a.data.toList = b.data.toList → a = b := fun a b h => by
    cases a; cases b; simp at h; rw [h]
  cases hf : f i with
  | none =>
    rw [hf] at h3 hr
    rw [Maps.atKey_of_not_has (by rw [h3]; rfl)] at hz
    have : s' = ByteArray.empty := hbe _ _ (by simpa using hz.1.symm)
    subst this
    rw [h3]; rw [hr] at hK; exact hK
  | some s =>
    rw [hf] at h3 hr
    rw [h4 s hf] at hz
    have : s' = s := hbe _ _ (by simpa using hz.1.symm)
    subst this
    rw [h3]; rw [hr] at hK; exact hK

theorem wf_nat (m : Nat) (h : m ≤ 1000000) : (Lit.int .i64 (m : Int)).wf = true := by
  exact WalkArith.wf_i64 ⟨by omega, by omega⟩
theorem own_str {w : World} {B g cap n : Nat} {l : List ByteArray} (h : Kit.Own 9 1 strEnc w B (.slice (some ⟨g, 0, none⟩) n cap) l) (m : Nat) (hm : m < l.length) : w.cell? ⟨g, m, none⟩ = some (.string l[m]) := by
  obtain ⟨ad, cp, hv, _, hc⟩ := h.sl (fun _ => rfl)
  rcases hc with hc | ⟨b, off, rfl, _, hc⟩
  · subst hc; simp at hm
  · have := (Value.slice.inj hv).1
    simp only [Option.some.injEq, Addr.mk.injEq] at this
    obtain ⟨rfl, rfl, _⟩ := this
    have := hc m 0 l[m] (by simp [hm]) (by omega)
    simpa [strEnc] using this
def ReadPost (s : DS) (i : Int) (w : World) (e : Ending) (w' : World) : Prop := e = .returned (.tuple #[.string (s.read i).1, .int .i64 (s.read i).2]) ∧ w = w'
set_option maxRecDepth 100000 in
set_option maxHeartbeats 1000000 in
theorem read_any {w : World} {d : Nat} {bv pv : Value} {gm n : Nat} {s : DS} (h : DAt w d bv pv gm n s) (i : Int) :
    Calls Try.prog 12 #[.pointer (some ⟨d, 0, none⟩), .int .i64 i] w (ReadPost s i w) := by
  have H := Lib.hid h
  have c0 := blkc h.blk 0 _ rfl
  have c2 := blkc h.blk 2 _ rfl
  have c6 := blkc h.blk 6 _ rfl
  obtain ⟨g, cap, rfl⟩ := h.bform
  clear h
  rcases (Bool.eq_false_or_eq_true s.down).symm with hd | hd
  · rw [hd] at c6
    rcases (Bool.eq_false_or_eq_true (inB s i)).symm with hi | hi
    · have HR : Hid (s.read i = (ByteArray.empty, 9)) := by unfold Hid DS.read; rw [hd, hi]; rfl
      have HI := Lib.hid hi
      clear hd hi
      go_enter Try.func12, Try.ntmps12
      go_wp2_with fail
      refine (has_any H.out i).mono ?_
      rintro e w1 ⟨rfl, rfl⟩
      rw [HI.out]
      go_wp2
      go_ret2
      show ReadPost _ _ _ _ _
      unfold ReadPost; rw [HR.out]; exact ⟨rfl, rfl⟩
    · obtain ⟨m, rfl, hm⟩ := (inB_iff s i).1 hi
      have hl := H.out.fine.len
      have cm := own_str H.out.blocks m hm
      have hwf : (Lit.int .i64 (m : Int)).wf = true := wf_nat m (by omega)
      have HR : Hid (s.read m = ((newest s.pend m).getD s.blocks[m], 0)) := by unfold Hid DS.read; rw [hd, hi]; simp [hm]
      have HI := Lib.hid hi
      have j1 : (0 : Int) ≤ (m : Int) := by omega
      have j2 : (m : Int) < (s.blocks.length : Int) := by omega
      clear hd hi
      have HW := Lib.hid hwf; clear hwf hl
      generalize s.blocks[m] = bm at *
      generalize s.blocks.length = L at *
      cases hn : newest s.pend m with
      | none =>
        have HRR : Hid ((ByteArray.empty, false) = match newest s.pend m with | some s => (s, true) | none => (ByteArray.empty, false)) := by unfold Hid; rw [hn]
        have HR2 : Hid (s.read m = (bm, 0)) := by unfold Hid; rw [HR.out, hn]; rfl
        clear hn HR
        go_enter Try.func12, Try.ntmps12
        go_wp2_with fail
        refine (has_any H.out m).mono ?_
        rintro e w1 ⟨rfl, rfl⟩
        rw [HI.out]
        go_wp2_with (at_lookup; refine wp_look w rfl _ _ rfl gm n _ H.out.map m HW.out rfl rfl (ByteArray.empty, false) HRR.out ?_)
        go_ret2
        show ReadPost _ _ _ _ _
        unfold ReadPost; rw [HR2.out]; exact ⟨rfl, rfl⟩
      | some x =>
        have HRR : Hid ((x, true) = match newest s.pend m with | some s => (s, true) | none => (ByteArray.empty, false)) := by unfold Hid; rw [hn]
        have HR2 : Hid (s.read m = (x, 0)) := by unfold Hid; rw [HR.out, hn]; rfl
        clear hn HR
        go_enter Try.func12, Try.ntmps12
        go_wp2_with fail
        refine (has_any H.out m).mono ?_
        rintro e w1 ⟨rfl, rfl⟩
        rw [HI.out]
        go_wp2_with (at_lookup; refine wp_look w rfl _ _ rfl gm n _ H.out.map m HW.out rfl rfl (x, true) HRR.out ?_)
        go_ret2
        show ReadPost _ _ _ _ _
        unfold ReadPost; rw [HR2.out]; exact ⟨rfl, rfl⟩
  · rw [hd] at c6
    have HR : Hid (s.read i = (ByteArray.empty, 17)) := by unfold Hid DS.read; rw [hd]; rfl
    clear hd
    go_enter Try.func12, Try.ntmps12
    go_wp2
    go_ret2
    show ReadPost _ _ _ _ _
    unfold ReadPost; rw [HR.out]; exact ⟨rfl, rfl⟩
end Go.Proofs.Ytgcbfpimfmkbmaa.Dk
