/- The disk in plain Lean: what a crash with a mask leaves. -/
import Derived.Test.YtgcbfpimfmkbmaaDiskSteps
namespace Go.Proofs.Ytgcbfpimfmkbmaa.Dk
set_option linter.unusedVariables false
set_option linter.unusedSimpArgs false
open Go.RowKit Go.ChangeMaps

theorem settle_get (bit : Nat → Bool) : ∀ (p : List (Int × ByteArray)) (k : Nat) (b : List ByteArray) (n : Nat), (∀ x ∈ p, ∃ m : Nat, x.1 = (m : Int)) →
    (settleGo bit k p b).getD n ByteArray.empty = b.getD n ByteArray.empty ∨ ∃ x ∈ p, x.1 = (n : Int) ∧ x.2 = (settleGo bit k p b).getD n ByteArray.empty
  | [], _, b, n, _ => Or.inl rfl
  | x :: r, k, b, n, hp => by
    simp only [settleGo]
    obtain ⟨m, hm⟩ := hp x List.mem_cons_self
    rcases settle_get bit r (k + 1) (if bit k = true then b.set x.1.toNat x.2 else b) n (fun y hy => hp y (List.mem_cons_of_mem _ hy)) with h | ⟨y, h1, h2, h3⟩
    · by_cases hb : bit k = true
      · rw [if_pos hb] at h ⊢
        by_cases e : m = n
        · by_cases hn : n < b.length
          · right
            refine ⟨x, List.mem_cons_self, by rw [hm, e], ?_⟩
            rw [h, hm, Int.toNat_natCast, e]; simp [hn]
          · left
            rw [h, hm, Int.toNat_natCast, e]
            simp [List.getD_eq_getElem?_getD, hn]
        · left
          rw [h, hm, Int.toNat_natCast]
          simp [List.getD_eq_getElem?_getD, List.getElem?_set, e]
      · rw [if_neg hb] at h ⊢
        exact Or.inl h
    · exact Or.inr ⟨y, List.mem_cons_of_mem _ h1, h2, h3⟩
theorem settle_none : ∀ (bit : Nat → Bool) (p : List (Int × ByteArray)) (k : Nat) (b : List ByteArray), (∀ j, bit j = false) → settleGo bit k p b = b
  | _, [], _, _, _ => rfl
  | bit, x :: r, k, b, h => by simp only [settleGo]; rw [h k]; simp [settle_none bit r (k + 1) b h]
theorem bit_zero (k : Nat) : bitOf 0 k = false := by unfold bitOf; simp
/-- a disk that is up and not armed, without pending writes: its contents are its blocks -/
theorem contents_blocks {s : DS} (hd : s.down = false) (hp : s.pend = []) (h8 : s.blocks.length ≤ 8) : contentsOf s = s.blocks := by
  unfold contentsOf
  rw [Nat.min_eq_left h8]
  refine List.ext_getElem (by simp) fun i h1 h2 => ?_
  simp only [List.getElem_map, List.getElem_range]
  rw [read_up hd i h2, hp]
  simp [newest, h2]
theorem contents_len (s : DS) (h8 : s.blocks.length ≤ 8) : (contentsOf s).length = s.blocks.length := by unfold contentsOf; simp; omega
/-- an unarmed disk -/
structure Calm (s : DS) : Prop where
  armed : s.armed = false
  up : s.down = false
theorem calm_flush {s : DS} (h : Calm s) : s.flush = (s.settle (fun _ => true), 0) := by
  have : s.step = (s, true) := by unfold DS.step; rw [h.armed]; rfl
  unfold DS.flush; rw [h.up, this]; rfl
theorem calm_write {s : DS} (h : Calm s) (i : Int) (t : ByteArray) : s.write i t = ({ s with pend := s.pend ++ [(i, t)] }, 0) ∨ ∃ c : Int, s.write i t = (s, c) ∧ (c = 9 ∨ c = 4) := by
  have hst : s.step = (s, true) := by unfold DS.step; rw [h.armed]; rfl
  by_cases hi : inB s i = true
  · by_cases ht : 64 < t.size
    · exact Or.inr ⟨4, by unfold DS.write; rw [h.up, hi]; simp [ht], Or.inr rfl⟩
    · left; unfold DS.write; rw [hi, hst]; simp [ht, h.up]
  · exact Or.inr ⟨9, by unfold DS.write; rw [h.up]; simp [hi], Or.inl rfl⟩
def pairOf (o : OpD) : Int × ByteArray := (o.2.1, o.2.2.1)
/-- the test of the law, behind i of the writes -/
def okAt (nw old : ByteArray) (n : Int) (made : List OpD) (i : Nat) : Bool := (nw.toList == old.toList) || (made.take i).any (fun o => (o.2.1 == n) && (o.2.2.1.toList == nw.toList))
theorem okAt_succ (nw old : ByteArray) (n : Int) (made : List OpD) (i : Nat) (hi : i < made.length) : okAt nw old n made (i + 1) = (okAt nw old n made i || ((made[i].2.1 == n) && (made[i].2.2.1.toList == nw.toList))) := by
  unfold okAt
  rw [List.take_succ_eq_append_getElem hi, List.any_append]
  simp [Bool.or_assoc]
theorem okAt_all {s : DS} (hf : Fine s) (bit : Nat → Bool) (made : List OpD) (hm : made.map pairOf = s.pend) (n : Nat) (hn : n < s.blocks.length) (hn' : n < (settleGo bit 0 s.pend s.blocks).length) : okAt ((settleGo bit 0 s.pend s.blocks)[n]) s.blocks[n] n made made.length = true := by
  unfold okAt
  rw [List.take_length]
  have h := settle_get bit s.pend 0 s.blocks n (fun x hx => by obtain ⟨⟨m, h1, _⟩, _⟩ := hf.pend x hx; exact ⟨m, h1⟩)
  have e1 : (settleGo bit 0 s.pend s.blocks).getD n ByteArray.empty = (settleGo bit 0 s.pend s.blocks)[n] := by simp [hn']
  have e2 : s.blocks.getD n ByteArray.empty = s.blocks[n] := by simp [hn]
  rw [e1, e2] at h
  rcases h with h | ⟨x, h1, h2, h3⟩
  · rw [h]; simp
  · rw [← hm] at h1
    obtain ⟨o, ho, rfl⟩ := List.mem_map.1 h1
    rw [Bool.or_eq_true]
    right
    refine List.any_eq_true.2 ⟨o, ho, ?_⟩
    have h2' : o.2.1 = (n : Int) := h2
    have h3' : o.2.2.1 = _ := h3
    rw [h2', h3']
    simp
theorem contents_get (s : DS) (i : Nat) (h : i < (contentsOf s).length) : (contentsOf s)[i] = (s.read i).1 := by simp [contentsOf]
/-- with all bits all writes become durable -/
theorem now_last {s : DS} (hf : Fine s) (hd : s.down = false) (h8 : s.blocks.length ≤ 8) : settleGo (bitOf 18446744073709551615) 0 s.pend s.blocks = contentsOf s := by
  rw [bit_all]
  refine List.ext_getElem (by rw [settleGo_len, contents_len s h8]) fun i h1 h2 => ?_
  have hi : i < s.blocks.length := by rw [settleGo_len] at h1; exact h1
  have h := settle_all_get s.pend 0 s.blocks i (fun x hx => (hf.pend x hx).1) hi
  rw [show (settleGo (fun _ => true) 0 s.pend s.blocks).getD i ByteArray.empty = (settleGo (fun _ => true) 0 s.pend s.blocks)[i] from by simp [h1]] at h
  rw [h, contents_get, read_up hd i hi]
theorem now_old (s : DS) : settleGo (bitOf 0) 0 s.pend s.blocks = s.blocks := settle_none _ _ _ _ bit_zero
theorem crash_read {s : DS} (hd : s.down = false) (m : Int) (h8 : s.blocks.length ≤ 8) : s.hit m = (s.crash m, 0) ∧ (s.crash m).recover.2 = 0 ∧ contentsOf (s.crash m).recover.1 = settleGo (bitOf m) 0 s.pend s.blocks := by
  have hr : (s.crash m).recover = ({ (s.crash m) with down := false }, 0) := rfl
  refine ⟨by unfold DS.hit; rw [hd]; rfl, by rw [hr], ?_⟩
  rw [hr, contents_blocks rfl rfl (by show (settleGo (bitOf m) 0 s.pend s.blocks).length ≤ 8; rw [settleGo_len]; exact h8)]
  rfl
theorem info_op : (Try.prog.info? 42).map (fun i => (i.zero, i.size, i.bytes)) = some (some (.agg #[.int .i64 0, .int .i64 0, .string ByteArray.empty, .int .u64 0]), 4, 40) := by kernel_rfl
theorem T_op : Kit.SlTy Try.prog 38 42 4 40 opEnc where
  und := Try.underlying38
  info := by obtain ⟨i, h1, h2, h3, h4⟩ := info_parts info_op; exact ⟨i, _, h1, h2, h3, h4, rfl⟩
  pos := by decide
  len := fun _ => rfl
  one := fun x u h => by simp [opEnc] at h; rcases h with rfl | rfl | rfl | rfl <;> rfl
end Go.Proofs.Ytgcbfpimfmkbmaa.Dk
