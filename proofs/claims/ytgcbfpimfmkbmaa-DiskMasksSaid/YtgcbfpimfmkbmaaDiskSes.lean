/- A disk of the call's own, beside other data of the call's own: what each method leaves. -/
import Derived.Test.YtgcbfpimfmkbmaaDiskWalk6
namespace Go.Proofs.Ytgcbfpimfmkbmaa.Dk
set_option linter.unusedVariables false
set_option linter.unusedSimpArgs false
open Go.RowKit Go.ChangeMaps

/-- The blocks that may change: from B on, but for X. -/
def Fr (B : Nat) (X : Nat → Prop) : Nat → Prop := fun k => B ≤ k ∧ ¬ X k
/-- A disk in the state s that owns no block below B and none of X. -/
structure Ses (B : Nat) (X : Nat → Prop) (w : World) (d n : Nat) (s : DS) : Prop where
  at' : ∃ bv pv gm, DAt w d bv pv gm n s ∧ ∀ k, Ow d bv pv gm k → B ≤ k ∧ ¬ X k
  lx : ∀ k, X k → k < w.heap.size
  lb : B ≤ w.heap.size
def SPost (B : Nat) (X : Nat → Prop) (w : World) (d n : Nat) (s : DS) (r : Value) (e : Ending) (w' : World) : Prop := e = .returned r ∧ Ses B X w' d n s ∧ Kit.Keeps (Fr B X) w w'

theorem Ses.below {B : Nat} {X : Nat → Prop} {w w' : World} {d n : Nat} {s : DS} (h : Ses B X w d n s) (hb : Below w.heap.size w w') : Ses B X w' d n s := by
  obtain ⟨⟨bv, pv, gm, h1, h2⟩, h3, h4⟩ := h
  exact ⟨⟨bv, pv, gm, h1.below hb, h2⟩, fun k hk => Nat.lt_of_lt_of_le (h3 k hk) hb.size, Nat.le_trans h4 hb.size⟩
theorem Ses.fine {B : Nat} {X : Nat → Prop} {w : World} {d n : Nat} {s : DS} (h : Ses B X w d n s) : Fine s := by
  obtain ⟨⟨bv, pv, gm, h1, h2⟩, h3, h4⟩ := h
  exact h1.fine
theorem Ses.mono {B : Nat} {X : Nat → Prop} {w : World} {d n n' : Nat} {s : DS} (h : Ses B X w d n s) (hn : n ≤ n') : Ses B X w d n' s := by
  obtain ⟨⟨bv, pv, gm, h1, h2⟩, h3, h4⟩ := h
  exact ⟨⟨bv, pv, gm, h1.mono hn, h2⟩, h3, h4⟩
/-- other data are protected from now on: those of X' that are not of X have come since -/
theorem Ses.guard {B : Nat} {X X' : Nat → Prop} {w w' : World} {d n : Nat} {s : DS} (h : Ses B X w d n s) (hb : Below w.heap.size w w') (hx : ∀ k, X' k → X k ∨ w.heap.size ≤ k) (hl : ∀ k, X' k → k < w'.heap.size) : Ses B X' w' d n s := by
  obtain ⟨⟨bv, pv, gm, h1, h2⟩, h3, h4⟩ := h
  refine ⟨⟨bv, pv, gm, h1.below hb, fun k hk => ⟨(h2 k hk).1, fun hc => ?_⟩⟩, hl, Nat.le_trans h4 hb.size⟩
  rcases hx k hc with e | e
  · exact (h2 k hk).2 e
  · have := h1.lt hk; omega
theorem Ses.free {B : Nat} {X X' : Nat → Prop} {w : World} {d n : Nat} {s : DS} (h : Ses B X w d n s) (hx : ∀ k, X' k → X k) : Ses B X' w d n s := by
  obtain ⟨⟨bv, pv, gm, h1, h2⟩, h3, h4⟩ := h
  exact ⟨⟨bv, pv, gm, h1, fun k hk => ⟨(h2 k hk).1, fun hc => (h2 k hk).2 (hx k hc)⟩⟩, fun k hk => h3 k (hx k hk), h4⟩

section
variable {B : Nat} {X : Nat → Prop} {w : World} {d n : Nat} {s : DS}
theorem dpost_ses {bv pv : Value} {gm : Nat} {s' : DS} {r : Value} {e : Ending} {w' : World} (h2 : ∀ k, Ow d bv pv gm k → B ≤ k ∧ ¬ X k) (h3 : ∀ k, X k → k < w.heap.size) (h4 : B ≤ w.heap.size) (h : DPost w d bv pv gm n s' r e w') : SPost B X w d n s' r e w' := by
  obtain ⟨he, pv', g1, g2, g3⟩ := h
  refine ⟨he, ⟨⟨bv, pv', gm, g1, fun k hk => ?_⟩, fun k hk => Nat.lt_of_lt_of_le (h3 k hk) g2.size, Nat.le_trans h4 g2.size⟩, g2.mono (fun k hk => h2 k hk)⟩
  rcases hk with hk | hk | hk | hk
  · exact h2 k (Or.inl hk)
  · exact h2 k (Ow.b hk)
  · rcases g3 k hk with e | e
    · exact h2 k (Ow.p e)
    · exact ⟨by omega, fun hc => by have := h3 k hc; omega⟩
  · exact h2 k (Or.inr (Or.inr (Or.inr hk)))
theorem ses_write (h : Ses B X w d n s) (hn : n ≤ 1000000) (i : Int) (t : ByteArray) (ht : t.size ≤ maxLen) :
    Calls Try.prog 26 #[.pointer (some ⟨d, 0, none⟩), .int .i64 i, .string t] w (SPost B X w d (n + 1) (s.write i t).1 (.int .i64 (s.write i t).2)) := by
  obtain ⟨⟨bv, pv, gm, h1, h2⟩, h3, h4⟩ := h
  exact (write_any h1 hn i t ht).mono fun _ _ h => dpost_ses h2 h3 h4 h
theorem ses_flush (h : Ses B X w d n s) (hn : n ≤ 1000000) :
    Calls Try.prog 21 #[.pointer (some ⟨d, 0, none⟩)] w (SPost B X w d (n + 1) s.flush.1 (.int .i64 s.flush.2)) := by
  obtain ⟨⟨bv, pv, gm, h1, h2⟩, h3, h4⟩ := h
  exact (flush_any h1 hn).mono fun _ _ h => dpost_ses h2 h3 h4 h
theorem ses_arm (h : Ses B X w d n s) (i m : Int) (hm : 0 ≤ m ∧ m < 18446744073709551616) :
    Calls Try.prog 27 #[.pointer (some ⟨d, 0, none⟩), .int .i64 i, .int .u64 m] w (SPost B X w d (n + 1) (s.arm i m).1 (.int .i64 (s.arm i m).2)) := by
  obtain ⟨⟨bv, pv, gm, h1, h2⟩, h3, h4⟩ := h
  exact (arm_any h1 i m hm).mono fun _ _ h => dpost_ses h2 h3 h4 h
theorem ses_hit (h : Ses B X w d n s) (hn : n ≤ 1000000) (m : Int) (hm : 0 ≤ m ∧ m < 18446744073709551616) :
    Calls Try.prog 24 #[.pointer (some ⟨d, 0, none⟩), .int .u64 m] w (SPost B X w d (n + 1) (s.hit m).1 (.int .i64 (s.hit m).2)) := by
  obtain ⟨⟨bv, pv, gm, h1, h2⟩, h3, h4⟩ := h
  exact (hit_any h1 hn m hm).mono fun _ _ h => dpost_ses h2 h3 h4 h
theorem ses_recover (h : Ses B X w d n s) :
    Calls Try.prog 25 #[.pointer (some ⟨d, 0, none⟩)] w (SPost B X w d (n + 1) s.recover.1 (.int .i64 s.recover.2)) := by
  obtain ⟨⟨bv, pv, gm, h1, h2⟩, h3, h4⟩ := h
  exact (recover_any h1).mono fun _ _ h => dpost_ses h2 h3 h4 h
theorem ses_read (h : Ses B X w d n s) (i : Int) :
    Calls Try.prog 12 #[.pointer (some ⟨d, 0, none⟩), .int .i64 i] w fun e w' => e = .returned (.tuple #[.string (s.read i).1, .int .i64 (s.read i).2]) ∧ w = w' := by
  obtain ⟨⟨bv, pv, gm, h1, h2⟩, h3, h4⟩ := h
  exact read_any h1 i
theorem ses_blocks (h : Ses B X w d n s) : Calls Try.prog 13 #[.pointer (some ⟨d, 0, none⟩)] w fun e w' => e = .returned (.int .i64 s.blocks.length) ∧ w = w' := by
  obtain ⟨⟨bv, pv, gm, h1, h2⟩, h3, h4⟩ := h
  exact blocks_any h1
theorem ses_pending (h : Ses B X w d n s) : Calls Try.prog 14 #[.pointer (some ⟨d, 0, none⟩)] w fun e w' => e = .returned (.int .i64 s.pend.length) ∧ w = w' := by
  obtain ⟨⟨bv, pv, gm, h1, h2⟩, h3, h4⟩ := h
  exact pending_any h1
theorem ses_down (h : Ses B X w d n s) : Calls Try.prog 15 #[.pointer (some ⟨d, 0, none⟩)] w fun e w' => e = .returned (.bool s.down) ∧ w = w' := by
  obtain ⟨⟨bv, pv, gm, h1, h2⟩, h3, h4⟩ := h
  exact down_any h1
end
/-- New: a disk, or none. -/
theorem ses_new (m : Nat) (h1 : 1 ≤ m) (h2 : m ≤ 4096) (w : World) :
    Calls Try.prog 9 #[.int .i64 m] w fun e w' => ∃ d, e = .returned (.tuple #[.pointer (some ⟨d, 0, none⟩), .int .i64 0]) ∧ Ses w.heap.size (fun _ => False) w' d 0 (DS.new m) ∧ Below w.heap.size w w' := by
  refine (new_any m w).mono fun e w' h => ?_
  rcases h with ⟨m', d, bv, gm, e1, g1, g2, g3, g4, g5, g6⟩ | ⟨h, _⟩
  · obtain rfl : m' = m := by omega
    exact ⟨d, g3, ⟨⟨bv, _, gm, g4, fun k hk => ⟨g5 k hk, fun h => h⟩⟩, fun k h => absurd h (fun h => h), g6.size⟩, g6⟩
  · omega
theorem new_no (n : Int) (h : n < 1 ∨ 4096 < n) (w : World) :
    Calls Try.prog 9 #[.int .i64 n] w fun e w' => e = .returned (.tuple #[.pointer none, .int .i64 9]) ∧ w = w' := by
  refine (new_any n w).mono fun e w' hh => ?_
  rcases hh with ⟨m', d, bv, gm, e1, g1, g2, _⟩ | ⟨_, h2, h3⟩
  · omega
  · exact ⟨h2, h3⟩
theorem fr_below {B : Nat} {X : Nat → Prop} {w w' : World} (h : Kit.Keeps (Fr B X) w w') (hB : B ≤ w.heap.size) : Below B w w' :=
  h.below (fun k hk => ⟨by omega, fun hc => by have := hc.1; omega⟩)
end Go.Proofs.Ytgcbfpimfmkbmaa.Dk
