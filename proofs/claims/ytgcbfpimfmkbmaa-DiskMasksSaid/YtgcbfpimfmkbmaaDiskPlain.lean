/- The disk in plain Lean: its state, and what each call does. -/
import Derived.Test.YtgcbfpimfmkbmaaKit
namespace Go.Proofs.Ytgcbfpimfmkbmaa.Dk
set_option linter.unusedVariables false
set_option linter.unusedSimpArgs false

/-- The state of a disk: durable contents, pending writes, flags. -/
structure DS where
  blocks : List ByteArray
  pend : List (Int × ByteArray)
  down : Bool
  armed : Bool
  steps : Int
  mask : Int

def bitOf (m : Int) (k : Nat) : Bool := m / 2 ^ (k % 64) % 2 == 1
def settleGo (bit : Nat → Bool) : Nat → List (Int × ByteArray) → List ByteArray → List ByteArray
  | _, [], b => b
  | k, x :: r, b => settleGo bit (k + 1) r (if bit k then b.set x.1.toNat x.2 else b)
def DS.settle (s : DS) (bit : Nat → Bool) : DS := { s with blocks := settleGo bit 0 s.pend s.blocks, pend := [] }
def DS.crash (s : DS) (m : Int) : DS := { (s.settle (bitOf m)) with armed := false, steps := 0, mask := 0, down := true }
def DS.step (s : DS) : DS × Bool := if s.armed then (if s.steps = 0 then (s.crash s.mask, false) else ({ s with steps := s.steps - 1 }, true)) else (s, true)
def inB (s : DS) (n : Int) : Bool := decide (0 ≤ n) && decide (n < s.blocks.length)
def DS.write (s : DS) (n : Int) (t : ByteArray) : DS × Int :=
  if s.down then (s, 17) else if inB s n then (if 64 < t.size then (s, 4) else (if s.step.2 then ({ s.step.1 with pend := s.step.1.pend ++ [(n, t)] }, 0) else (s.step.1, 17))) else (s, 9)
/-- the last pending write to a block -/
def newest : List (Int × ByteArray) → Int → Option ByteArray
  | [], _ => none
  | x :: r, n => (newest r n).or (if x.1 = n then some x.2 else none)
def DS.read (s : DS) (n : Int) : ByteArray × Int :=
  if s.down then (ByteArray.empty, 17) else if inB s n then ((newest s.pend n).getD (s.blocks.getD n.toNat ByteArray.empty), 0) else (ByteArray.empty, 9)
def DS.flush (s : DS) : DS × Int := if s.down then (s, 17) else if s.step.2 then (s.step.1.settle (fun _ => true), 0) else (s.step.1, 17)
def DS.arm (s : DS) (n m : Int) : DS × Int := if s.down then (s, 17) else if 0 ≤ n ∧ n ≤ 1099511627776 then ({ s with armed := true, steps := n, mask := m }, 0) else (s, 9)
def DS.hit (s : DS) (m : Int) : DS × Int := if s.down then (s, 17) else (s.crash m, 0)
def DS.recover (s : DS) : DS × Int := if s.down then ({ s with down := false }, 0) else (s, 14)
def DS.new (n : Nat) : DS := ⟨List.replicate n ByteArray.empty, [], false, false, 0, 0⟩

/-- What holds of every disk. -/
structure Fine (s : DS) : Prop where
  len : 1 ≤ s.blocks.length ∧ s.blocks.length ≤ 4096
  text : ∀ x ∈ s.blocks, x.size ≤ 64
  pend : ∀ x ∈ s.pend, (∃ m : Nat, x.1 = (m : Int) ∧ m < s.blocks.length) ∧ x.2.size ≤ 64
  steps : 0 ≤ s.steps ∧ s.steps ≤ 1099511627776
  mask : 0 ≤ s.mask ∧ s.mask < 18446744073709551616

theorem settleGo_len (bit : Nat → Bool) : ∀ (p : List (Int × ByteArray)) (k : Nat) (b : List ByteArray), (settleGo bit k p b).length = b.length
  | [], _, _ => rfl
  | x :: r, k, b => by
    simp only [settleGo]
    rw [settleGo_len bit r]
    split <;> simp
theorem settleGo_mem (bit : Nat → Bool) : ∀ (p : List (Int × ByteArray)) (k : Nat) (b : List ByteArray) (Q : ByteArray → Prop), (∀ x ∈ p, Q x.2) → (∀ x ∈ b, Q x) → ∀ x ∈ settleGo bit k p b, Q x
  | [], _, b, Q, _, hb => hb
  | x :: r, k, b, Q, hp, hb => by
    simp only [settleGo]
    refine settleGo_mem bit r (k + 1) _ Q (fun y hy => hp y (List.mem_cons_of_mem _ hy)) ?_
    split
    · intro y hy
      rcases List.mem_or_eq_of_mem_set hy with h | h
      · exact hb y h
      · rw [h]; exact hp x List.mem_cons_self
    · exact hb
theorem settleGo_snoc (bit : Nat → Bool) : ∀ (p : List (Int × ByteArray)) (k : Nat) (b : List ByteArray) (x : Int × ByteArray), settleGo bit k (p ++ [x]) b = if bit (k + p.length) then (settleGo bit k p b).set x.1.toNat x.2 else settleGo bit k p b
  | [], k, b, x => by simp [settleGo]
  | y :: r, k, b, x => by
    simp only [List.cons_append, settleGo]
    rw [settleGo_snoc bit r (k + 1) _ x, List.length_cons, show k + 1 + r.length = k + (r.length + 1) from by omega]
theorem Fine.settle {s : DS} (h : Fine s) (bit : Nat → Bool) : Fine (s.settle bit) :=
  ⟨by show 1 ≤ (settleGo bit 0 s.pend s.blocks).length ∧ _; rw [settleGo_len]; exact ⟨h.len.1, by show (settleGo bit 0 s.pend s.blocks).length ≤ _; rw [settleGo_len]; exact h.len.2⟩,
   settleGo_mem bit s.pend 0 s.blocks _ (fun x hx => (h.pend x hx).2) h.text, by simp [DS.settle], h.steps, h.mask⟩
theorem Fine.crash {s : DS} (h : Fine s) (m : Int) : Fine (s.crash m) := by
  have := h.settle (bitOf m)
  exact ⟨this.len, this.text, this.pend, ⟨by simp [DS.crash], by simp [DS.crash]⟩, ⟨by simp [DS.crash], by simp [DS.crash]⟩⟩
theorem Fine.step {s : DS} (h : Fine s) : Fine s.step.1 := by
  unfold DS.step
  split
  · split
    · exact h.crash _
    · have := h.steps
      exact ⟨h.len, h.text, h.pend, ⟨by simp; omega, by simp; omega⟩, h.mask⟩
  · exact h
theorem step_blocks (s : DS) : s.step.1.blocks.length = s.blocks.length := by
  unfold DS.step
  split
  · split
    · simp [DS.crash, DS.settle, settleGo_len]
    · rfl
  · rfl
theorem inB_iff (s : DS) (n : Int) : inB s n = true ↔ ∃ m : Nat, n = (m : Int) ∧ m < s.blocks.length := by
  unfold inB
  simp only [Bool.and_eq_true, decide_eq_true_eq]
  constructor
  · rintro ⟨h1, h2⟩; exact ⟨n.toNat, by omega, by omega⟩
  · rintro ⟨m, rfl, h⟩; exact ⟨by omega, by omega⟩
theorem Fine.push {s : DS} (h : Fine s) {m : Nat} {t : ByteArray} (hm : m < s.blocks.length) (ht : t.size ≤ 64) : Fine { s with pend := s.pend ++ [((m : Int), t)] } :=
  ⟨h.len, h.text, fun x hx => by
    rcases List.mem_append.1 hx with hx | hx
    · exact h.pend x hx
    · simp at hx; subst hx; exact ⟨⟨m, rfl, hm⟩, ht⟩, h.steps, h.mask⟩
theorem Fine.new (n : Nat) (h1 : 1 ≤ n) (h2 : n ≤ 4096) : Fine (DS.new n) :=
  ⟨by simp [DS.new]; omega, fun x hx => by simp [DS.new] at hx; rw [hx.2]; decide, by simp [DS.new], by simp [DS.new], by simp [DS.new]⟩
theorem newest_snoc : ∀ (p : List (Int × ByteArray)) (x : Int × ByteArray) (n : Int), newest (p ++ [x]) n = if x.1 = n then some x.2 else newest p n
  | [], x, n => by simp [newest]
  | y :: r, x, n => by
    simp only [List.cons_append, newest]
    rw [newest_snoc r x n]
    split <;> simp
/-- behind the first k of them -/
theorem newest_none {p : List (Int × ByteArray)} {n : Int} (h : ∀ x ∈ p, x.1 ≠ n) : newest p n = none := by
  induction p with
  | nil => rfl
  | cons y r ih =>
    simp only [newest]
    rw [ih (fun x hx => h x (List.mem_cons_of_mem _ hx)), if_neg (h y List.mem_cons_self)]
    rfl
end Go.Proofs.Ytgcbfpimfmkbmaa.Dk
