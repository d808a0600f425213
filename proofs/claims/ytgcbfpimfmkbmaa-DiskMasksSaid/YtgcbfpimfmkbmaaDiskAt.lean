/- How a disk lies in memory, and what a call may change. -/
import Derived.Test.YtgcbfpimfmkbmaaDiskPlain
import Derived.Test.YtgcbfpimfmkbmaaKitKeep
import Derived.Test.YtgcbfpimfmkbmaaKitMake
import Derived.Test.YtgcbfpimfmkbmaaProg
import Derived.Test.YtgcbfpimfmkbmaaChecked
import Derived.Maps.OwnSet
import Derived.Maps.StringElems
namespace Go.Proofs.Ytgcbfpimfmkbmaa.Dk
set_option linter.unusedVariables false
set_option linter.unusedSimpArgs false
open Go.RowKit Go.ChangeMaps

def strEnc (s : ByteArray) : List Value := [.string s]
def wrEnc (x : Int × ByteArray) : List Value := [.int .i64 x.1, .string x.2]
theorem info_str : (Try.prog.info? 9).map (fun i => (i.zero, i.size, i.bytes)) = some (some (.string ByteArray.empty), 1, 16) := by kernel_rfl
theorem info_wr : (Try.prog.info? 72).map (fun i => (i.zero, i.size, i.bytes)) = some (some (.agg #[.int .i64 0, .string ByteArray.empty]), 2, 24) := by kernel_rfl
theorem info_pn : (Try.prog.info? 68).map (fun i => (i.zero, i.size, i.bytes)) = some (some (.agg #[.int .i64 0, .string ByteArray.empty]), 2, 24) := by kernel_rfl
theorem T_str : Kit.SlTy Try.prog 26 9 1 16 strEnc where
  und := Try.underlying26
  info := by obtain ⟨i, h1, h2, h3, h4⟩ := info_parts info_str; exact ⟨i, _, h1, h2, h3, h4, rfl⟩
  pos := by decide
  len := fun _ => rfl
  one := fun x u h => by simp [strEnc] at h; subst h; rfl
theorem T_wr : Kit.SlTy Try.prog 58 72 2 24 wrEnc where
  und := Try.underlying58
  info := by obtain ⟨i, h1, h2, h3, h4⟩ := info_parts info_wr; exact ⟨i, _, h1, h2, h3, h4, rfl⟩
  pos := by decide
  len := fun _ => rfl
  one := fun x u h => by simp [wrEnc] at h; rcases h with rfl | rfl <;> rfl
theorem T_pn : Kit.SlTy Try.prog 27 68 2 24 wrEnc where
  und := Try.underlying27
  info := by obtain ⟨i, h1, h2, h3, h4⟩ := info_parts info_pn; exact ⟨i, _, h1, h2, h3, h4, rfl⟩
  pos := by decide
  len := fun _ => rfl
  one := fun x u h => by simp [wrEnc] at h; rcases h with rfl | rfl <;> rfl

/-- the map of the last pending writes -/
def MapIs (w : World) (gm n : Nat) (f : Int → Option ByteArray) : Prop :=
  ∃ D : DataW Unit, w.ownsMap Try.prog 3 (plainElem Try.prog 9) gm n D ∧ ∀ x : Int, (Lit.int .i64 x).wf = true → Maps.has D (.int .i64 x) = (f x).isSome ∧ ∀ s, f x = some s → ∀ z, D.atKey (.int .i64 x) z = .lit (.string s.data.toList)

/-- The blocks that a disk owns. -/
def Ow (d : Nat) (bv pv : Value) (gm : Nat) (k : Nat) : Prop := k = d ∨ bv.ownBlock = some k ∨ pv.ownBlock = some k ∨ k = gm
/-- A disk at the block d, in the state s. -/
structure DAt (w : World) (d : Nat) (bv pv : Value) (gm n : Nat) (s : DS) : Prop where
  blk : w.heap[d]? = some (.cells #[bv, pv, .map (some gm), .bool s.armed, .int .i64 s.steps, .int .u64 s.mask, .bool s.down] 60 (0, 0))
  blocks : Kit.Own 9 1 strEnc w 0 bv s.blocks
  pend : Kit.Own 72 2 wrEnc w 0 pv s.pend
  map : MapIs w gm n (newest s.pend)
  fine : Fine s
  cnt : s.pend.length ≤ n
  d1 : d ≠ gm
  d2 : ∀ k, bv.ownBlock = some k → k ≠ d ∧ k ≠ gm
  d3 : ∀ k, pv.ownBlock = some k → k ≠ d ∧ k ≠ gm ∧ bv.ownBlock ≠ some k

theorem MapIs.keeps {S : Nat → Prop} {w w' : World} {gm n : Nat} {f : Int → Option ByteArray} (h : MapIs w gm n f) (hk : Kit.Keeps S w w') (hn : ¬ S gm) : MapIs w' gm n f := by
  obtain ⟨D, h1, h2⟩ := h
  have hlt := h1.lt
  obtain ⟨es, cl, hb, r⟩ := h1
  exact ⟨D, ⟨es, cl, by rw [hk.block gm hlt hn]; exact hb, r⟩, h2⟩
theorem MapIs.lt {w : World} {gm n : Nat} {f : Int → Option ByteArray} (h : MapIs w gm n f) : gm < w.heap.size := by
  obtain ⟨D, h1, _⟩ := h; exact h1.lt
theorem MapIs.mono {w : World} {gm n n' : Nat} {f : Int → Option ByteArray} (h : MapIs w gm n f) (hn : n ≤ n') : MapIs w gm n' f := by
  obtain ⟨D, h1, h2⟩ := h; exact ⟨D, h1.mono hn, h2⟩
theorem MapIs.congr {w : World} {gm n : Nat} {f g : Int → Option ByteArray} (h : MapIs w gm n f) (e : ∀ x, (Lit.int .i64 x).wf = true → f x = g x) : MapIs w gm n g := by
  obtain ⟨D, h1, h2⟩ := h
  exact ⟨D, h1, fun x hx => by rw [← e x hx]; exact h2 x hx⟩

theorem DAt.lt {w : World} {d : Nat} {bv pv : Value} {gm n : Nat} {s : DS} (h : DAt w d bv pv gm n s) {k : Nat} (hk : Ow d bv pv gm k) : k < w.heap.size := by
  rcases hk with rfl | hk | hk | rfl
  · exact (Array.getElem?_eq_some_iff.1 h.blk).1
  · exact (World.ownsRow.lt h.blocks k hk).2
  · exact (World.ownsRow.lt h.pend k hk).2
  · exact h.map.lt
theorem DAt.keeps {S : Nat → Prop} {w w' : World} {d : Nat} {bv pv : Value} {gm n : Nat} {s : DS} (h : DAt w d bv pv gm n s) (hk : Kit.Keeps S w w') (hn : ∀ k, Ow d bv pv gm k → ¬ S k) : DAt w' d bv pv gm n s :=
  ⟨Kit.blk_keeps h.blk hk (hn d (Or.inl rfl)), h.blocks.keeps hk (fun k e => hn k (Or.inr (Or.inl e))), h.pend.keeps hk (fun k e => hn k (Or.inr (Or.inr (Or.inl e)))), h.map.keeps hk (hn gm (Or.inr (Or.inr (Or.inr rfl)))), h.fine, h.cnt, h.d1, h.d2, h.d3⟩
theorem DAt.below {w w' : World} {d : Nat} {bv pv : Value} {gm n : Nat} {s : DS} (h : DAt w d bv pv gm n s) (hb : Below w.heap.size w w') : DAt w' d bv pv gm n s :=
  h.keeps (S := fun _ => False) (Kit.Keeps.of_below hb) (fun _ _ h => h)
theorem DAt.mono {w : World} {d : Nat} {bv pv : Value} {gm n n' : Nat} {s : DS} (h : DAt w d bv pv gm n s) (hn : n ≤ n') : DAt w d bv pv gm n' s :=
  ⟨h.blk, h.blocks, h.pend, h.map.mono hn, h.fine, Nat.le_trans h.cnt hn, h.d1, h.d2, h.d3⟩

/-- What a call leaves: the disk in another state; of what was there nothing else has changed. -/
def DPost (w : World) (d : Nat) (bv pv : Value) (gm n : Nat) (s' : DS) (r : Value) (e : Ending) (w' : World) : Prop :=
  e = .returned r ∧ ∃ pv', DAt w' d bv pv' gm n s' ∧ Kit.Keeps (Ow d bv pv gm) w w' ∧ (∀ k, pv'.ownBlock = some k → pv.ownBlock = some k ∨ w.heap.size ≤ k)
end Go.Proofs.Ytgcbfpimfmkbmaa.Dk
