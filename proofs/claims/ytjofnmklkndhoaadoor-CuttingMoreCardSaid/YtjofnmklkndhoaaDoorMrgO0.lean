/- CutOpen: texts laid together. -/
import Derived.Test.YtjofnmklkndhoaaDoorRows
import Derived.Test.YtjofnmklkndhoaaDoorMrgF0
import Derived.Test.YtjofnmklkndhoaaDoorMrgC3
import Derived.ChangeSame
import Derived.LaidLaws
set_option maxRecDepth 100000
/- What comes into the laws on cutting, read as closed values; and the package variable. -/
namespace Go.Proofs.YtjofnmklkndhoaaDoor.Cu
set_option linter.unusedVariables false
set_option linter.unusedSimpArgs false
open Go.RowKit Go.ChangeShapes Go.Proofs.YtjofnmklkndhoaaDoor.Ev
section
variable {H : Type} {de : TypeId × Value → H} {w : World}
theorem o_int : Opn de Tryd.prog w 3 inC (fun n => (Lit.int .i64 n).wf = true) := opn_int Tryd.underlying3
theorem o_ints : Opn de Tryd.prog w 22 rowC (fun l => (∀ x ∈ l, (Lit.int .i64 x).wf = true) ∧ l.length ≤ maxLen) := opn_slice Tryd.underlying22 (by kernel_rfl) (by decide) (fun _ => rfl) o_int
theorem o_rows : Opn de Tryd.prog w 23 (fun l : List (List Int) => [LL l]) (fun l => l.length ≤ maxLen) :=
  (opn_slice (size := 1) (enc := rowC) Tryd.underlying23 (by kernel_rfl) (by decide) (fun _ => rfl) o_ints).imp id (fun _ => rfl) (fun _ h => h.2)
theorem o_line : Opn de Tryd.prog w 25 lineL (fun l => l.gain.length ≤ maxLen ∧ ((Lit.int .i64 l.len).wf = true ∧ l.sizes.length ≤ maxLen ∧ l.chip.length ≤ maxLen ∧ l.dust.length ≤ maxLen)) :=
  (opn_struct Tryd.underlying25 (by kernel_rfl) rfl (opnS_cons o_int (opnS_cons o_int (opnS_cons o_int (opnS_cons o_ints (opnS_cons o_rows (opnS_cons o_ints (opnS_one o_ints)))))))).imp
    (fun x => (⟨x.1, x.2.1, x.2.2.1, x.2.2.2.1, x.2.2.2.2.1, x.2.2.2.2.2.1, x.2.2.2.2.2.2⟩ : Line)) (fun _ => rfl) (fun _ h => ⟨h.2.2.2.2.1, h.1, h.2.2.2.1.2, h.2.2.2.2.2.1.2, h.2.2.2.2.2.2.2⟩)
def triL (x : Int × Int × Int) : List CV := [I x.1, I x.2.1, I x.2.2]
theorem o_tri : Opn de Tryd.prog w 53 triL (fun x => (Lit.int .i64 x.1).wf = true ∧ (Lit.int .i64 x.2.1).wf = true ∧ (Lit.int .i64 x.2.2).wf = true) :=
  (opn_array Tryd.underlying53 (by kernel_rfl) rfl (opnS_cons o_int (opnS_cons o_int (opnS_one o_int)))).imp id (fun _ => rfl) (fun _ h => h)
end
theorem gNone : Tryd.prog.globalNamed "sawmill/cutting.none" = some 0 := by kernel_rfl
theorem gNoneType : (Tryd.prog.globals[0]?).map (·.type) = some 52 := by kernel_rfl
theorem cellsI : Tryd.prog.cellsOf 3 = 1 := by kernel_rfl
theorem cellsP : Tryd.prog.cellsOf 52 = 2 := by kernel_rfl
theorem none_ok {W : World} (h : laidMetH Tryd.prog [("sawmill/cutting.none", Rows.laid_sawmill_cutting_none)] W) : GlOK G (Fw W) W := by
  have h' : laidMet Tryd.prog [("sawmill/cutting.none", Rows.laid_sawmill_cutting_none)] W := h
  obtain ⟨ps, ⟨g', t', cs, fuel, p, q, hg', ht', hvar, hd, _, _⟩, _⟩ := h'
  obtain rfl := Option.some.inj (gNone.symm.trans hg')
  obtain rfl := Option.some.inj (gNoneType.symm.trans ht')
  obtain ⟨y0, y1, n, hy, hl, h0, h1⟩ := trod_struct2 Tryd.underlying52 hd
  obtain ⟨z0, hc0, rfl, _⟩ := DataW.trod_int Tryd.underlying3 h0
  obtain ⟨z1, hc1, rfl, _⟩ := DataW.trod_int Tryd.underlying3 h1
  have e0 : z0 = -1 ∧ z1 = -1 := by
    have := congrArg Prod.fst hy
    simp only [Rows.laid_sawmill_cutting_none, DataW.agg.injEq, List.cons.injEq, DataW.lit.injEq, Lit.int.injEq] at this
    omega
  obtain ⟨rfl, rfl⟩ := e0
  rw [cellsP] at hl
  rw [cellsI] at hc0 hc1
  obtain ⟨cs⟩ := cs
  match cs, hl with
  | [a, b], _ =>
    obtain rfl : a = .int .i64 (-1) := by simpa using hc0
    obtain rfl : b = .int .i64 (-1) := by simpa using hc1
    have c : ∀ i, i < 2 → W.cell? ⟨0, 0 + i, none⟩ = some (.int .i64 (-1)) := by
      intro i hi
      have := World.var?_cell gNone hvar i
      rw [Nat.zero_add, this]
      match i, hi with
      | 0, _ => rfl
      | 1, _ => rfl
    intro g xs hx
    have hg : g = 0 ∧ xs = [I (-1), I (-1)] := by
      cases g with
      | zero => exact ⟨rfl, (Option.some.inj hx).symm⟩
      | succ g => cases hx
    obtain ⟨rfl, rfl⟩ := hg
    refine .eptr (blk := 0) (o := 0) (off := 0) (fun _ => .int .i64 (-1)) (World.block_lt_of_cell? W _ (c 0 (by decide))) (fun i x hi => c i ?_) (fun i x hi => ?_)
    · have := (List.getElem?_eq_some_iff.1 hi).1; simpa using this
    · match i, hi with
      | 0, hi => cases hi; exact .v _
      | 1, hi => cases hi; exact .v _
end Go.Proofs.YtjofnmklkndhoaaDoor.Cu
