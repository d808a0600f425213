/- GOpen MOpen CutOpen BOpen: texts laid together. -/
import Derived.Test.YtkhljpbkebnnmaaGreatDoorMrgF0
import Derived.Test.YtkhljpbkebnnmaaGreatDoorMrgG0
import Derived.ChangeSame
import Derived.Test.YtkhljpbkebnnmaaGreatDoorMrgM0
import Derived.Test.YtkhljpbkebnnmaaGreatDoorRows
import Derived.Test.YtkhljpbkebnnmaaGreatDoorMrgC1
import Derived.LaidLaws
import Derived.Test.YtkhljpbkebnnmaaGreatDoorMrgB0
set_option maxRecDepth 100000
/- What comes into the laws on geometry, read as closed values. -/
namespace Go.Proofs.YtkhljpbkebnnmaaGreatDoor.Ge
set_option linter.unusedVariables false
set_option linter.unusedSimpArgs false
open Go.RowKit Go.ChangeShapes Go.Proofs.YtkhljpbkebnnmaaGreatDoor.Ev
section
variable {H : Type} {de : TypeId × Value → H} {w : World}
instance : Inhabited Sec := ⟨sec0⟩
instance : Inhabited Slc := ⟨slc0⟩
theorem fits_of {n : Int} (h : (Lit.int .i64 n).wf = true) : fits n := by
  unfold fits
  simp [Lit.wf, IntKind.min, IntKind.max, IntKind.bits, IntKind.signed] at h
  omega
theorem o_int : Opn de Tryz.prog w 3 inC (fun n => fits n) := (opn_int Tryz.underlying3).imp id (fun _ => rfl) (fun _ h => fits_of h)
theorem o_ints : Opn de Tryz.prog w 23 (fun l : List Int => [LI l]) (fun l => l.length ≤ maxLen) := (opn_slice (size := 1) (enc := inC) Tryz.underlying23 (by kernel_rfl) (by decide) (fun _ => rfl) o_int).imp id (fun _ => rfl) (fun _ h => h.2)
theorem o_span : Opn de Tryz.prog w 68 spC (fun x => fits x.1 ∧ fits x.2) :=
  (opn_struct Tryz.underlying68 (by kernel_rfl) rfl (opnS_cons o_int (opnS_one o_int))).imp id (fun _ => rfl) (fun _ h => h)
theorem o_spans : Opn de Tryz.prog w 64 (fun l : List Span => [LS l]) (fun l => l.length ≤ maxLen) :=
  (opn_slice (size := 2) (enc := spC) Tryz.underlying64 (by kernel_rfl) (by decide) (fun _ => rfl) o_span).imp id (fun _ => rfl) (fun _ h => h.2)
def secL (s : Sec) : List CV := [I s.low, LS s.rows]
theorem o_sec : Opn de Tryz.prog w 66 secL (fun s => s.rows.length ≤ maxLen) :=
  (opn_struct Tryz.underlying66 (by kernel_rfl) rfl (opnS_cons o_int (opnS_one o_spans))).imp (fun x => (⟨x.1, x.2⟩ : Sec)) (fun _ => rfl) (fun _ h => h.2)
theorem o_slice : Opn de Tryz.prog w 70 slcC (fun s => s.sec.rows.length ≤ maxLen) :=
  (opn_struct Tryz.underlying70 (by kernel_rfl) rfl (opnS_cons o_int (opnS_one o_sec))).imp (fun x => (⟨x.1, x.2⟩ : Slc)) (fun _ => rfl) (fun _ h => h.2)
theorem o_slices : Opn de Tryz.prog w 26 (fun l : List Slc => [LL l]) (fun l => l.length ≤ maxLen) :=
  (opn_slice (size := 3) (enc := slcC) Tryz.underlying26 (by kernel_rfl) (by decide) (fun _ => rfl) o_slice).imp id (fun _ => rfl) (fun _ h => h.2)
def boxL (b : Span × Span × Span) : List CV := [I b.1.1, I b.1.2, I b.2.1.1, I b.2.1.2, I b.2.2.1, I b.2.2.2]
theorem o_box : Opn de Tryz.prog w 89 boxL (fun b => (fits b.1.1 ∧ fits b.1.2) ∧ (fits b.2.1.1 ∧ fits b.2.1.2) ∧ (fits b.2.2.1 ∧ fits b.2.2.2)) := (opn_struct Tryz.underlying89 (by kernel_rfl) rfl (opnS_cons o_span (opnS_cons o_span (opnS_one o_span)))).imp id (fun _ => rfl) (fun _ h => h)
end
end Go.Proofs.YtkhljpbkebnnmaaGreatDoor.Ge
/- What comes into the laws on classes, read as closed values. -/
namespace Go.Proofs.YtkhljpbkebnnmaaGreatDoor.Ge
set_option linter.unusedVariables false
set_option linter.unusedSimpArgs false
open Go.RowKit Go.ChangeShapes Go.Proofs.YtkhljpbkebnnmaaGreatDoor.Ev
section
variable {H : Type} {de : TypeId × Value → H} {w : World}
instance : Inhabited Kl := ⟨kA⟩
instance : Inhabited Dfc := ⟨⟨0, (0, 0), (0, 0), (0, 0)⟩⟩
theorem o_klass : Opn de Tryz.prog w 72 klC (fun _ => True) :=
  (opn_struct Tryz.underlying72 (by kernel_rfl) rfl (opnS_cons (opn_string Tryz.underlying9) (opnS_cons o_int (opnS_cons o_int (opnS_cons o_int (opnS_cons o_int (opnS_cons o_int (opnS_cons o_int (opnS_cons o_int (opnS_one o_int)))))))))).imp (fun x => (⟨x.1, x.2.1, x.2.2.1, x.2.2.2.1, x.2.2.2.2.1, x.2.2.2.2.2.1, x.2.2.2.2.2.2.1, x.2.2.2.2.2.2.2.1, x.2.2.2.2.2.2.2.2⟩ : Kl)) (fun _ => rfl) (fun _ _ => trivial)
theorem o_klasses : Opn de Tryz.prog w 22 (fun l : List Kl => [LK l]) KQ :=
  (opn_slice (size := 9) (enc := klC) Tryz.underlying22 (by kernel_rfl) (by decide) (fun _ => rfl) o_klass).imp id (fun _ => rfl) (fun _ h => h.2)
theorem o_dfc : Opn de Tryz.prog w 91 dfC (fun _ => True) :=
  (opn_struct Tryz.underlying91 (by kernel_rfl) rfl (opnS_cons o_int (opnS_one o_box))).imp (fun x => (⟨x.1, x.2.1, x.2.2.1, x.2.2.2⟩ : Dfc)) (fun _ => rfl) (fun _ _ => trivial)
theorem o_dfcs : Opn de Tryz.prog w 27 (fun l : List Dfc => [LD l]) (fun l => l.length ≤ maxLen) :=
  (opn_slice (size := 7) (enc := dfC) Tryz.underlying27 (by kernel_rfl) (by decide) (fun _ => rfl) o_dfc).imp id (fun _ => rfl) (fun _ h => h.2)
end
end Go.Proofs.YtkhljpbkebnnmaaGreatDoor.Ge
/- What comes into the laws on cutting, read as closed values; and the package variable. -/
namespace Go.Proofs.YtkhljpbkebnnmaaGreatDoor.Cu
set_option linter.unusedVariables false
set_option linter.unusedSimpArgs false
open Go.RowKit Go.ChangeShapes Go.Proofs.YtkhljpbkebnnmaaGreatDoor.Ev
section
variable {H : Type} {de : TypeId × Value → H} {w : World}
theorem o_int : Opn de Tryz.prog w 3 inC (fun n => (Lit.int .i64 n).wf = true) := opn_int Tryz.underlying3
theorem o_ints : Opn de Tryz.prog w 23 rowC (fun l => (∀ x ∈ l, (Lit.int .i64 x).wf = true) ∧ l.length ≤ maxLen) := opn_slice Tryz.underlying23 (by kernel_rfl) (by decide) (fun _ => rfl) o_int
end
theorem gNone : Tryz.prog.globalNamed "sawmill/cutting.none" = some 0 := by kernel_rfl
theorem gNoneType : (Tryz.prog.globals[0]?).map (·.type) = some 74 := by kernel_rfl
theorem cellsI : Tryz.prog.cellsOf 3 = 1 := by kernel_rfl
theorem cellsP : Tryz.prog.cellsOf 74 = 2 := by kernel_rfl
theorem none_ok {W : World} (h : laidMetH Tryz.prog [("sawmill/cutting.none", Rows.laid_sawmill_cutting_none)] W) : GlOK G (Fw W) W := by
  have h' : laidMet Tryz.prog [("sawmill/cutting.none", Rows.laid_sawmill_cutting_none)] W := h
  obtain ⟨ps, ⟨g', t', cs, fuel, p, q, hg', ht', hvar, hd, _, _⟩, _⟩ := h'
  obtain rfl := Option.some.inj (gNone.symm.trans hg')
  obtain rfl := Option.some.inj (gNoneType.symm.trans ht')
  obtain ⟨y0, y1, n, hy, hl, h0, h1⟩ := trod_struct2 Tryz.underlying74 hd
  obtain ⟨z0, hc0, rfl, _⟩ := DataW.trod_int Tryz.underlying3 h0
  obtain ⟨z1, hc1, rfl, _⟩ := DataW.trod_int Tryz.underlying3 h1
  have e0 : z0 = -1 ∧ z1 = -1 := by
    have := congrArg Prod.fst hy
    simp only [Rows.laid_sawmill_cutting_none, DataW.agg.injEq, List.cons.injEq, DataW.lit.injEq, Lit.int.injEq] at this
    omega
  obtain ⟨rfl, rfl⟩ := e0
  rw [cellsP] at hl
  rw [cellsI] at hc0 hc1
  obtain ⟨cs⟩ := cs
  match cs, hl with
  | [a, b], _ =>
    obtain rfl : a = .int .i64 (-1) := by simpa using hc0
    obtain rfl : b = .int .i64 (-1) := by simpa using hc1
    have c : ∀ i, i < 2 → W.cell? ⟨0, 0 + i, none⟩ = some (.int .i64 (-1)) := by
      intro i hi
      have := World.var?_cell gNone hvar i
      rw [Nat.zero_add, this]
      match i, hi with
      | 0, _ => rfl
      | 1, _ => rfl
    intro g xs hx
    have hg : g = 0 ∧ xs = [I (-1), I (-1)] := by
      cases g with
      | zero => exact ⟨rfl, (Option.some.inj hx).symm⟩
      | succ g => cases hx
    obtain ⟨rfl, rfl⟩ := hg
    refine .eptr (blk := 0) (o := 0) (off := 0) (fun _ => .int .i64 (-1)) (World.block_lt_of_cell? W _ (c 0 (by decide))) (fun i x hi => c i ?_) (fun i x hi => ?_)
    · have := (List.getElem?_eq_some_iff.1 hi).1; simpa using this
    · match i, hi with
      | 0, hi => cases hi; exact .v _
      | 1, hi => cases hi; exact .v _
end Go.Proofs.YtkhljpbkebnnmaaGreatDoor.Cu
/- What comes into the laws on bucking, read as closed values. -/
namespace Go.Proofs.YtkhljpbkebnnmaaGreatDoor.Bu
set_option linter.unusedVariables false
set_option linter.unusedSimpArgs false
open Go.RowKit Go.ChangeShapes Go.Proofs.YtkhljpbkebnnmaaGreatDoor.Ev Go.Proofs.YtkhljpbkebnnmaaGreatDoor.Ge
section
variable {H : Type} {de : TypeId × Value → H} {w : World}
def caseL (x : Case) : List CV := [LK x.1.classes, LI x.1.lens, I x.1.unit, I x.1.kerf, LL x.2.1, LD x.2.2]
theorem o_plan : Opn de Tryz.prog w 25 planL (fun p => p.classes.length ≤ maxLen) :=
  (opn_struct Tryz.underlying25 (by kernel_rfl) rfl (opnS_cons o_klasses (opnS_cons o_ints (opnS_cons o_int (opnS_one o_int))))).imp (fun x => (⟨x.1, x.2.1, x.2.2.1, x.2.2.2⟩ : Plan)) (fun _ => rfl) (fun _ h => h.1)
theorem o_stem : Opn de Tryz.prog w 29 stC (fun x : Lg => x.1.length ≤ maxLen ∧ x.2.length ≤ maxLen) :=
  (opn_struct Tryz.underlying29 (by kernel_rfl) rfl (opnS_cons o_slices (opnS_one o_dfcs))).imp id (fun _ => rfl) (fun _ h => h)
theorem o_case : Opn de Tryz.prog w 31 caseL CaseQ :=
  (opn_struct Tryz.underlying31 (by kernel_rfl) rfl (opnS_cons o_plan (opnS_one o_stem))).imp id (fun _ => rfl) (fun _ h => ⟨h.1, h.2.1, h.2.2⟩)
end
end Go.Proofs.YtkhljpbkebnnmaaGreatDoor.Bu
