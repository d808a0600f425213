/- What comes into the laws on geometry, read as closed values. -/
import Derived.Test.YtokkpocccgdilaaEvOpen
import Derived.Test.YtokkpocccgdilaaGC
import Derived.ChangeSame
namespace Go.Proofs.Ytokkpocccgdilaa.Ge
set_option linter.unusedVariables false
set_option linter.unusedSimpArgs false
open Go.RowKit Go.ChangeShapes Go.Proofs.Ytokkpocccgdilaa.Ev
section
variable {H : Type} {de : TypeId × Value → H} {w : World}
instance : Inhabited Sec := ⟨sec0⟩
instance : Inhabited Slc := ⟨slc0⟩
theorem fits_of {n : Int} (h : (Lit.int .i64 n).wf = true) : fits n := by
  unfold fits
  simp [Lit.wf, IntKind.min, IntKind.max, IntKind.bits, IntKind.signed] at h
  omega
theorem o_int : Opn de Try.prog w 3 inC (fun n => fits n) := (opn_int Try.underlying3).imp id (fun _ => rfl) (fun _ h => fits_of h)
theorem o_ints : Opn de Try.prog w 72 (fun l : List Int => [LI l]) (fun l => l.length ≤ maxLen) := (opn_slice (size := 1) (enc := inC) Try.underlying72 (by kernel_rfl) (by decide) (fun _ => rfl) o_int).imp id (fun _ => rfl) (fun _ h => h.2)
theorem o_span : Opn de Try.prog w 44 spC (fun x => fits x.1 ∧ fits x.2) :=
  (opn_struct Try.underlying44 (by kernel_rfl) rfl (opnS_cons o_int (opnS_one o_int))).imp id (fun _ => rfl) (fun _ h => h)
theorem o_spans : Opn de Try.prog w 56 (fun l : List Span => [LS l]) (fun l => l.length ≤ maxLen) :=
  (opn_slice (size := 2) (enc := spC) Try.underlying56 (by kernel_rfl) (by decide) (fun _ => rfl) o_span).imp id (fun _ => rfl) (fun _ h => h.2)
def secL (s : Sec) : List CV := [I s.low, LS s.rows]
theorem o_sec : Opn de Try.prog w 58 secL (fun s => s.rows.length ≤ maxLen) :=
  (opn_struct Try.underlying58 (by kernel_rfl) rfl (opnS_cons o_int (opnS_one o_spans))).imp (fun x => (⟨x.1, x.2⟩ : Sec)) (fun _ => rfl) (fun _ h => h.2)
theorem o_slice : Opn de Try.prog w 60 slcC (fun s => s.sec.rows.length ≤ maxLen) :=
  (opn_struct Try.underlying60 (by kernel_rfl) rfl (opnS_cons o_int (opnS_one o_sec))).imp (fun x => (⟨x.1, x.2⟩ : Slc)) (fun _ => rfl) (fun _ h => h.2)
theorem o_slices : Opn de Try.prog w 29 (fun l : List Slc => [LL l]) (fun l => l.length ≤ maxLen) :=
  (opn_slice (size := 3) (enc := slcC) Try.underlying29 (by kernel_rfl) (by decide) (fun _ => rfl) o_slice).imp id (fun _ => rfl) (fun _ h => h.2)
def boxL (b : Span × Span × Span) : List CV := [I b.1.1, I b.1.2, I b.2.1.1, I b.2.1.2, I b.2.2.1, I b.2.2.2]
theorem o_box : Opn de Try.prog w 46 boxL (fun b => (fits b.1.1 ∧ fits b.1.2) ∧ (fits b.2.1.1 ∧ fits b.2.1.2) ∧ (fits b.2.2.1 ∧ fits b.2.2.2)) := (opn_struct Try.underlying46 (by kernel_rfl) rfl (opnS_cons o_span (opnS_cons o_span (opnS_one o_span)))).imp id (fun _ => rfl) (fun _ h => h)
def lookL (x : Int × Span × Span) : List CV := [I x.1, I x.2.1.1, I x.2.1.2, I x.2.2.1, I x.2.2.2]
end
end Go.Proofs.Ytokkpocccgdilaa.Ge
