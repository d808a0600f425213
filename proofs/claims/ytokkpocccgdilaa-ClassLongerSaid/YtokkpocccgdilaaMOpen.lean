/- What comes into the laws on classes, read as closed values. -/
import Derived.Test.YtokkpocccgdilaaGOpen
import Derived.Test.YtokkpocccgdilaaMI
namespace Go.Proofs.Ytokkpocccgdilaa.Ge
set_option linter.unusedVariables false
set_option linter.unusedSimpArgs false
open Go.RowKit Go.ChangeShapes Go.Proofs.Ytokkpocccgdilaa.Ev
section
variable {H : Type} {de : TypeId × Value → H} {w : World}
instance : Inhabited Kl := ⟨kA⟩
instance : Inhabited Dfc := ⟨⟨0, (0, 0), (0, 0), (0, 0)⟩⟩
theorem o_klass : Opn de Try.prog w 28 klC (fun _ => True) :=
  (opn_struct Try.underlying28 (by kernel_rfl) rfl (opnS_cons (opn_string Try.underlying9) (opnS_cons o_int (opnS_cons o_int (opnS_cons o_int (opnS_cons o_int (opnS_cons o_int (opnS_cons o_int (opnS_cons o_int (opnS_one o_int)))))))))).imp (fun x => (⟨x.1, x.2.1, x.2.2.1, x.2.2.2.1, x.2.2.2.2.1, x.2.2.2.2.2.1, x.2.2.2.2.2.2.1, x.2.2.2.2.2.2.2.1, x.2.2.2.2.2.2.2.2⟩ : Kl)) (fun _ => rfl) (fun _ _ => trivial)
theorem o_klasses : Opn de Try.prog w 22 (fun l : List Kl => [LK l]) KQ :=
  (opn_slice (size := 9) (enc := klC) Try.underlying22 (by kernel_rfl) (by decide) (fun _ => rfl) o_klass).imp id (fun _ => rfl) (fun _ h => h.2)
theorem o_dfc : Opn de Try.prog w 48 dfC (fun _ => True) :=
  (opn_struct Try.underlying48 (by kernel_rfl) rfl (opnS_cons o_int (opnS_one o_box))).imp (fun x => (⟨x.1, x.2.1, x.2.2.1, x.2.2.2⟩ : Dfc)) (fun _ => rfl) (fun _ _ => trivial)
theorem o_dfcs : Opn de Try.prog w 30 (fun l : List Dfc => [LD l]) (fun l => l.length ≤ maxLen) :=
  (opn_slice (size := 7) (enc := dfC) Try.underlying30 (by kernel_rfl) (by decide) (fun _ => rfl) o_dfc).imp id (fun _ => rfl) (fun _ h => h.2)
theorem o_log : Opn de Try.prog w 32 (fun x : Lg => [LL x.1, LD x.2]) LgQ :=
  (opn_struct Try.underlying32 (by kernel_rfl) rfl (opnS_cons o_slices (opnS_one o_dfcs))).imp id (fun _ => rfl) (fun _ h => h)
end
end Go.Proofs.Ytokkpocccgdilaa.Ge
