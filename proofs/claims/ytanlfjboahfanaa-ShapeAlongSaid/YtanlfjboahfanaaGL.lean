/- Walks of the laws on solids: sample, awake, Small; SolidChecks, SolidWithin. -/
import Derived.Test.YtanlfjboahfanaaGF
namespace Go.Proofs.Ytanlfjboahfanaa.Ge
set_option linter.unusedVariables false
set_option linter.unusedSimpArgs false
open Go.RowKit Go.Proofs.Ytanlfjboahfanaa.Ev
variable {gl : List (Nat × List CV)}

def L0 : List Slc := [⟨2000, ⟨0, [(-50, 50), (-60, 60)]⟩⟩, ⟨1000, ⟨0, [(-50, 50)]⟩⟩]
theorem chk_a : secChk ⟨0, [(-50, 50), (-60, 60)]⟩ = 0 := (sc_ok ⟨by decide, ⟨by decide, by decide⟩, fun i h => by
  match i, h with
  | 0, _ => rfl
  | 1, _ => rfl⟩ (by decide) (fun ⟨_, h⟩ => by rcases h with h | h <;> (unfold emptyS at h; simp at h)) (fun i h => by
  match i, h with
  | 0, _ => rfl
  | 1, _ => rfl)).symm
theorem chk_b : secChk ⟨0, [(-50, 50)]⟩ = 0 := (sc_ok ⟨by decide, ⟨by decide, by decide⟩, fun i h => by
  match i, h with
  | 0, _ => rfl⟩ (by decide) (fun ⟨_, h⟩ => by rcases h with h | h <;> (unfold emptyS at h; simp at h)) (fun i h => by
  match i, h with
  | 0, _ => rfl)).symm
theorem chk_L0 : solChk L0 = 0 := by
  unfold solChk
  rw [if_neg (by decide), if_neg (by decide)]
  unfold L0 solGo
  rw [if_neg (fun h => h chk_a), if_neg (by decide), if_neg (by decide)]
  unfold solGo
  rw [if_neg (fun h => h chk_b), if_neg (by decide), if_neg (by decide)]
  rfl
theorem L0_len : L0.length ≤ maxLen := by decide
theorem at_2000 : atS L0 2000 = (⟨0, [(-50, 50)]⟩, true) := by unfold atS; rw [valL_ok chk_L0]; rfl
theorem at_3000 : atS L0 3000 = (sec0, false) := by unfold atS; rw [valL_ok chk_L0]; rfl
theorem cut_1500 : cutS L0 (1500, 2500) = [⟨500, ⟨0, [(-50, 50), (-60, 60)]⟩⟩, ⟨500, ⟨0, [(-50, 50)]⟩⟩] := by unfold cutS; rw [valL_ok chk_L0]; rfl
theorem cut_3000 : cutS L0 (0, 3000) = L0 := by unfold cutS; rw [valL_ok chk_L0]; rfl
theorem com_3000 : comS L0 (0, 3000) = ⟨0, [(-50, 50)]⟩ := by
  unfold comS
  rw [cut_3000]
  show meetSec ⟨0, [(-50, 50), (-60, 60)]⟩ ⟨0, [(-50, 50)]⟩ = _
  unfold meetSec
  rw [valS_ok chk_a, valS_ok chk_b]
  kernel_rfl
theorem bd_L0 : sbS L0 = ((-60, 60), (0, 20)) := by
  unfold sbS
  rw [valL_ok chk_L0]
  show joinR (joinR (bdS ⟨0, [(-50, 50), (-60, 60)]⟩) (bdS ⟨0, [(-50, 50), (-60, 60)]⟩)) (bdS ⟨0, [(-50, 50)]⟩) = _
  unfold bdS
  rw [valS_ok chk_a, valS_ok chk_b]
  kernel_rfl
theorem len_L0 : lengthS L0 = 3000 := by unfold lengthS; rw [valL_ok chk_L0]; rfl
theorem vol_L0 : volS L0 = 5400000 := by unfold volS; rw [valL_ok chk_L0]; rfl
theorem win_L0 : winS L0 (0, 100) (5, 15) (1500, 2500) = 400000 := by unfold winS; rw [valL_ok chk_L0]; rfl
end Go.Proofs.Ytanlfjboahfanaa.Ge
