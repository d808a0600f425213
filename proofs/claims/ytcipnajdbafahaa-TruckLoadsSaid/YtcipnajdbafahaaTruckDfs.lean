/- The search for the best load, in plain Lean. -/
import Derived.Test.YtcipnajdbafahaaTruckPlain
namespace Go.Proofs.Ytcipnajdbafahaa.Tk
set_option linter.unusedVariables false
set_option linter.unusedSimpArgs false

abbrev St := List Int × Int
def upd (load : List Int) (g : Int) (st : St) : St := if st.2 < g then (load, g) else st
def loop : List Par → Nat → List Int → Int → Int → Int → St → St
  | [], _, _, _, _, _, st => st
  | p :: r, i, load, W, V, g, st =>
    loop r (i + 1) load W V g (if W < p.1 ∨ V < p.2.1 then st else loop r (i + 1) (load ++ [(i : Int)]) (W - p.1) (V - p.2.1) (g + p.2.2) (upd (load ++ [(i : Int)]) (g + p.2.2) st))
def visit (l : List Par) (k : Nat) (load : List Int) (W V g : Int) (st : St) : St := loop (l.drop k) k load W V g (upd load g st)
def bestOf (l : List Par) (W V : Int) : List Int := (visit l 0 [] W V 0 ([], 0)).1

theorem loop_step (l : List Par) (k : Nat) (hk : k < l.length) (load : List Int) (W V g : Int) (st : St) :
    loop (l.drop k) k load W V g st = loop (l.drop (k + 1)) (k + 1) load W V g (if W < l[k].1 ∨ V < l[k].2.1 then st else visit l (k + 1) (load ++ [(k : Int)]) (W - l[k].1) (V - l[k].2.1) (g + l[k].2.2) st) := by
  rw [List.drop_eq_getElem_cons hk]
  rfl
theorem loop_end (l : List Par) (k : Nat) (hk : l.length ≤ k) (load : List Int) (W V g : Int) (st : St) : loop (l.drop k) k load W V g st = st := by
  rw [List.drop_eq_nil_of_le hk]; rfl
theorem blk4 {w : World} {g : Nat} {a b c d : Value} {T : TypeId} (h : w.heap[g]? = some (.cells #[a, b, c, d] T (0, 0))) :
    w.cell? ⟨g, 0, none⟩ = some a ∧ w.cell? ⟨g, 1, none⟩ = some b ∧ w.cell? ⟨g, 2, none⟩ = some c ∧ w.cell? ⟨g, 3, none⟩ = some d ∧ ∀ j, w.frozen? ⟨g, j, none⟩ = false := by
  refine ⟨?_, ?_, ?_, ?_, ?_⟩
  · simp [World.cell?, h]
  · simp [World.cell?, h]
  · simp [World.cell?, h]
  · simp [World.cell?, h]
  · intro j; simp [World.frozen?, h]
end Go.Proofs.Ytcipnajdbafahaa.Tk
