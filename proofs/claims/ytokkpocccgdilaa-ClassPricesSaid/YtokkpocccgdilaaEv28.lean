/- Rules of a walk: an array as a value. Nothing here names a program. -/
import Derived.Test.YtokkpocccgdilaaEv27
namespace Go.Proofs.Ytokkpocccgdilaa.Ev
set_option linter.unusedVariables false
set_option linter.unusedSimpArgs false
open Go.RowKit
section
variable {P : Program} {ops : Array Oper} {Q : Exit → St → Prop} {X : List Oper → St → Prop} {rest : List Oper} {d : Nat} {ty : TypeId} {pos : String} {af : Array Edge} {n : Nat} {env : List (Nat × AV)} {heap : List (Nat × Option AB)} {nx : Nat} {gl : List (Nat × List CV)}

/-- t is an array type of len elements of one cell. -/
def arrTB (P : Program) (t len : Nat) : Bool :=
  match P.underlying t with
  | some (.array l e) => match tyB P e with
    | some (false, s) => l == len && s == 1
    | _ => false
  | _ => false
class ArrT (P : Program) (t : Nat) (len : outParam Nat) : Prop where
  h : arrTB P t len = true
theorem r_index_arr [W : Walk P X] {x y : Operand} {t : TypeId} {len : Nat} {kk : IntKind} {idx : Int} {xs : List AV} {z : AV} [I : ArrT P t len] (k : Nat) (hx : St.ev ⟨n, env, heap, nx, gl⟩ x = some (.agg xs)) (hy : St.ev ⟨n, env, heap, nx, gl⟩ y = some (.c (.v (.int kk idx)))) (hk : idx = (k : Int)) (hlt : k < len) (hz : xs[k]? = some z) (hd : Nat.blt d n = true) (h : X rest ⟨n, (d, z) :: env, heap, nx, gl⟩) : X (⟨some d, .index t x y, ty, pos, af, none⟩ :: rest) ⟨n, env, heap, nx, gl⟩ := by
  refine ao_val (st := ⟨n, env, heap, nx, gl⟩) rfl rfl hd (fun _ _ M a hs => ?_) h
  have hv := hs.ev (by simp [Op.operands, Call.operands]) hx
  have hw := (hs.ev (by simp [Op.operands, Call.operands]) hy).bool
  have hI := I.h
  unfold arrTB at hI
  split at hI
  · rename_i l e hu
    split at hI
    · rename_i s ht
      simp only [Bool.and_eq_true, beq_iff_eq] at hI
      obtain ⟨rfl, rfl⟩ := hI
      obtain ⟨dd, ii, g1, g2, g3, g4⟩ := TyC.out (P := P) (t := e) ⟨ht⟩
      generalize he : a.eval x = u at hv
      cases hv with
      | agg hl hh =>
        rename_i vs
        have hl2 : k < vs.size := by rw [← hl]; exact (List.getElem?_eq_some_iff.1 hz).1
        refine ⟨vs[k], ?_, hh _ z _ hz (by simp [hl2])⟩
        have hagg : (isAgg e).run P M.w = .ok false M.w := by
          unfold isAgg
          rw [Sem.run_bind, run_underlying g1 M.w]
          cases dd <;> simp_all
        simp only [execOp, he, hw]
        subst hk
        have hsz : (sizeOf e).run P M.w = .ok 1 M.w := by
          rw [← g4]
          simp [sizeOf, typeInfo, g3]
        simp [Instr.index, asIntOf, run_underlying hu, part, hagg, hsz, hlt, hl2]
    · cases hI
  · cases hI
end
end Go.Proofs.Ytokkpocccgdilaa.Ev
