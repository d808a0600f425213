/- Rules of a walk: the making of an array value. Nothing here names a program. -/
import Derived.Test.YtokkpocccgdilaaEv28
namespace Go.Proofs.Ytokkpocccgdilaa.Ev
set_option linter.unusedVariables false
set_option linter.unusedSimpArgs false
open Go.RowKit
section
variable {P : Program} {ops : Array Oper} {Q : Exit → St → Prop} {X : List Oper → St → Prop} {rest : List Oper} {d : Nat} {ty : TypeId} {pos : String} {af : Array Edge} {n : Nat} {env : List (Nat × AV)} {heap : List (Nat × Option AB)} {nx : Nat} {gl : List (Nat × List CV)}

def arrbB (P : Program) (t : Nat) : Option (List (Nat × Nat) × List Value) :=
  match P.info? t, P.underlying t with
  | some it, some (.array len e) => match it.zero, P.info? e with
    | some z, some ie => some ((List.range len).map (fun i => (i * ie.size, ie.size)), z.cells.toList)
    | _, _ => none
  | _, _ => none
class ArrB (P : Program) (t : Nat) (pl : outParam (List (Nat × Nat))) (zs : outParam (List Value)) : Prop where
  h : arrbB P t = some (pl, zs)
theorem fill_mono {f g : Nat → Option (Nat × Nat)} (hfg : ∀ i x, f i = some x → g i = some x) : ∀ (parts : List (Nat × Value)) (cells res : Array Value), Instr.fill f cells parts = some res → Instr.fill g cells parts = some res
  | [], _, _, h => h
  | (i, v) :: rest, cells, res, h => by
    unfold Instr.fill at h ⊢
    cases hf : f i with
    | none => rw [hf] at h; cases h
    | some p =>
      rw [hf] at h
      rw [hfg i p hf]
      dsimp only at h ⊢
      split
      · rename_i hc; rw [if_pos hc] at h; cases h
      · rename_i hc; rw [if_neg hc] at h; exact fill_mono hfg rest _ res h
theorem r_build_arr [W : Walk P X] {t : TypeId} {parts : List (Nat × Operand)} {pl : List (Nat × Nat)} {zs : List Value} {ps : List (Nat × AV)} {out : List AV} [I : ArrB P t pl zs] (hp : evp ⟨n, env, heap, nx, gl⟩ parts = some ps) (hf : fillA pl (zs.map fun z => .c (.v z)) ps = some out) (hd : Nat.blt d n = true) (h : X rest ⟨n, (d, (.agg out)) :: env, heap, nx, gl⟩) : X (⟨some d, .build t parts.toArray, ty, pos, af, none⟩ :: rest) ⟨n, env, heap, nx, gl⟩ := by
  refine ao_val (st := ⟨n, env, heap, nx, gl⟩) rfl rfl hd (fun _ _ M a hs => ?_) h
  have hI := I.h
  unfold arrbB at hI
  split at hI
  · rename_i it len e hi hu
    split at hI
    · rename_i z ie hz he
      simp only [Option.some.injEq, Prod.mk.injEq] at hI
      obtain ⟨rfl, rfl⟩ := hI
      obtain ⟨e1, e2⟩ := evp_get hp
      obtain ⟨res, f1, f2, f3⟩ := fill_sound (M := M) _ ps _ z.cells (parts.map fun q => (q.1, a.eval q.2)) out hf (by simp) (fun i x u hx hu' => by
        simp only [List.getElem?_map, Array.getElem?_toList, hu', Option.map_some, Option.some.injEq] at hx
        subst hx; exact .c (.v _)) (by simp [e1]) (fun i p q hp' hq' => by
          obtain ⟨q0, h1, rfl⟩ : ∃ q0, parts[i]? = some q0 ∧ (q0.1, a.eval q0.2) = q := by simpa using hq'
          obtain ⟨h2, h3⟩ := e2 i p q0 hp' h1
          exact ⟨h2, hs.ev (by simp only [Op.operands]; simp; exact ⟨q0.1, List.mem_of_getElem? h1⟩) h3⟩)
      refine ⟨.agg res, ?_, .agg f2 f3⟩
      have f4 := fill_mono (g := fun i => some (i * ie.size, ie.size)) (fun i x hx => by
        rw [List.getElem?_toArray, List.getElem?_map] at hx
        obtain ⟨k, hk, rfl⟩ := Option.map_eq_some_iff.1 hx
        obtain ⟨hk1, hk2⟩ := List.getElem?_eq_some_iff.1 hk
        rw [List.getElem_range] at hk2; subst hk2; rfl) _ _ _ f1
      simp only [execOp]
      rw [Sem.run_bind, run_build M.w t _ res (by simp only [Program.built, hi, hu, hz, he, List.map_toArray]; exact f4)]; rfl
    · cases hI
  · cases hI
end
end Go.Proofs.Ytokkpocccgdilaa.Ev
