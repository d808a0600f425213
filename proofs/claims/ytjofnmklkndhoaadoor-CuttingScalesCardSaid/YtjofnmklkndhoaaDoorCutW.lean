/- A line whose values are multiplied: plain. -/
import Derived.Test.YtjofnmklkndhoaaDoorCutU
namespace Go.Proofs.YtjofnmklkndhoaaDoor.Cu
set_option linter.unusedVariables false
set_option linter.unusedSimpArgs false
open Go.RowKit Go.Proofs.YtjofnmklkndhoaaDoor.Ev

def scL (k : Int) (w : List Int) : List Int := w.map (· * k)
def scaleL (k : Int) (l : Line) : Line := ⟨l.len, l.kerf, l.pitch, l.sizes, l.gain.map (scL k), scL k l.chip, scL k l.dust⟩
theorem sum_sc (k : Int) : ∀ w : List Int, (scL k w).sum = w.sum * k
  | [] => by simp [scL]
  | x :: w => by
    have := sum_sc k w
    unfold scL at this ⊢
    rw [List.map_cons, List.sum_cons, List.sum_cons, this, Int.add_mul]
theorem pre_sc (k : Int) (w : List Int) (n : Nat) : pre (scL k w) n = pre w n * k := by
  unfold pre
  rw [← sum_sc]; unfold scL; rw [List.map_take]
theorem gOf_sc (k : Int) (l : Line) (s p : Int) : gOf (scaleL k l) s p = gOf l s p * k := by
  unfold gOf scaleL
  dsimp only
  simp only [List.getD_eq_getElem?_getD, List.getElem?_map]
  cases l.gain[s.toNat]? with
  | none => simp
  | some r =>
    simp only [Option.map_some, Option.getD_some, scL, List.getElem?_map]
    cases r[p.toNat]? with
    | none => simp
    | some x => simp
theorem mul_lt_k {k a b : Int} (hk : 0 < k) : a * k < b * k ↔ a < b := Int.mul_lt_mul_right hk
theorem okP_sc {k : Int} (hk : 0 < k) (l : Line) (i : Nat) (p : Int) : OkP (scaleL k l) i p ↔ OkP l i p := by
  unfold OkP
  rw [gOf_sc]
  have h1 : 0 ≤ gOf l i p * k ↔ 0 ≤ gOf l i p := by
    have := mul_lt_k hk (a := gOf l i p) (b := 0)
    rw [Int.zero_mul] at this
    omega
  rw [h1]; exact Iff.rfl
theorem dp_sc (k : Int) (l : Line) (x : Int) : dp (scaleL k l) x = dp l x * k := pre_sc k l.dust _
theorem cp_sc (k : Int) (l : Line) (x : Int) : cp (scaleL k l) x = cp l x * k := pre_sc k l.chip _
theorem candV_sc (k : Int) (l : Line) {V V' : Int → Int} (h : ∀ x, V' x = V x * k) (i : Nat) (p : Int) : candV (scaleL k l) V' i p = candV l V i p * k := by
  unfold candV
  rw [gOf_sc, dp_sc, dp_sc, h]
  show gOf l i p * k + (if 0 ≤ behindS l (p + szOf l i) then dp l (behindS l (p + szOf l i)) * k - dp l (p + szOf l i) * k + V (behindS l (p + szOf l i)) * k else 0) = _
  split
  · rw [Int.add_mul, Int.add_mul, Int.sub_mul]
  · rw [Int.add_mul, Int.zero_mul]
def scC (k : Int) (c : Ch) : Ch := (c.1, c.2.1, c.2.2 * k)
theorem grp_sc {k : Int} (hk : 0 < k) (l : Line) {V V' : Int → Int} (h : ∀ x, V' x = V x * k) (paid p : Int) (b : Ch) : ∀ n, grp (scaleL k l) V' (paid * k) p n (scC k b) = scC k (grp l V paid p n b)
  | 0 => rfl
  | n + 1 => by
    unfold grp
    rw [grp_sc hk l h paid p b n, candV_sc k l h, ← Int.add_mul]
    by_cases hc : OkP l n p ∧ (grp l V paid p n b).2.2 < paid + candV l V n p
    · rw [if_pos hc, if_pos ⟨(okP_sc hk l n p).2 hc.1, (mul_lt_k hk).2 hc.2⟩]; rfl
    · rw [if_neg hc, if_neg (fun hh => hc ⟨(okP_sc hk l n p).1 hh.1, (mul_lt_k hk).1 hh.2⟩)]
theorem paidP_sc (k : Int) (l : Line) (e q : Int) : paidP (scaleL k l) e q = paidP l e q * k := by
  unfold paidP
  rw [cp_sc, cp_sc, dp_sc, dp_sc, Int.sub_mul, Int.add_mul, Int.sub_mul]; rfl
theorem posS_sc {k : Int} (hk : 0 < k) (l : Line) {V V' : Int → Int} (h : ∀ x, V' x = V x * k) (e : Int) : ∀ m, posS (scaleL k l) V' e m = scC k (posS l V e m)
  | 0 => by
    unfold posS
    have := grp_sc hk l h 0 e (-1, -1, cp l l.len - cp l e) l.sizes.length
    rw [Int.zero_mul] at this
    rw [cp_sc, cp_sc]
    show grp (scaleL k l) V' 0 e l.sizes.length (-1, -1, cp l l.len * k - cp l e * k) = _
    rw [← Int.sub_mul]
    exact this
  | m + 1 => by
    unfold posS
    rw [posS_sc hk l h e m, paidP_sc]
    show (if atP l e (m + 1) ≤ l.len then grp (scaleL k l) V' (paidP l e (atP l e (m + 1)) * k) (atP l e (m + 1)) l.sizes.length (scC k (posS l V e m)) else scC k (posS l V e m)) = _
    rw [grp_sc hk l h]
    split <;> rfl
theorem Tb_sc {k : Int} (hk : 0 < k) (l : Line) : ∀ (n : Nat) (e : Int), Tb (scaleL k l) n e = scC k (Tb l n e)
  | 0, e => by simp [Tb, scC]
  | n + 1, e => by
    unfold Tb chooseS
    exact posS_sc hk l (fun x => by rw [Tb_sc hk l n x]; rfl) e _
theorem TT_sc {k : Int} (hk : 0 < k) (l : Line) (e : Int) : TT (scaleL k l) e = scC k (TT l e) := Tb_sc hk l _ e
theorem chain_sc {k : Int} (hk : 0 < k) (l : Line) : ∀ (n : Nat) (e : Int), chainS (scaleL k l) n e = chainS l n e
  | 0, _ => rfl
  | n + 1, e => by
    unfold chainS
    rw [TT_sc hk]
    show (if e < 0 ∨ (TT l e).1 < 0 then [] else ((TT l e).1, (TT l e).2.1) :: chainS (scaleL k l) n (behindS l ((TT l e).2.1 + szOf l (TT l e).1))) = _
    rw [chain_sc hk l n]
theorem best_sc {k : Int} (hk : 0 < k) {l : Line} (h1 : chk l = 0) (h2 : chk (scaleL k l) = 0) : bestS (scaleL k l) = ((bestS l).1, (bestS l).2.1 * k, 0) := by
  rw [best_ok h1, best_ok h2, chain_sc hk]
  unfold TV
  rw [TT_sc hk]
  rfl
/-- The first rows are multiplied. -/
def mixG (k : Int) (g : List (List Int)) (i : Nat) : List (List Int) := (g.take i).map (scL k) ++ g.drop i
theorem mix_len (k : Int) (g : List (List Int)) (i : Nat) (h : i ≤ g.length) : (mixG k g i).length = g.length := by
  unfold mixG; simp; omega
theorem mix_set (k : Int) (g : List (List Int)) (i : Nat) (h : i < g.length) : (mixG k g i).set i (scL k g[i]) = mixG k g (i + 1) := by
  unfold mixG
  rw [List.set_append_right _ _ (by simp; omega)]
  simp only [List.length_map, List.length_take]
  rw [show i - min i g.length = 0 by omega, List.drop_eq_getElem_cons h, List.set_cons_zero, List.take_succ_eq_append_getElem h, List.map_append, List.append_assoc]
  rfl
theorem mix_end (k : Int) (g : List (List Int)) : mixG k g g.length = g.map (scL k) := by unfold mixG; simp
end Go.Proofs.YtjofnmklkndhoaaDoor.Cu
