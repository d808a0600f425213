/- The walks of settle, crash and step. -/
import Derived.Test.YtgcbfpimfmkbmaaDiskWalk1
import Derived.RegionTactic
import Derived.WalkLawsBesides
import Derived.Deep.RegionLaw
namespace Go.Proofs.Ytgcbfpimfmkbmaa.Dk
set_option linter.unusedVariables false
set_option linter.unusedSimpArgs false
open Go.RowKit Go.ChangeMaps

theorem low64 (m : Int) (k : Nat) (h1 : 0 ≤ m) (h2 : m < 18446744073709551616) : (bits .and .u64 (m / 2 ^ (k % 64)) 1 == 1) = bitOf m k := by
  obtain ⟨x, rfl⟩ := Int.eq_ofNat_of_zero_le h1
  have e : ((x : Int) / 2 ^ (k % 64)) = ((x / 2 ^ (k % 64) : Nat) : Int) := by rw [Int.natCast_ediv, Int.natCast_pow]; rfl
  have hl : x / 2 ^ (k % 64) < 18446744073709551616 := Nat.lt_of_le_of_lt (Nat.div_le_self _ _) (by omega)
  unfold bitOf
  rw [e]
  have := u64_and_nat (x / 2 ^ (k % 64)) 1 hl (by omega)
  rw [nat_mask1] at this
  rw [show bits .and .u64 ((x / 2 ^ (k % 64) : Nat) : Int) 1 = _ from this]
  generalize x / 2 ^ (k % 64) = y
  rw [Bool.eq_iff_iff]
  simp only [beq_iff_eq]
  omega
theorem flush1_any (k : Nat) (w : World) : Calls Try.prog 36 #[.int .i64 k] w fun e w' => e = .returned (.bool true) ∧ Below w.heap.size w w' := by
  go_enter Try.func36, Try.ntmps36
  go_wp2
  go_ret
  exact ⟨rfl, Below.refl _ _⟩

theorem crash1_any (k : Nat) (hk : k ≤ 1000000) (m : Int) (hm : 0 ≤ m ∧ m < 18446744073709551616) (g : Nat) (w : World) (h : w.cell? ⟨g, 0, none⟩ = some (.int .u64 m)) :
    Calls Try.prog 41 #[.int .i64 k, .pointer (some ⟨g, 0, none⟩)] w fun e w' => e = .returned (.bool (bitOf m k)) ∧ Below w.heap.size w w' := by
  obtain ⟨hm1, hm2⟩ := hm
  have HB := Lib.hid (low64 m k hm1 hm2)
  go_enter Try.func41, Try.ntmps41
  go_wp2
  go_ret
  exact ⟨ret_bool (by rw [HB.out]), Below.refl _ _⟩

theorem MapIs.del {w' : World} {gm n : Nat} {f : Int → Option ByteArray} {D : DataW Unit} (h2 : ∀ x : Int, (Lit.int .i64 x).wf = true → Maps.has D (.int .i64 x) = (f x).isSome ∧ ∀ s, f x = some s → ∀ z, D.atKey (.int .i64 x) z = .lit (.string s.data.toList)) (i : Int)
    (h' : w'.ownsMap Try.prog 3 (plainElem Try.prog 9) gm n (D.del (.int .i64 i))) : MapIs w' gm n (fun x => if x = i then none else f x) := by
  refine ⟨_, h', fun x hx => ?_⟩
  dsimp only
  by_cases e : x = i
  · subst e
    rw [if_pos rfl]
    exact ⟨Maps.has_del_same, fun s hs => by simp at hs⟩
  · rw [if_neg e]
    have hne : Lit.int .i64 x ≠ Lit.int .i64 i := fun h => e (by cases h; rfl)
    exact ⟨by rw [Maps.has_del_other hne]; exact (h2 x hx).1, fun s hs z => by rw [Maps.atKey_del_other hne]; exact (h2 x hx).2 s hs z⟩
theorem MapIs.put {w' : World} {gm n : Nat} {f : Int → Option ByteArray} {D : DataW Unit} (hm : Maps.IsMap D) (h2 : ∀ x : Int, (Lit.int .i64 x).wf = true → Maps.has D (.int .i64 x) = (f x).isSome ∧ ∀ s, f x = some s → ∀ z, D.atKey (.int .i64 x) z = .lit (.string s.data.toList)) (i : Int) (t : ByteArray)
    (h' : w'.ownsMap Try.prog 3 (plainElem Try.prog 9) gm n (D.put (.int .i64 i) (.lit (.string t.data.toList)))) : MapIs w' gm n (fun x => if i = x then some t else f x) := by
  refine ⟨_, h', fun x hx => ?_⟩
  dsimp only
  have hk : WideAt.IsKeyLit (Lit.int .i64 i) := by trivial
  by_cases e : i = x
  · subst e
    rw [if_pos rfl]
    exact ⟨Maps.has_put_same hm hk _, fun s hs z => by cases hs; exact Maps.atKey_put_same hm hk _ _⟩
  · rw [if_neg e]
    have hne : Lit.int .i64 x ≠ Lit.int .i64 i := fun h => e (by cases h; rfl)
    exact ⟨by rw [Maps.has_put_other hne]; exact (h2 x hx).1, fun s hs z => by rw [Maps.atKey_put_other hne]; exact (h2 x hx).2 s hs z⟩

/-- the map behind the first k pending writes of a settling -/
def gone (p : List (Int × ByteArray)) (k : Nat) (x : Int) : Option ByteArray := if (p.take k).any (fun y => y.1 == x) then none else newest p x
theorem gone_zero (p : List (Int × ByteArray)) (x : Int) : gone p 0 x = newest p x := by simp [gone]
theorem gone_succ (p : List (Int × ByteArray)) (k : Nat) (hk : k < p.length) (x : Int) : gone p (k + 1) x = if x = p[k].1 then none else gone p k x := by
  unfold gone
  rw [List.take_succ_eq_append_getElem hk, List.any_append]
  simp only [List.any_cons, List.any_nil, Bool.or_false]
  by_cases e : x = p[k].1
  · subst e; simp
  · rw [if_neg e]
    have : (p[k].1 == x) = false := by simp; exact fun h => e h.symm
    rw [this, Bool.or_false]
theorem gone_all (p : List (Int × ByteArray)) (x : Int) : gone p p.length x = none := by
  unfold gone
  rw [List.take_length]
  split
  · rfl
  · rename_i h
    refine newest_none (fun y hy e => h ?_)
    exact List.any_eq_true.2 ⟨y, hy, by simp [e]⟩
theorem own_wr {w : World} {B a cap n} {l : List (Int × ByteArray)} (h : Kit.Own 72 2 wrEnc w B (.slice a n cap) l) (m : Nat) (hm : m < l.length) : ∃ g, a = some ⟨g, 0, none⟩ ∧ w.cell? ⟨g, m * 2, none⟩ = some (.int .i64 l[m].1) ∧ w.cell? ⟨g, m * 2 + 1, none⟩ = some (.string l[m].2) := by
  have hf := h.form
  obtain ⟨ad, cp, hv, _, hc⟩ := h.sl (fun _ => rfl)
  rcases hc with hc | ⟨b, off, rfl, _, hc⟩
  · subst hc; simp at hm
  · rcases hf with ⟨_, h0⟩ | ⟨g, c, h1, _⟩
    · subst h0; simp at hm
    · have e1 := (Value.slice.inj h1).1
      have e2 := (Value.slice.inj hv).1
      rw [e1] at e2
      simp only [Option.some.injEq, Addr.mk.injEq] at e2
      obtain ⟨rfl, rfl, _⟩ := e2
      have h0 := hc m 0 l[m] (by simp [hm]) (by omega)
      have h1 := hc m 1 l[m] (by simp [hm]) (by omega)
      exact ⟨g, e1, by simpa [wrEnc] using h0, by simpa [wrEnc] using h1⟩
theorem flat_str : ∀ l : List ByteArray, l.flatMap strEnc = l.map Value.string
  | [] => rfl
  | b :: l => by simp only [List.flatMap_cons, List.map_cons, flat_str l]; rfl
theorem own_sstore {w : World} {B g cap n : Nat} {l : List ByteArray} (h : Kit.Own 9 1 strEnc w B (.slice (some ⟨g, 0, none⟩) n cap) l) (m : Nat) (t : ByteArray) :
    Kit.Own 9 1 strEnc (w.setCell ⟨g, m, none⟩ (.string t)) B (.slice (some ⟨g, 0, none⟩) n cap) (l.set m t) := by
  obtain ⟨h1, h2⟩ := h
  rw [flat_str] at h1 h2
  refine ⟨by rw [flat_str]; simp, ?_⟩
  rcases h2 with ⟨h2, _⟩ | ⟨g', cap', cur, hv, hg, hh, hc1, hc2, hc3, htk⟩
  · simp at h2
  · simp only [Value.slice.injEq, Option.some.injEq, Addr.mk.injEq] at hv
    obtain ⟨⟨rfl, _, _⟩, rfl, rfl⟩ := hv
    refine Or.inr ⟨g, cap, cur.setIfInBounds m (.string t), by rw [List.length_set], hg, blk_set hh m _, by rw [List.length_set]; exact hc1, hc2, by simpa using hc3, ?_⟩
    rw [flat_str, List.map_set, ← htk, List.length_set, Array.toList_setIfInBounds, List.take_set]
theorem own_sthaw {w : World} {B g cap n : Nat} {l : List ByteArray} (h : Kit.Own 9 1 strEnc w B (.slice (some ⟨g, 0, none⟩) n cap) l) (m : Nat) : w.frozen? ⟨g, m, none⟩ = false := by
  rcases h.2 with ⟨h2, _⟩ | ⟨g', cap', cur, hv, hg, hh, _⟩
  · simp at h2
  · simp only [Value.slice.injEq, Option.some.injEq, Addr.mk.injEq] at hv
    obtain ⟨⟨rfl, _, _⟩, rfl, rfl⟩ := hv
    simp [World.frozen?, hh]
end Go.Proofs.Ytgcbfpimfmkbmaa.Dk
