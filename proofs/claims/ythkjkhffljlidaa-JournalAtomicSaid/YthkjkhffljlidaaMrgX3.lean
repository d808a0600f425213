/- DiskAt KitAppend JJ JJb DiskWalk1 DiskWalk2 DiskWalk3 DiskWalk4 DiskWalk5: texts laid together. -/
import Derived.Test.YthkjkhffljlidaaMrgX2
import Derived.Test.YthkjkhffljlidaaProg
import Derived.Test.YthkjkhffljlidaaChecked
import Derived.Maps.OwnSet
import Derived.Maps.StringElems
import Derived.Test.YthkjkhffljlidaaMrgE0
import Derived.Maps.AppendAt
import Derived.Test.YthkjkhffljlidaaMrgX0
import Derived.Test.YthkjkhffljlidaaMrgE4
import Derived.Lib.Strings
import Derived.Lib.Walk
import Derived.WalkKit
import Derived.Test.YthkjkhffljlidaaMrgX1
import Derived.Lib.BufferMore
import Derived.RegionTactic
import Derived.WalkLawsBesides
import Derived.Deep.RegionLaw
import Derived.StillTailTactics
set_option maxRecDepth 100000
set_option maxHeartbeats 64000000
/- How a disk lies in memory, and what a call may change. -/
namespace Go.Proofs.Ythkjkhffljlidaa.Dk
set_option linter.unusedVariables false
set_option linter.unusedSimpArgs false
open Go.RowKit Go.ChangeMaps
def strEnc (s : ByteArray) : List Value := [.string s]
def wrEnc (x : Int × ByteArray) : List Value := [.int .i64 x.1, .string x.2]
theorem info_str : (Try.prog.info? 9).map (fun i => (i.zero, i.size, i.bytes)) = some (some (.string ByteArray.empty), 1, 16) := by kernel_rfl
theorem info_wr : (Try.prog.info? 103).map (fun i => (i.zero, i.size, i.bytes)) = some (some (.agg #[.int .i64 0, .string ByteArray.empty]), 2, 24) := by kernel_rfl
theorem T_str : Kit.SlTy Try.prog 23 9 1 16 strEnc where
  und := Try.underlying23
  info := by obtain ⟨i, h1, h2, h3, h4⟩ := info_parts info_str; exact ⟨i, _, h1, h2, h3, h4, rfl⟩
  pos := by decide
  len := fun _ => rfl
  one := fun x u h => by simp [strEnc] at h; subst h; rfl
theorem T_wr : Kit.SlTy Try.prog 94 103 2 24 wrEnc where
  und := Try.underlying94
  info := by obtain ⟨i, h1, h2, h3, h4⟩ := info_parts info_wr; exact ⟨i, _, h1, h2, h3, h4, rfl⟩
  pos := by decide
  len := fun _ => rfl
  one := fun x u h => by simp [wrEnc] at h; rcases h with rfl | rfl <;> rfl
def MapIs (w : World) (gm n : Nat) (f : Int → Option ByteArray) : Prop :=
  ∃ D : DataW Unit, w.ownsMap Try.prog 3 (plainElem Try.prog 9) gm n D ∧ ∀ x : Int, (Lit.int .i64 x).wf = true → Maps.has D (.int .i64 x) = (f x).isSome ∧ ∀ s, f x = some s → ∀ z, D.atKey (.int .i64 x) z = .lit (.string s.data.toList)
def Ow (d : Nat) (bv pv : Value) (gm : Nat) (k : Nat) : Prop := k = d ∨ bv.ownBlock = some k ∨ pv.ownBlock = some k ∨ k = gm
structure DAt (w : World) (d : Nat) (bv pv : Value) (gm n : Nat) (s : DS) : Prop where
  blk : w.heap[d]? = some (.cells #[bv, pv, .map (some gm), .bool s.armed, .int .i64 s.steps, .int .u64 s.mask, .bool s.down] 97 (0, 0))
  blocks : Kit.Own 9 1 strEnc w 0 bv s.blocks
  pend : Kit.Own 103 2 wrEnc w 0 pv s.pend
  map : MapIs w gm n (newest s.pend)
  fine : Fine s
  cnt : s.pend.length ≤ n
  d1 : d ≠ gm
  d2 : ∀ k, bv.ownBlock = some k → k ≠ d ∧ k ≠ gm
  d3 : ∀ k, pv.ownBlock = some k → k ≠ d ∧ k ≠ gm ∧ bv.ownBlock ≠ some k
theorem MapIs.keeps {S : Nat → Prop} {w w' : World} {gm n : Nat} {f : Int → Option ByteArray} (h : MapIs w gm n f) (hk : Kit.Keeps S w w') (hn : ¬ S gm) : MapIs w' gm n f := by
  obtain ⟨D, h1, h2⟩ := h
  have hlt := h1.lt
  obtain ⟨es, cl, hb, r⟩ := h1
  exact ⟨D, ⟨es, cl, by rw [hk.block gm hlt hn]; exact hb, r⟩, h2⟩
theorem MapIs.lt {w : World} {gm n : Nat} {f : Int → Option ByteArray} (h : MapIs w gm n f) : gm < w.heap.size := by
  obtain ⟨D, h1, _⟩ := h; exact h1.lt
theorem MapIs.mono {w : World} {gm n n' : Nat} {f : Int → Option ByteArray} (h : MapIs w gm n f) (hn : n ≤ n') : MapIs w gm n' f := by
  obtain ⟨D, h1, h2⟩ := h; exact ⟨D, h1.mono hn, h2⟩
theorem MapIs.congr {w : World} {gm n : Nat} {f g : Int → Option ByteArray} (h : MapIs w gm n f) (e : ∀ x, (Lit.int .i64 x).wf = true → f x = g x) : MapIs w gm n g := by
  obtain ⟨D, h1, h2⟩ := h
  exact ⟨D, h1, fun x hx => by rw [← e x hx]; exact h2 x hx⟩
theorem DAt.lt {w : World} {d : Nat} {bv pv : Value} {gm n : Nat} {s : DS} (h : DAt w d bv pv gm n s) {k : Nat} (hk : Ow d bv pv gm k) : k < w.heap.size := by
  rcases hk with rfl | hk | hk | rfl
  · exact (Array.getElem?_eq_some_iff.1 h.blk).1
  · exact (World.ownsRow.lt h.blocks k hk).2
  · exact (World.ownsRow.lt h.pend k hk).2
  · exact h.map.lt
theorem DAt.keeps {S : Nat → Prop} {w w' : World} {d : Nat} {bv pv : Value} {gm n : Nat} {s : DS} (h : DAt w d bv pv gm n s) (hk : Kit.Keeps S w w') (hn : ∀ k, Ow d bv pv gm k → ¬ S k) : DAt w' d bv pv gm n s :=
  ⟨Kit.blk_keeps h.blk hk (hn d (Or.inl rfl)), h.blocks.keeps hk (fun k e => hn k (Or.inr (Or.inl e))), h.pend.keeps hk (fun k e => hn k (Or.inr (Or.inr (Or.inl e)))), h.map.keeps hk (hn gm (Or.inr (Or.inr (Or.inr rfl)))), h.fine, h.cnt, h.d1, h.d2, h.d3⟩
theorem DAt.below {w w' : World} {d : Nat} {bv pv : Value} {gm n : Nat} {s : DS} (h : DAt w d bv pv gm n s) (hb : Below w.heap.size w w') : DAt w' d bv pv gm n s :=
  h.keeps (S := fun _ => False) (Kit.Keeps.of_below hb) (fun _ _ h => h)
theorem DAt.mono {w : World} {d : Nat} {bv pv : Value} {gm n n' : Nat} {s : DS} (h : DAt w d bv pv gm n s) (hn : n ≤ n') : DAt w d bv pv gm n' s :=
  ⟨h.blk, h.blocks, h.pend, h.map.mono hn, h.fine, Nat.le_trans h.cnt hn, h.d1, h.d2, h.d3⟩
def DPost (w : World) (d : Nat) (bv pv : Value) (gm n : Nat) (s' : DS) (r : Value) (e : Ending) (w' : World) : Prop :=
  e = .returned r ∧ ∃ pv', DAt w' d bv pv' gm n s' ∧ Kit.Keeps (Ow d bv pv gm) w w' ∧ (∀ k, pv'.ownBlock = some k → pv.ownBlock = some k ∨ w.heap.size ≤ k)
end Go.Proofs.Ythkjkhffljlidaa.Dk
/- append(v, x...) onto a slice of the call's own, whatever x is: nil, empty or not. Nothing here names a program. -/
namespace Go.Proofs.Ythkjkhffljlidaa.Kit
set_option linter.unusedVariables false
set_option linter.unusedSimpArgs false
open Go.RowKit
section
variable {α : Type} {P : Program} {t E : TypeId} {size bytes : Nat} {enc : α → List Value}
theorem run_append_none (w : World) (base : Nat) (ty : TypeId) (T : SlTy P t E size bytes enc) (v : Value) (l : List α) (hown : Own E size enc w base v l) (c : Nat) : (Builtin.append_ #[t, t] ty #[v, .slice none 0 c]).run P w = .ok v w := by
  obtain ⟨i, z, hi, hz0, hz1, hz2, hz3⟩ := T.info
  obtain ⟨h1, h2⟩ := hown
  rcases h2 with ⟨rfl, h0⟩ | ⟨g, cap, cur, rfl, hg, hh, hnc, _⟩
  · simp [Builtin.append_, run_underlying T.und, sizeOf, typeInfo, hi, Builtin.lenOf, Builtin.firstCells]
  · simp [Builtin.append_, run_underlying T.und, sizeOf, typeInfo, hi, Builtin.lenOf, Builtin.firstCells, hnc, storeCells]
theorem wp_appendA (T : SlTy P t E size bytes enc) {ops : Array Oper} {rest : List Oper} {o : Oper} {a : Act} {Q : Exit → Act → World → Prop}
    (hg : o.guard = none) (s x : Operand) (hop : o.op = Op.call { callee := Callee.builtin Builtin.append, args := #[s, x], argTypes := #[t, t] })
    (wr : World) (B : Nat) (v : Value) (l : List α) (hs : a.eval s = v) (hown : Own E size enc wr B v l) (l2 : List α) (ad : Option Addr) (n2 c hi : Nat)
    (hx : a.eval x = .slice ad n2 c) (hsl : Sl size enc wr hi (.slice ad n2 c) l2) (hl : l.length + l2.length ≤ maxLen) (hb : (l.length + l2.length) * bytes ≤ 140737488355328) (hB : B ≤ wr.heap.size)
    (hk : ∀ v' w', Own E size enc w' B v' (l ++ l2) → Below B wr w' → wr.grownBy w' v.ownBlock → (v'.ownBlock = v.ownBlock ∨ v'.ownBlock = some wr.heap.size) → wpList P ops Q rest (a.put o.dst v') w') :
    wpList P ops Q (o :: rest) a wr := by
  have hn2 : n2 = l2.length := by obtain ⟨_, _, he, _⟩ := hsl; exact (Value.slice.inj he).2.1
  subst hn2
  cases ad with
  | none =>
    have h0 : l2 = [] := by
      obtain ⟨ad', cap', he, _, h⟩ := hsl
      rcases h with h | ⟨b, off, hbo, _⟩
      · exact h
      · rw [hbo] at he; simp at he
    subst h0
    refine wpList_plain hg fun K hK' => ?_
    have hrun := run_append_none wr B o.type T v l hown c
    unfold Oper.wp
    simp only [List.length_nil] at hx
    simp [execOp, hop, resolve, invoke, builtin, hs, hx, hrun, Result.andThen]
    exact hK' _ _ (hk v wr (by simpa using hown) (Below.refl _ _) (World.grownBy.refl wr _) (Or.inl rfl))
  | some ad =>
    obtain ⟨i, z, hi0, hz0, hz1, hz2, hz3⟩ := T.info
    refine wpList_append_own_at _ hg s x t hop B E i z size bytes T.und hi0 hz0 hz1 hz2 hz3 T.pos v l.length (l.flatMap enc) hs hown ad l2.length c (l2.flatMap enc) hx (flat_len T.len l2) ?_ ?_ hl hb hB ?_
    · intro j u hj
      obtain ⟨ad', cap', he, _, h⟩ := hsl
      simp only [Value.slice.injEq, Option.some.injEq] at he
      rcases h with h | ⟨b, off, hbo, _, h⟩
      · subst h; simp at hj
      · obtain ⟨rfl, _, _⟩ := he
        simp only [Option.some.injEq] at hbo
        subst hbo
        have hjl : j < (l2.flatMap enc).length := (List.getElem?_eq_some_iff.1 hj).1
        rw [flat_len T.len] at hjl
        have hpos := T.pos
        have hq : j / size < l2.length := (Nat.div_lt_iff_lt_mul hpos).2 hjl
        have hr : j % size < size := Nat.mod_lt _ hpos
        have e : j / size * size + j % size = j := by rw [Nat.mul_comm]; exact Nat.div_add_mod j size
        have h1 := h (j / size) (j % size) l2[j / size] (by simp [hq]) hr
        have h2 := flat_get T.len l2 (j / size) (j % size) l2[j / size] (by simp [hq]) hr
        rw [e] at h1 h2
        rw [addr_add, h1, ← h2, hj]
    · intro u hu
      obtain ⟨y, _, hy⟩ := List.mem_flatMap.1 hu
      exact T.one y u hy
    · intro v' w' h1 h2 _ h4
      refine hk v' w' ?_ ?_ h2 h4
      · unfold Own
        rw [List.length_append, List.flatMap_append]
        exact h1
      · exact (Below.refl _ _).grown h2 hB (fun k hk => (World.ownsRow.lt hown k hk).1)
end
end Go.Proofs.Ythkjkhffljlidaa.Kit
/- The journal as an object of a walk: add, Records, Groups, Head. -/
namespace Go.Proofs.Ythkjkhffljlidaa.Jo
set_option linter.unusedVariables false
set_option linter.unusedSimpArgs false
open Go.RowKit Go.Proofs.Ythkjkhffljlidaa.Ev Go.Proofs.Ythkjkhffljlidaa.Dk
variable {gl : List (Nat × List CV)}
abbrev TJ : Nat := 92
abbrev TD : Nat := 35
instance ptrJ : PtrT Try.prog 36 := ⟨⟨_, Try.underlying36⟩⟩
instance ptrD : PtrT Try.prog 35 := ⟨⟨_, Try.underlying35⟩⟩
structure JS where
  gr : List (List ByteArray)
  used : Nat
  head : Nat
  stop : Bool
def JS.recs (s : JS) : List ByteArray := s.gr.flatten
def JS.add (s : JS) (l : List ByteArray) (m h : Nat) : JS := { s with gr := s.gr ++ [l], used := m, head := h }
theorem JS.recs_add (s : JS) (l : List ByteArray) (m h : Nat) : (s.add l m h).recs = s.recs ++ l := by simp [JS.recs, JS.add]
def jrow (kd : Nat) (v : Value) (s : JS) : Array Value := #[ifcP TD kd, v, .int .i64 (s.gr.length : Nat), .int .i64 (s.used : Nat), .int .u64 (s.head : Nat), .bool s.stop]
def jP (kd : Nat) (s : JS) : ObjP where
  holds := fun w g fp => ∃ v, w.heap[g]? = some (.cells (jrow kd v s) TJ (0, 0)) ∧ Kit.Own 9 1 strEnc w 0 v s.recs ∧ v.ownBlock ≠ some g ∧ ∀ k, fp k ↔ (k = g ∨ v.ownBlock = some k)
  stable := fun w w' g fp ⟨v, h1, h2, h3, h4⟩ hk => by
    refine ⟨v, (hk g ((h4 g).2 (.inl rfl))).trans h1, ?_, h3, h4⟩
    obtain ⟨f1, f2⟩ := h2
    refine ⟨f1, ?_⟩
    rcases f2 with f2 | ⟨g', cap, cur, rfl, g1, g2, g3⟩
    · exact .inl f2
    · exact .inr ⟨g', cap, cur, rfl, g1, (hk g' ((h4 g').2 (.inr rfl))).trans g2, g3⟩
theorem jP_new (kd : Nat) (w : World) (g : Nat) (h : w.heap[g]? = some (.cells (jrow kd (.slice none 0 0) ⟨[], 0, 0, false⟩) TJ (0, 0))) : (jP kd ⟨[], 0, 0, false⟩).holds w g (fun k => k = g) :=
  ⟨_, h, Kit.Own.nil _ _, by simp [Value.ownBlock], fun k => by simp [Value.ownBlock]⟩
theorem jP_cell {kd off : Nat} {s : JS} {x : Value} (ho : off ≠ 1) (h : ∀ v, (jrow kd v s)[off]? = some x) : ∀ w g fp, (jP kd s).holds w g fp → w.cell? ⟨g, off, none⟩ = some x := fun w g fp ⟨v, hb, _⟩ => by
  simp [World.cell?, hb, h v]
theorem jP_stop (kd : Nat) (s : JS) : StoreO (jP kd s) (fun g => g) 5 (.bool true) (jP kd { s with stop := true }) := fun w g fp ⟨v, hb, hown, hne, hf⟩ =>
  ⟨_, _, (hf g).2 (.inl rfl), hb, (by show 5 < 6; decide), fun w' h1 h2 => by
    refine ⟨v, by rw [h1]; rfl, ?_, hne, hf⟩
    obtain ⟨f1, f2⟩ := hown
    refine ⟨f1, ?_⟩
    rcases f2 with f2 | ⟨g', cap, cur, rfl, g1, g2, g3⟩
    · exact .inl f2
    · exact .inr ⟨g', cap, cur, rfl, g1, (h2 g' (fun e => hne (by simp [Value.ownBlock, e]))).trans g2, g3⟩⟩
theorem star_load {p q : ObjP} {k off : Nat} {x : Value} (h : ∀ w g fp, q.holds w g fp → w.cell? ⟨g, off, none⟩ = some x) : ∀ w g fp, (starP p k q).holds w g fp → w.cell? ⟨k, off, none⟩ = some x :=
  fun w _ _ ⟨_, f2, _, h2, _⟩ => h w k f2 h2
theorem star_store {p q q' : ObjP} {k off : Nat} {x : Value} (h : StoreO q (fun g => g) off x q') : StoreO (starP p k q) (fun _ => k) off x (starP p k q') := fun w g fp ⟨f1, f2, h1, h2, h3, h4, h5, h6⟩ => by
  obtain ⟨arr, t, e1, e2, e3, e4⟩ := h w k f2 h2
  refine ⟨arr, t, (h6 k).2 (.inr e1), e2, e3, fun w' q1 q2 => ⟨f1, f2, p.stable w w' g f1 h1 (fun j hj => q2 j (fun e => h5 j hj (e ▸ e1))), e4 w' q1 q2, h3, h4, h5, h6⟩⟩
theorem args_eq {F : Nat → Prop} {w : World} {g : Nat} {zs : List OA} {vals : Array Value} (hlen : zs.length = vals.size) (hv : ∀ (i : Nat) (x : OA) (u : Value), zs[i]? = some x → vals[i]? = some u → x.rel F w g u) {us : List Value} (hu : us.length = zs.length) (h : ∀ (i : Nat) (x : OA) (u y : Value), zs[i]? = some x → vals[i]? = some u → us[i]? = some y → x.rel F w g u → u = y) : vals = us.toArray := by
  apply Array.ext_getElem?
  intro i
  by_cases hi : i < zs.length
  · have hia : i < vals.size := by omega
    have hiu : i < us.length := by omega
    have := h i zs[i] vals[i] us[i] (by simp [hi]) (by simp [hia]) (by simp [hiu]) (hv i zs[i] vals[i] (by simp [hi]) (by simp [hia]))
    simp [hia, hiu, this]
  · rw [Array.getElem?_eq_none (by omega), Array.getElem?_eq_none (by simp; omega)]
theorem rc_sl {F : Nat → Prop} {w : World} {l : List ByteArray} {u : Value} (hF : ∀ b, F b → b < w.heap.size) (h : RC F w (LT l) u) : Kit.Sl 1 strEnc w w.heap.size u l := by
  have e : ∀ l : List ByteArray, l.flatMap stC = l.map fun s => STR s := fun l => by
    induction l with
    | nil => rfl
    | cons s l ih => rw [List.flatMap_cons, ih]; rfl
  generalize hx : LT l = x at h
  cases h with
  | lst cs hn hc hFb hcell hr =>
    rename_i size blk off n cap xs
    simp only [LT, CV.lst.injEq] at hx
    obtain ⟨rfl, rfl⟩ := hx
    have hnl : n = l.length := by rw [e] at hn; simp at hn; omega
    subst hnl
    refine ⟨_, cap, rfl, hc, .inr ⟨blk, off, rfl, hF _ hFb, fun i j x hxi hj => ?_⟩⟩
    have hj0 : j = 0 := by omega
    subst hj0
    have hq : (l.flatMap stC)[i]? = some (STR x) := by rw [e, List.getElem?_map, hxi]; rfl
    have h1 := hcell i _ hq
    have h2 := rc_val (hr i _ hq)
    rw [h2] at h1
    rw [show off + (i * 1 + 0) = off + i by omega, h1]; rfl
  | nil =>
    simp only [LT, CV.lst.injEq] at hx
    obtain ⟨rfl, hx⟩ := hx
    have : l = [] := by
      rw [e] at hx
      exact List.map_eq_nil_iff.1 hx
    subst this
    exact ⟨_, _, rfl, Nat.zero_le _, .inl rfl⟩
  | _ => cases hx
theorem own_rc {F : Nat → Prop} {w : World} {v : Value} {l : List ByteArray} (h : Kit.Own 9 1 strEnc w 0 v l) (hF : ∀ b, v.ownBlock = some b → F b) : RC F w (LT l) v := by
  have e : ∀ l : List ByteArray, l.flatMap stC = l.map fun s => STR s := fun l => by
    induction l with
    | nil => rfl
    | cons s l ih => rw [List.flatMap_cons, ih]; rfl
  have e2 : ∀ l : List ByteArray, l.flatMap strEnc = l.map fun s => Value.string s := fun l => by
    induction l with
    | nil => rfl
    | cons s l ih => rw [List.flatMap_cons, ih]; rfl
  obtain ⟨f1, f2⟩ := h
  rcases f2 with ⟨rfl, h0⟩ | ⟨g, cap, cur, rfl, g1, g2, g3, g4, g5, g6⟩
  · have : l = [] := List.length_eq_zero_iff.1 h0
    subst this
    exact .nil
  · refine .lst (fun i => (l.map Value.string).getD i undef) (by rw [e]; simp) g3 (hF g rfl) (fun i x hx => ?_) (fun i x hx => ?_)
    · rw [e, List.getElem?_map, Option.map_eq_some_iff] at hx
      obtain ⟨s, hs, rfl⟩ := hx
      have hi : i < l.length := (List.getElem?_eq_some_iff.1 hs).1
      have h1 : (cur.toList.take (l.length * 1))[i]? = some (.string s) := by rw [g6, e2, List.getElem?_map, hs]; rfl
      rw [List.getElem?_take_of_lt (by omega), Array.getElem?_toList] at h1
      simp [World.cell?, g2, h1, List.getD_eq_getElem?_getD, hs]
    · rw [e, List.getElem?_map, Option.map_eq_some_iff] at hx
      obtain ⟨s, hs, rfl⟩ := hx
      have : (l.map Value.string).getD i undef = .string s := by simp [List.getD_eq_getElem?_getD, hs]
      rw [this]; exact .v _
theorem groups_j (kd : Nat) (s : JS) : OCon Try.prog gl 32 [.p] (jP kd s) (I (s.gr.length : Nat)) (jP kd s) := by
  refine ocon_of Try.func32 rfl (by kernel_rfl) rfl (by intro x hx h e; subst e; first | (simp at hx; done) | (intro g; simp at hx; subst hx; rfl)) ?_
  intro fr hfr
  simp only [Try.ntmps32, Try.results32, argEnvO, avOf, of1, List.map]
  repeat' (first
 | ((with_reducible apply r_load_o); exact rfl; exact rfl; exact jP_cell (by decide) (fun _ => rfl); exact rfl)
 | ((with_reducible apply r_nilp); exact rfl; exact rfl)
 | ((with_reducible apply r_eqnilp); exact rfl; exact rfl; exact rfl)
 | ((with_reducible apply aw_seq))
 | ((with_reducible apply aw_region))
 | ((with_reducible apply thn_normal))
 | ((with_reducible apply aw_skip))
 | ((with_reducible apply aw_ret))
 | ((with_reducible apply ao_nil))
 | ((with_reducible apply r_move); exact rfl; exact rfl)
 | ((with_reducible apply r_assign); exact rfl; exact rfl)
 | ((with_reducible apply r_field_p); exact rfl; exact rfl)
 | (((with_reducible apply aw_cond); exact rfl) <;> intro hg <;> (first | (exact absurd hg (by decide)) | ((try simp only [decide_eq_true_eq, decide_eq_false_iff_not, Bool.not_eq_true', Bool.not_eq_false', Bool.not_true, Bool.not_false, Bool.not_not, Int.not_lt, Int.not_le, Nat.not_lt, Nat.not_le, gt_iff_lt, ge_iff_le, List.cons.injEq, and_true] at hg); first | (exact absurd trivial hg) | (exfalso; omega) | (have hT : True := hg; clear hT hg) | skip)))
 )
  all_goals exact ⟨ret1 (.tmp rfl cl_c), rfl, rfl⟩
theorem head_j (kd : Nat) (s : JS) : OCon Try.prog gl 33 [.p] (jP kd s) (U (s.head : Nat)) (jP kd s) := by
  refine ocon_of Try.func33 rfl (by kernel_rfl) rfl (by intro x hx h e; subst e; first | (simp at hx; done) | (intro g; simp at hx; subst hx; rfl)) ?_
  intro fr hfr
  simp only [Try.ntmps33, Try.results33, argEnvO, avOf, of1, List.map]
  repeat' (first
 | ((with_reducible apply r_load_o); exact rfl; exact rfl; exact jP_cell (by decide) (fun _ => rfl); exact rfl)
 | ((with_reducible apply r_nilp); exact rfl; exact rfl)
 | ((with_reducible apply r_eqnilp); exact rfl; exact rfl; exact rfl)
 | ((with_reducible apply aw_seq))
 | ((with_reducible apply aw_region))
 | ((with_reducible apply thn_normal))
 | ((with_reducible apply aw_skip))
 | ((with_reducible apply aw_ret))
 | ((with_reducible apply ao_nil))
 | ((with_reducible apply r_move); exact rfl; exact rfl)
 | ((with_reducible apply r_assign); exact rfl; exact rfl)
 | ((with_reducible apply r_field_p); exact rfl; exact rfl)
 | (((with_reducible apply aw_cond); exact rfl) <;> intro hg <;> (first | (exact absurd hg (by decide)) | ((try simp only [decide_eq_true_eq, decide_eq_false_iff_not, Bool.not_eq_true', Bool.not_eq_false', Bool.not_true, Bool.not_false, Bool.not_not, Int.not_lt, Int.not_le, Nat.not_lt, Nat.not_le, gt_iff_lt, ge_iff_le, List.cons.injEq, and_true] at hg); first | (exact absurd trivial hg) | (exfalso; omega) | (have hT : True := hg; clear hT hg) | skip)))
 )
  all_goals exact ⟨ret1 (.tmp rfl cl_c), rfl, rfl⟩
end Go.Proofs.Ythkjkhffljlidaa.Jo
/- The journal as an object of a walk: add, Records. -/
namespace Go.Proofs.Ythkjkhffljlidaa.Jo
set_option linter.unusedVariables false
set_option linter.unusedSimpArgs false
open Go.RowKit Go.Proofs.Ythkjkhffljlidaa.Ev Go.Proofs.Ythkjkhffljlidaa.Dk
variable {gl : List (Nat × List CV)}
theorem add_any {w : World} {g kd : Nat} {v : Value} {s : JS} {l : List ByteArray} {m h : Nat} {u : Value} (hb : w.heap[g]? = some (.cells (jrow kd v s) TJ (0, 0))) (hown : Kit.Own 9 1 strEnc w 0 v s.recs) (hne : v.ownBlock ≠ some g) (hsl : Kit.Sl 1 strEnc w w.heap.size u l) (hlen : s.recs.length + l.length ≤ 1000000000) (hgr : s.gr.length ≤ 1000000000) :
    Calls Try.prog 49 #[.pointer (some ⟨g, 0, none⟩), u, .int .i64 m, .int .u64 h] w fun e w' => e = .returned (.tuple #[]) ∧ ∃ v', w'.heap[g]? = some (.cells (jrow kd v' (s.add l m h)) TJ (0, 0)) ∧ Kit.Own 9 1 strEnc w' 0 v' (s.recs ++ l) ∧ v'.ownBlock ≠ some g ∧ w'.os = w.os ∧ w'.tape = w.tape ∧ w'.output = w.output ∧ w.heap.size ≤ w'.heap.size ∧ (∀ k, k < w.heap.size → k ≠ g → v.ownBlock ≠ some k → w'.heap[k]? = w.heap[k]?) ∧ ∀ k, v'.ownBlock = some k → v.ownBlock = some k ∨ w.heap.size ≤ k := by
  have hgl : g < w.heap.size := (Array.getElem?_eq_some_iff.1 hb).1
  obtain ⟨ad, c, rfl, hc, hs2⟩ := id hsl
  have c1 : w.cell? ⟨g, 1, none⟩ = some v := by simp [World.cell?, hb, jrow]
  have HO := Lib.hid hown; have HS := Lib.hid hsl; have HB := Lib.hid hb; have HL := Lib.hid hlen; have HG := Lib.hid hgr
  clear hown hsl hlen hgr hs2
  go_enter Try.func49, Try.ntmps49
  go_wp2_with (at_builtin; refine Kit.wp_appendA T_str (by rfl) _ _ (by rfl) w 0 v s.recs (by rfl) HO.out l ad l.length c w.heap.size (by rfl) HS.out ?c1 ?c2 ?c3 ?_)
  case c1 => have := HL.out; unfold maxLen; omega
  case c2 => have := HL.out; omega
  case c3 => exact Nat.zero_le _
  intro v' w2 hown' hbel hgrow hwh
  have hb2 : w2.heap[g]? = some (.cells (jrow kd v s) TJ (0, 0)) := by
    rw [hgrow.block g hgl (fun e => hne e.symm)]; exact HB.out
  have hne' : v'.ownBlock ≠ some g := by
    rcases hwh with e | e
    · rw [e]; exact hne
    · rw [e]; intro e2; cases e2; exact absurd hgl (Nat.lt_irrefl _)
  obtain ⟨ao, n', cap, rfl⟩ : ∃ ao n' cap, v' = .slice ao n' cap := by
    rcases hown'.2 with ⟨hv, _⟩ | ⟨g, cap, cur, hv, _⟩
    · exact ⟨_, _, _, hv⟩
    · exact ⟨_, _, _, hv⟩
  have f1 : w2.frozen? ⟨g, 1, none⟩ = false := Lib.frozen_of_heap hb2 1
  have f2 : w2.frozen? ⟨g, 2, none⟩ = false := Lib.frozen_of_heap hb2 2
  have f3 : w2.frozen? ⟨g, 3, none⟩ = false := Lib.frozen_of_heap hb2 3
  have f4 : w2.frozen? ⟨g, 4, none⟩ = false := Lib.frozen_of_heap hb2 4
  have d1 : w2.cell? ⟨g, 1, none⟩ = some v := by rw [Lib.cell_of_heap hb2]; rfl
  have d2 : w2.cell? ⟨g, 2, none⟩ = some (.int .i64 (s.gr.length : Nat)) := by rw [Lib.cell_of_heap hb2]; rfl
  have d3 : w2.cell? ⟨g, 3, none⟩ = some (.int .i64 (s.used : Nat)) := by rw [Lib.cell_of_heap hb2]; rfl
  have d4 : w2.cell? ⟨g, 4, none⟩ = some (.int .u64 (s.head : Nat)) := by rw [Lib.cell_of_heap hb2]; rfl
  have hfit : (s.gr.length : Int) + 1 ≤ 1000000001 := by have := HG.out; omega
  have HO' := Lib.hid hown'; have HB2 := Lib.hid hb2; have HR := Lib.hid hgrow; have HW := Lib.hid hwh
  clear hown' hb2 hgrow hwh hbel
  go_wp2
  go_end0
  have hset : ∀ k, k ≠ g → ((((w2.setCell ⟨g, 1, none⟩ (.slice ao n' cap)).setCell ⟨g, 2, none⟩ (.int .i64 ((s.gr.length : Int) + 1))).setCell ⟨g, 3, none⟩ (.int .i64 m)).setCell ⟨g, 4, none⟩ (.int .u64 h)).heap[k]? = w2.heap[k]? := fun k hk => by
    simp only [World.setCell, Array.getElem?_modify]
    rw [if_neg (Ne.symm hk), if_neg (Ne.symm hk), if_neg (Ne.symm hk), if_neg (Ne.symm hk)]
  refine ⟨rfl, .slice ao n' cap, ?_, ?_, hne', ?_, ?_, ?_, ?_, fun k h1 h2 h3 => ?_, fun k hk => ?_⟩
  · simp only [World.setCell, Array.getElem?_modify, if_pos, HB2.out]
    simp [jrow, JS.add]
  · obtain ⟨e1, e2⟩ := HO'.out
    refine ⟨e1, ?_⟩
    rcases e2 with e2 | ⟨g', cap', cur, e0, q1, q2, q3⟩
    · exact .inl e2
    · exact .inr ⟨g', cap', cur, e0, q1, (hset g' (fun e => hne' (by rw [e0]; simp [Value.ownBlock, e]))).trans q2, q3⟩
  · exact HR.out.os
  · exact HR.out.tape
  · exact HR.out.output
  · have := HR.out.size; simp [World.setCell]; omega
  · rw [hset k h2, HR.out.block k h1 (fun e => h3 e.symm)]
  · rcases HW.out with e | e
    · rw [e] at hk; exact .inl hk
    · rw [e] at hk; cases hk; exact .inr (Nat.le_refl _)
theorem add_j (kd : Nat) (s : JS) (l : List ByteArray) (m h : Nat) (hlen : s.recs.length + l.length ≤ 1000000000) (hgr : s.gr.length ≤ 1000000000) : OCon Try.prog gl 49 [.p, .c (LT l), .c (I m), .c (U h)] (jP kd s) (.tup []) (jP kd (s.add l m h)) := by
  refine ⟨by kernel_rfl, fun w F fp g vs hF hgl ⟨v, hb, hown, hne, hf⟩ hg hfp hlen' hv => ?_⟩
  obtain ⟨u, hu, hsl⟩ : ∃ u, vs[1]? = some u ∧ Kit.Sl 1 strEnc w w.heap.size u l := by
    have h1 : 1 < vs.size := by rw [← hlen']; show 1 < 4; omega
    exact ⟨vs[1], by simp [h1], rc_sl hF (hv 1 (.c (LT l)) vs[1] rfl (by simp [h1]))⟩
  have e : vs = #[.pointer (some ⟨g, 0, none⟩), u, .int .i64 m, .int .u64 h] := by
    refine args_eq hlen' hv (us := [.pointer (some ⟨g, 0, none⟩), u, .int .i64 m, .int .u64 h]) rfl (fun i x y z hx hy0 hy hr => ?_)
    match i with
    | 0 => simp at hx hy; subst hx; subst hy; exact hr
    | 1 =>
      simp at hx hy; subst hx; subst hy
      rw [hu] at hy0; cases hy0; rfl
    | 2 => simp at hx hy; subst hx; subst hy; exact rc_val hr
    | 3 => simp at hx hy; subst hx; subst hy; exact rc_val hr
    | i + 4 => simp at hx
  subst e
  refine (add_any hb hown hne hsl hlen hgr).mono fun e w' ⟨he, v', a1, a2, a3, a4, a5, a6, a7, a8, a9⟩ => ⟨_, fun k => k = g ∨ v'.ownBlock = some k, he, ⟨a4, a5, a6, a7, fun k h1 h2 => a8 k h1 (fun e => h2 ((hf k).2 (.inl e))) (fun e => h2 ((hf k).2 (.inr e))), ⟨v', a1, by rw [JS.recs_add]; exact a2, a3, fun k => Iff.rfl⟩, .inl rfl, fun k hk => ?_⟩, rc_tup (us := [])⟩
  rcases hk with rfl | hk
  · exact ⟨Nat.lt_of_lt_of_le (hfp _ hg).1 a7, .inl hg⟩
  · refine ⟨(World.ownsRow.lt a2 k hk).2, ?_⟩
    rcases a9 k hk with h1 | h1
    · exact .inl ((hf k).2 (.inr h1))
    · exact .inr h1
theorem own_sl {w : World} {v : Value} {l : List ByteArray} (h : Kit.Own 9 1 strEnc w 0 v l) : Kit.Sl 1 strEnc w w.heap.size v l := by
  have e2 : ∀ l : List ByteArray, l.flatMap strEnc = l.map fun s => Value.string s := fun l => by
    induction l with
    | nil => rfl
    | cons s l ih => rw [List.flatMap_cons, ih]; rfl
  obtain ⟨f1, f2⟩ := h
  rcases f2 with ⟨rfl, h0⟩ | ⟨g, cap, cur, rfl, g1, g2, g3, g4, g5, g6⟩
  · have : l = [] := List.length_eq_zero_iff.1 h0
    subst this
    exact ⟨_, _, rfl, Nat.zero_le _, .inl rfl⟩
  · refine ⟨_, cap, rfl, g3, .inr ⟨g, 0, rfl, (Array.getElem?_eq_some_iff.1 g2).1, fun i j x hx hj => ?_⟩⟩
    have hj0 : j = 0 := by omega
    subst hj0
    have hi : i < l.length := (List.getElem?_eq_some_iff.1 hx).1
    have h1 : (cur.toList.take (l.length * 1))[i]? = some (.string x) := by rw [g6, e2, List.getElem?_map, hx]; rfl
    rw [List.getElem?_take_of_lt (by omega), Array.getElem?_toList] at h1
    simp [World.cell?, g2, h1, strEnc]
theorem clone_any {w : World} {v : Value} {l : List ByteArray} (hown : Kit.Own 9 1 strEnc w 0 v l) (hlen : l.length ≤ 1000000000) :
    Calls Try.prog 59 #[v] w fun e w' => ∃ v', e = .returned v' ∧ Below w.heap.size w w' ∧ Kit.Own 9 1 strEnc w' 0 v' l ∧ ∀ k, v'.ownBlock = some k → w.heap.size ≤ k := by
  have hsl := own_sl hown
  rcases hown.2 with ⟨rfl, h0⟩ | ⟨g, cap, cur, rfl, g1, g2, g3, g4, g5, g6⟩
  · have : l = [] := List.length_eq_zero_iff.1 h0
    subst this
    go_enter Try.func59, Try.ntmps59
    go_wp2
    rw [Lib.run_eql_slice_nil_nil w 0 0 Try.underlying23]
    simp only [Result.andThen]
    rw [Oper.upon_value]
    go_wp2
    go_ret
    exact ⟨_, rfl, Below.refl _ _, Kit.Own.nil _ _, fun k hk => by cases hk⟩
  · have HS := Lib.hid hsl
    clear hsl g6 g2 hown
    have hsz : w.heap.size ≤ (w.alloc (.cells #[] 9)).heap.size := by show w.heap.size ≤ (w.heap.push _).size; simp
    have hnew : (w.alloc (.cells #[] 9)).heap[w.heap.size]? = some (.cells #[] 9 (0, 0)) := by show (w.heap.push _)[w.heap.size]? = _; simp
    have hold : ∀ k, k < w.heap.size → (w.alloc (.cells #[] 9)).heap[k]? = w.heap[k]? := fun k hk => Lib.alloc_old w _ k hk
    have HO : Hid (Kit.Own 9 1 strEnc (w.alloc (.cells #[] 9)) w.heap.size (.slice (some ⟨w.heap.size, 0, none⟩) 0 0) ([] : List ByteArray)) := Lib.hid ⟨rfl, .inr ⟨w.heap.size, 0, #[], rfl, Nat.le_refl _, hnew, Nat.le_refl _, by unfold maxLen; omega, rfl, rfl⟩⟩
    have HS2 : Hid (Kit.Sl 1 strEnc (w.alloc (.cells #[] 9)) w.heap.size (.slice (some ⟨g, 0, none⟩) l.length cap) l) := Lib.hid (HS.out.below (B := w.heap.size) ⟨rfl, rfl, rfl, hsz, hold⟩ (Nat.le_refl _))
    go_enter Try.func59, Try.ntmps59
    go_wp2
    rw [Lib.run_eql_slice_some_nil w ⟨g, 0, none⟩ l.length cap Try.underlying23]
    simp only [Result.andThen]
    rw [Oper.upon_value]
    go_wp2_with (at_builtin; refine Kit.wp_appendA T_str (by rfl) _ _ (by rfl) (w.alloc (.cells #[] 9)) w.heap.size _ [] (by rfl) HO.out l _ l.length cap w.heap.size (by rfl) HS2.out ?c1 ?c2 ?c3 ?_)
    case c1 => simp; unfold maxLen; omega
    case c2 => simp; omega
    case c3 => exact hsz
    intro v' w2 hown' hbel hgrow hwh
    have HO' := Lib.hid hown'; have HB := Lib.hid hbel; have HW := Lib.hid hwh
    clear hown' hbel hgrow hwh
    go_wp2
    go_ret
    refine ⟨v', rfl, ?_, ?_, fun k hk => ?_⟩
    · have hbA : Below w.heap.size w (w.alloc (.cells #[] 9)) := ⟨rfl, rfl, rfl, hsz, hold⟩
      exact hbA.trans HB.out
    · obtain ⟨e1, e2⟩ := HO'.out
      refine ⟨e1, ?_⟩
      rcases e2 with e2 | ⟨g', cap', cur, e0, q1, q2⟩
      · exact .inl e2
      · exact .inr ⟨g', cap', cur, e0, Nat.zero_le _, q2⟩
    · have := (World.ownsRow.lt HO'.out k hk).1
      exact this
theorem records_any {w : World} {g kd : Nat} {v : Value} {s : JS} (hb : w.heap[g]? = some (.cells (jrow kd v s) TJ (0, 0))) (hown : Kit.Own 9 1 strEnc w 0 v s.recs) (hlen : s.recs.length ≤ 1000000000) :
    Calls Try.prog 30 #[.pointer (some ⟨g, 0, none⟩)] w fun e w' => ∃ v', e = .returned v' ∧ Below w.heap.size w w' ∧ Kit.Own 9 1 strEnc w' 0 v' s.recs ∧ ∀ k, v'.ownBlock = some k → w.heap.size ≤ k := by
  have c1 : w.cell? ⟨g, 1, none⟩ = some v := by simp [World.cell?, hb, jrow]
  have HO := Lib.hid hown; have HL := Lib.hid hlen
  clear hown hlen hb
  go_enter Try.func30, Try.ntmps30
  go_wp2_with (go_at_call 59; refine (clone_any HO.out HL.out).mono ?_)
  rintro e w2 ⟨v', rfl, h1, h2, h3⟩
  have H1 := Lib.hid h1; have H2 := Lib.hid h2; have H3 := Lib.hid h3
  clear h1 h2 h3
  go_wp2
  go_ret
  exact ⟨v', rfl, H1.out, H2.out, H3.out⟩
theorem records_j (kd : Nat) (s : JS) (hlen : s.recs.length ≤ 1000000000) : OCon Try.prog gl 30 [.p] (jP kd s) (LT s.recs) (jP kd s) := by
  refine ⟨by kernel_rfl, fun w F fp g vs hF hgl ⟨v, hb, hown, hne, hf⟩ hg hfp hlen' hv => ?_⟩
  rw [one_val hlen' hv]
  refine (records_any hb hown hlen).mono fun e w' ⟨v', he, hbl, ho, hk⟩ => ⟨v', fp, he, ⟨hbl.os, hbl.tape, hbl.output, hbl.size, fun k h1 _ => hbl.block k h1, (jP kd s).stable w w' g fp ⟨v, hb, hown, hne, hf⟩ (fun k hk => hbl.block k (hfp k hk).1), hg, fun k hk => ⟨Nat.lt_of_lt_of_le (hfp k hk).1 hbl.size, .inl hk⟩⟩, own_rc ho (fun b hb => ?_)⟩
  have h1 := hk b hb
  refine .inr ⟨(World.ownsRow.lt ho b hb).2, fun hf' => ?_, .inr h1⟩
  have := (hfp b hf').1
  omega
end Go.Proofs.Ythkjkhffljlidaa.Jo
/- The walks of the disk's small methods: has, Down, Blocks, Pending, New, Read. -/
namespace Go.Proofs.Ythkjkhffljlidaa.Dk
set_option linter.unusedVariables false
set_option linter.unusedSimpArgs false
open Go.RowKit Go.ChangeMaps
theorem blkc {w : World} {g : Nat} {C : Array Value} {T : TypeId} {fz : Nat × Nat} (h : w.heap[g]? = some (.cells C T fz)) (j : Nat) (v : Value) (hv : C[j]? = some v) : w.cell? ⟨g, j, none⟩ = some v := by
  simp [World.cell?, h, hv]
theorem blkf {w : World} {g : Nat} {C : Array Value} {T : TypeId} (h : w.heap[g]? = some (.cells C T (0, 0))) (j : Nat) : w.frozen? ⟨g, j, none⟩ = false := by
  simp [World.frozen?, h]
theorem blk_new (w : World) (C : Array Value) (T : TypeId) : (w.alloc (.cells C T)).heap[w.heap.size]? = some (.cells C T (0, 0)) := by
  show (w.heap.push _)[w.heap.size]? = _
  simp
theorem blk_set {w : World} {g : Nat} {C : Array Value} {T : TypeId} (h : w.heap[g]? = some (.cells C T (0, 0))) (j : Nat) (v : Value) : (w.setCell ⟨g, j, none⟩ v).heap[g]? = some (.cells (C.setIfInBounds j v) T (0, 0)) := by
  simp only [World.setCell, Array.getElem?_modify, h]
  simp
theorem ret_bool {a b : Bool} (h : a = b) : Ending.returned (.bool a) = .returned (.bool b) := by rw [h]
theorem chainB {W0 W w' : World} (h1 : Below W0.heap.size W0 W) (h2 : Below W.heap.size W w') : Below W0.heap.size W0 w' := h1.trans (h2.mono h1.size)
theorem newB (W : World) (o : Obj) : Below W.heap.size W (W.alloc o) := (Below.refl _ _).alloc (Nat.le_refl _) _
theorem DAt.bform {w : World} {d : Nat} {bv pv : Value} {gm n : Nat} {s : DS} (h : DAt w d bv pv gm n s) : ∃ g cap, bv = .slice (some ⟨g, 0, none⟩) s.blocks.length cap := by
  rcases h.blocks.form with ⟨_, h0⟩ | ⟨g, cap, h1, _⟩
  · have := h.fine.len.1; rw [h0] at this; simp at this
  · exact ⟨g, cap, h1⟩
theorem DAt.pform {w : World} {d : Nat} {bv pv : Value} {gm n : Nat} {s : DS} (h : DAt w d bv pv gm n s) : ∃ a cap, pv = .slice a s.pend.length cap := by
  obtain ⟨a, c, h, _⟩ := h.pend.sl (fun _ => rfl)
  exact ⟨a, c, h⟩
theorem has_any {w : World} {d : Nat} {bv pv : Value} {gm n : Nat} {s : DS} (h : DAt w d bv pv gm n s) (i : Int) :
    Calls Try.prog 50 #[.pointer (some ⟨d, 0, none⟩), .int .i64 i] w fun e w' => e = .returned (.bool (inB s i)) ∧ w = w' := by
  have c0 := blkc h.blk 0 _ rfl
  obtain ⟨g, cap, rfl⟩ := h.bform
  have HF : Hid (inB s i = (decide (0 ≤ i) && decide (i < s.blocks.length))) := Lib.hid rfl
  have hl := h.fine.len
  obtain ⟨hl1, hl2⟩ := hl
  generalize s.blocks.length = L at *
  clear h
  by_cases h1 : 0 ≤ i
  · by_cases h2 : i < L
    · have b1 : decide (0 ≤ i) = true := by simpa using h1
      have b2 : decide (i < (L : Int)) = true := by simpa using h2
      go_enter Try.func50, Try.ntmps50
      go_wp2
      go_ret
      exact ⟨ret_bool (by rw [HF.out, b1, b2]; rfl), rfl⟩
    · have b1 : decide (0 ≤ i) = true := by simpa using h1
      have b2 : decide (i < (L : Int)) = false := by simpa using h2
      go_enter Try.func50, Try.ntmps50
      go_wp2
      go_ret
      exact ⟨ret_bool (by rw [HF.out, b1, b2]; rfl), rfl⟩
  · have b1 : decide (0 ≤ i) = false := by simpa using h1
    go_enter Try.func50, Try.ntmps50
    go_wp2
    go_ret
    exact ⟨ret_bool (by rw [HF.out, b1]; rfl), rfl⟩
theorem down_any {w : World} {d : Nat} {bv pv : Value} {gm n : Nat} {s : DS} (h : DAt w d bv pv gm n s) :
    Calls Try.prog 60 #[.pointer (some ⟨d, 0, none⟩)] w fun e w' => e = .returned (.bool s.down) ∧ w = w' := by
  have c0 := blkc h.blk 6 _ rfl
  clear h
  go_enter Try.func60, Try.ntmps60
  go_wp2
  go_ret
  exact ⟨rfl, rfl⟩
theorem blocks_any {w : World} {d : Nat} {bv pv : Value} {gm n : Nat} {s : DS} (h : DAt w d bv pv gm n s) :
    Calls Try.prog 109 #[.pointer (some ⟨d, 0, none⟩)] w fun e w' => e = .returned (.int .i64 s.blocks.length) ∧ w = w' := by
  have c0 := blkc h.blk 0 _ rfl
  obtain ⟨g, cap, rfl⟩ := h.bform
  clear h
  go_enter Try.func109, Try.ntmps109
  go_wp2
  go_ret
  exact ⟨rfl, rfl⟩
def NewPost (n : Int) (w : World) (e : Ending) (w' : World) : Prop :=
  (∃ (m : Nat) (d : Nat) (bv : Value) (gm : Nat), n = (m : Int) ∧ 1 ≤ m ∧ m ≤ 4096 ∧ e = .returned (.tuple #[.pointer (some ⟨d, 0, none⟩), .int .i64 0]) ∧ DAt w' d bv (.slice none 0 0) gm 0 (DS.new m) ∧ (∀ k, Ow d bv (.slice none 0 0) gm k → w.heap.size ≤ k) ∧ Below w.heap.size w w')
  ∨ ((n < 1 ∨ 4096 < n) ∧ e = .returned (.tuple #[.pointer none, .int .i64 9]) ∧ w = w')
theorem zero_str (i : TypeInfo) (z : Value) (h : Try.prog.info? 9 = some i) (hz : i.zero = some z) : z.cells.toList = strEnc ByteArray.empty := by
  have h0 : (Try.prog.info? 9).map (fun i => i.zero) = some (some (.string ByteArray.empty)) := by kernel_rfl
  rw [h] at h0
  simp only [Option.map_some, Option.some.injEq] at h0
  rw [h0] at hz
  obtain rfl := Option.some.inj hz
  rfl
theorem MapIs.new (w : World) : MapIs (w.alloc (.map #[] 0)) w.heap.size 0 (fun _ => none) :=
  ⟨.map [], World.ownsMap_made w _ _ _, fun x _ => ⟨rfl, fun s h => by simp at h⟩⟩
theorem new_any (n : Int) (w : World) : Calls Try.prog 27 #[.int .i64 n] w (NewPost n w) := by
  by_cases h1 : n < 1
  · have b1 : decide (n < 1) = true := by simpa using h1
    go_enter Try.func27, Try.ntmps27
    go_wp2
    go_ret2
    exact Or.inr ⟨Or.inl h1, rfl, rfl⟩
  · have b1 : decide (n < 1) = false := by simpa using h1
    by_cases h2 : 4096 < n
    · have b2 : decide (4096 < n) = true := by simpa using h2
      go_enter Try.func27, Try.ntmps27
      go_wp2
      go_ret2
      exact Or.inr ⟨Or.inr h2, rfl, rfl⟩
    · have b2 : decide (4096 < n) = false := by simpa using h2
      obtain ⟨m, rfl⟩ : ∃ m : Nat, n = (m : Int) := ⟨n.toNat, by omega⟩
      have hmm := @run_makeMap Try.prog
      have hm1 : 1 ≤ m := by omega
      have hm2 : m ≤ 4096 := by omega
      go_enter Try.func27, Try.ntmps27
      go_wp2_with (at_make; refine Kit.wp_make T_str ByteArray.empty zero_str w rfl _ _ rfl w.heap.size m rfl rfl (by omega) (by unfold maxLen; omega) (Nat.le_refl _) w.heap.size rfl ?_)
      intro w1 hown hb1 hs1
      have HO := Lib.hid hown; clear hown
      go_wp2
      go_ret2
      have e1 : (w1.alloc (.map #[] 0)).heap.size = w1.heap.size + 1 := by simp
      have hb2 := newB w1 (.map #[] 0)
      have hb3 := newB (w1.alloc (.map #[] 0)) (.cells #[.slice (some ⟨w.heap.size, 0, none⟩) m m, .slice none 0 0, .map (some w1.heap.size), .bool false, .int .i64 0, .int .u64 0, .bool false] 97)
      have hblk := blk_new (w1.alloc (.map #[] 0)) #[.slice (some ⟨w.heap.size, 0, none⟩) m m, .slice none 0 0, .map (some w1.heap.size), .bool false, .int .i64 0, .int .u64 0, .bool false] 97
      rw [e1] at hblk
      refine Or.inl ⟨m, w1.heap.size + 1, .slice (some ⟨w.heap.size, 0, none⟩) m m, w1.heap.size, rfl, hm1, hm2, rfl, ⟨hblk, ((HO.out.below' hb2).below' hb3).mono (Nat.zero_le _), Kit.Own.nil _ _, ?_, Fine.new m hm1 hm2, Nat.zero_le _, by omega, ?_, ?_⟩, ?_, chainB (chainB hb1 hb2) hb3⟩
      · refine ((MapIs.new w1).keeps (S := fun _ => False) (Kit.Keeps.of_below hb3) (fun h => h)).congr (fun x _ => rfl)
      · intro k hk
        simp [Value.ownBlock] at hk
        omega
      · intro k hk; simp [Value.ownBlock] at hk
      · rintro k (rfl | hk | hk | rfl)
        · omega
        · simp [Value.ownBlock] at hk; omega
        · simp [Value.ownBlock] at hk
        · omega
theorem wp_look {ops : Array Oper} {rest : List Oper} {o : Oper} {a : Act} {Q : Exit → Act → World → Prop} (w : World) (hg : o.guard = none) (m x : Operand) (hop : o.op = Op.lookup 95 m x true)
    (gm n : Nat) (f : Int → Option ByteArray) (h : MapIs w gm n f) (i : Int) (hi : (Lit.int .i64 i).wf = true) (hm : a.eval m = .map (some gm)) (hx : a.eval x = .int .i64 i) (r : ByteArray × Bool)
    (hr : r = match f i with | some s => (s, true) | none => (ByteArray.empty, false))
    (hK : wpList Try.prog ops Q rest (a.put o.dst (.tuple #[.string r.1, .bool r.2])) w) : wpList Try.prog ops Q (o :: rest) a w := by
  obtain ⟨D, h1, h2⟩ := h
  obtain ⟨h3, h4⟩ := h2 i hi
  refine wpList_lookup_own_ok w hg m x 95 hop 3 9 (Maps.int_keyed Try.underlying3) Try.underlying95 (plainElem Try.prog 9) (z := .string ByteArray.empty) (by kernel_rfl) (.lit (.string [])) [] (plainElem_string Try.underlying9 (by decide)) gm n D hm h1 (.int .i64 i) (.int .i64 i) hx (Maps.keyOf_int_mk Try.underlying3 hi) ?_
  intro v ps hv
  obtain ⟨s', rfl, hz, hs'⟩ := plainElem_string_inv Try.underlying9 hv
  simp only [Prod.mk.injEq] at hz
  have hbe : ∀ a b : ByteArray, a.data.toList = b.data.toList → a = b := fun a b h => by
    cases a; cases b; simp at h; rw [h]
  cases hf : f i with
  | none =>
    rw [hf] at h3 hr
    rw [Maps.atKey_of_not_has (by rw [h3]; rfl)] at hz
    have : s' = ByteArray.empty := hbe _ _ (by simpa using hz.1.symm)
    subst this
    rw [h3]; rw [hr] at hK; exact hK
  | some s =>
    rw [hf] at h3 hr
    rw [h4 s hf] at hz
    have : s' = s := hbe _ _ (by simpa using hz.1.symm)
    subst this
    rw [h3]; rw [hr] at hK; exact hK
theorem wf_nat (m : Nat) (h : m ≤ 1000000) : (Lit.int .i64 (m : Int)).wf = true := by
  exact WalkArith.wf_i64 ⟨by omega, by omega⟩
theorem own_str {w : World} {B g cap n : Nat} {l : List ByteArray} (h : Kit.Own 9 1 strEnc w B (.slice (some ⟨g, 0, none⟩) n cap) l) (m : Nat) (hm : m < l.length) : w.cell? ⟨g, m, none⟩ = some (.string l[m]) := by
  obtain ⟨ad, cp, hv, _, hc⟩ := h.sl (fun _ => rfl)
  rcases hc with hc | ⟨b, off, rfl, _, hc⟩
  · subst hc; simp at hm
  · have := (Value.slice.inj hv).1
    simp only [Option.some.injEq, Addr.mk.injEq] at this
    obtain ⟨rfl, rfl, _⟩ := this
    have := hc m 0 l[m] (by simp [hm]) (by omega)
    simpa [strEnc] using this
def ReadPost (s : DS) (i : Int) (w : World) (e : Ending) (w' : World) : Prop := e = .returned (.tuple #[.string (s.read i).1, .int .i64 (s.read i).2]) ∧ w = w'
theorem read_any {w : World} {d : Nat} {bv pv : Value} {gm n : Nat} {s : DS} (h : DAt w d bv pv gm n s) (i : Int) :
    Calls Try.prog 20 #[.pointer (some ⟨d, 0, none⟩), .int .i64 i] w (ReadPost s i w) := by
  have H := Lib.hid h
  have c0 := blkc h.blk 0 _ rfl
  have c2 := blkc h.blk 2 _ rfl
  have c6 := blkc h.blk 6 _ rfl
  obtain ⟨g, cap, rfl⟩ := h.bform
  clear h
  rcases (Bool.eq_false_or_eq_true s.down).symm with hd | hd
  · rw [hd] at c6
    rcases (Bool.eq_false_or_eq_true (inB s i)).symm with hi | hi
    · have HR : Hid (s.read i = (ByteArray.empty, 9)) := by unfold Hid DS.read; rw [hd, hi]; rfl
      have HI := Lib.hid hi
      clear hd hi
      go_enter Try.func20, Try.ntmps20
      go_wp2_with fail
      refine (has_any H.out i).mono ?_
      rintro e w1 ⟨rfl, rfl⟩
      rw [HI.out]
      go_wp2
      go_ret2
      show ReadPost _ _ _ _ _
      unfold ReadPost; rw [HR.out]; exact ⟨rfl, rfl⟩
    · obtain ⟨m, rfl, hm⟩ := (inB_iff s i).1 hi
      have hl := H.out.fine.len
      have cm := own_str H.out.blocks m hm
      have hwf : (Lit.int .i64 (m : Int)).wf = true := wf_nat m (by omega)
      have HR : Hid (s.read m = ((newest s.pend m).getD s.blocks[m], 0)) := by unfold Hid DS.read; rw [hd, hi]; simp [hm]
      have HI := Lib.hid hi
      have j1 : (0 : Int) ≤ (m : Int) := by omega
      have j2 : (m : Int) < (s.blocks.length : Int) := by omega
      clear hd hi
      have HW := Lib.hid hwf; clear hwf hl
      generalize s.blocks[m] = bm at *
      generalize s.blocks.length = L at *
      cases hn : newest s.pend m with
      | none =>
        have HRR : Hid ((ByteArray.empty, false) = match newest s.pend m with | some s => (s, true) | none => (ByteArray.empty, false)) := by unfold Hid; rw [hn]
        have HR2 : Hid (s.read m = (bm, 0)) := by unfold Hid; rw [HR.out, hn]; rfl
        clear hn HR
        go_enter Try.func20, Try.ntmps20
        go_wp2_with fail
        refine (has_any H.out m).mono ?_
        rintro e w1 ⟨rfl, rfl⟩
        rw [HI.out]
        go_wp2_with (at_lookup; refine wp_look w rfl _ _ rfl gm n _ H.out.map m HW.out rfl rfl (ByteArray.empty, false) HRR.out ?_)
        go_ret2
        show ReadPost _ _ _ _ _
        unfold ReadPost; rw [HR2.out]; exact ⟨rfl, rfl⟩
      | some x =>
        have HRR : Hid ((x, true) = match newest s.pend m with | some s => (s, true) | none => (ByteArray.empty, false)) := by unfold Hid; rw [hn]
        have HR2 : Hid (s.read m = (x, 0)) := by unfold Hid; rw [HR.out, hn]; rfl
        clear hn HR
        go_enter Try.func20, Try.ntmps20
        go_wp2_with fail
        refine (has_any H.out m).mono ?_
        rintro e w1 ⟨rfl, rfl⟩
        rw [HI.out]
        go_wp2_with (at_lookup; refine wp_look w rfl _ _ rfl gm n _ H.out.map m HW.out rfl rfl (x, true) HRR.out ?_)
        go_ret2
        show ReadPost _ _ _ _ _
        unfold ReadPost; rw [HR2.out]; exact ⟨rfl, rfl⟩
  · rw [hd] at c6
    have HR : Hid (s.read i = (ByteArray.empty, 17)) := by unfold Hid DS.read; rw [hd]; rfl
    clear hd
    go_enter Try.func20, Try.ntmps20
    go_wp2
    go_ret2
    show ReadPost _ _ _ _ _
    unfold ReadPost; rw [HR.out]; exact ⟨rfl, rfl⟩
end Go.Proofs.Ythkjkhffljlidaa.Dk
/- The walks of settle, crash and step. -/
namespace Go.Proofs.Ythkjkhffljlidaa.Dk
set_option linter.unusedVariables false
set_option linter.unusedSimpArgs false
open Go.RowKit Go.ChangeMaps
theorem low64 (m : Int) (k : Nat) (h1 : 0 ≤ m) (h2 : m < 18446744073709551616) : (bits .and .u64 (m / 2 ^ (k % 64)) 1 == 1) = bitOf m k := by
  obtain ⟨x, rfl⟩ := Int.eq_ofNat_of_zero_le h1
  have e : ((x : Int) / 2 ^ (k % 64)) = ((x / 2 ^ (k % 64) : Nat) : Int) := by rw [Int.natCast_ediv, Int.natCast_pow]; rfl
  have hl : x / 2 ^ (k % 64) < 18446744073709551616 := Nat.lt_of_le_of_lt (Nat.div_le_self _ _) (by omega)
  unfold bitOf
  rw [e]
  have := u64_and_nat (x / 2 ^ (k % 64)) 1 hl (by omega)
  rw [nat_mask1] at this
  rw [show bits .and .u64 ((x / 2 ^ (k % 64) : Nat) : Int) 1 = _ from this]
  generalize x / 2 ^ (k % 64) = y
  rw [Bool.eq_iff_iff]
  simp only [beq_iff_eq]
  omega
theorem flush1_any (k : Nat) (w : World) : Calls Try.prog 55 #[.int .i64 k] w fun e w' => e = .returned (.bool true) ∧ Below w.heap.size w w' := by
  go_enter Try.func55, Try.ntmps55
  go_wp2
  go_ret
  exact ⟨rfl, Below.refl _ _⟩
theorem crash1_any (k : Nat) (hk : k ≤ 1000000) (m : Int) (hm : 0 ≤ m ∧ m < 18446744073709551616) (g : Nat) (w : World) (h : w.cell? ⟨g, 0, none⟩ = some (.int .u64 m)) :
    Calls Try.prog 80 #[.int .i64 k, .pointer (some ⟨g, 0, none⟩)] w fun e w' => e = .returned (.bool (bitOf m k)) ∧ Below w.heap.size w w' := by
  obtain ⟨hm1, hm2⟩ := hm
  have HB := Lib.hid (low64 m k hm1 hm2)
  go_enter Try.func80, Try.ntmps80
  go_wp2
  go_ret
  exact ⟨ret_bool (by rw [HB.out]), Below.refl _ _⟩
theorem MapIs.del {w' : World} {gm n : Nat} {f : Int → Option ByteArray} {D : DataW Unit} (h2 : ∀ x : Int, (Lit.int .i64 x).wf = true → Maps.has D (.int .i64 x) = (f x).isSome ∧ ∀ s, f x = some s → ∀ z, D.atKey (.int .i64 x) z = .lit (.string s.data.toList)) (i : Int)
    (h' : w'.ownsMap Try.prog 3 (plainElem Try.prog 9) gm n (D.del (.int .i64 i))) : MapIs w' gm n (fun x => if x = i then none else f x) := by
  refine ⟨_, h', fun x hx => ?_⟩
  dsimp only
  by_cases e : x = i
  · subst e
    rw [if_pos rfl]
    exact ⟨Maps.has_del_same, fun s hs => by simp at hs⟩
  · rw [if_neg e]
    have hne : Lit.int .i64 x ≠ Lit.int .i64 i := fun h => e (by cases h; rfl)
    exact ⟨by rw [Maps.has_del_other hne]; exact (h2 x hx).1, fun s hs z => by rw [Maps.atKey_del_other hne]; exact (h2 x hx).2 s hs z⟩
theorem MapIs.put {w' : World} {gm n : Nat} {f : Int → Option ByteArray} {D : DataW Unit} (hm : Maps.IsMap D) (h2 : ∀ x : Int, (Lit.int .i64 x).wf = true → Maps.has D (.int .i64 x) = (f x).isSome ∧ ∀ s, f x = some s → ∀ z, D.atKey (.int .i64 x) z = .lit (.string s.data.toList)) (i : Int) (t : ByteArray)
    (h' : w'.ownsMap Try.prog 3 (plainElem Try.prog 9) gm n (D.put (.int .i64 i) (.lit (.string t.data.toList)))) : MapIs w' gm n (fun x => if i = x then some t else f x) := by
  refine ⟨_, h', fun x hx => ?_⟩
  dsimp only
  have hk : WideAt.IsKeyLit (Lit.int .i64 i) := by trivial
  by_cases e : i = x
  · subst e
    rw [if_pos rfl]
    exact ⟨Maps.has_put_same hm hk _, fun s hs z => by cases hs; exact Maps.atKey_put_same hm hk _ _⟩
  · rw [if_neg e]
    have hne : Lit.int .i64 x ≠ Lit.int .i64 i := fun h => e (by cases h; rfl)
    exact ⟨by rw [Maps.has_put_other hne]; exact (h2 x hx).1, fun s hs z => by rw [Maps.atKey_put_other hne]; exact (h2 x hx).2 s hs z⟩
def gone (p : List (Int × ByteArray)) (k : Nat) (x : Int) : Option ByteArray := if (p.take k).any (fun y => y.1 == x) then none else newest p x
theorem gone_zero (p : List (Int × ByteArray)) (x : Int) : gone p 0 x = newest p x := by simp [gone]
theorem gone_succ (p : List (Int × ByteArray)) (k : Nat) (hk : k < p.length) (x : Int) : gone p (k + 1) x = if x = p[k].1 then none else gone p k x := by
  unfold gone
  rw [List.take_succ_eq_append_getElem hk, List.any_append]
  simp only [List.any_cons, List.any_nil, Bool.or_false]
  by_cases e : x = p[k].1
  · subst e; simp
  · rw [if_neg e]
    have : (p[k].1 == x) = false := by simp; exact fun h => e h.symm
    rw [this, Bool.or_false]
theorem gone_all (p : List (Int × ByteArray)) (x : Int) : gone p p.length x = none := by
  unfold gone
  rw [List.take_length]
  split
  · rfl
  · rename_i h
    refine newest_none (fun y hy e => h ?_)
    exact List.any_eq_true.2 ⟨y, hy, by simp [e]⟩
theorem own_wr {w : World} {B a cap n} {l : List (Int × ByteArray)} (h : Kit.Own 103 2 wrEnc w B (.slice a n cap) l) (m : Nat) (hm : m < l.length) : ∃ g, a = some ⟨g, 0, none⟩ ∧ w.cell? ⟨g, m * 2, none⟩ = some (.int .i64 l[m].1) ∧ w.cell? ⟨g, m * 2 + 1, none⟩ = some (.string l[m].2) := by
  have hf := h.form
  obtain ⟨ad, cp, hv, _, hc⟩ := h.sl (fun _ => rfl)
  rcases hc with hc | ⟨b, off, rfl, _, hc⟩
  · subst hc; simp at hm
  · rcases hf with ⟨_, h0⟩ | ⟨g, c, h1, _⟩
    · subst h0; simp at hm
    · have e1 := (Value.slice.inj h1).1
      have e2 := (Value.slice.inj hv).1
      rw [e1] at e2
      simp only [Option.some.injEq, Addr.mk.injEq] at e2
      obtain ⟨rfl, rfl, _⟩ := e2
      have h0 := hc m 0 l[m] (by simp [hm]) (by omega)
      have h1 := hc m 1 l[m] (by simp [hm]) (by omega)
      exact ⟨g, e1, by simpa [wrEnc] using h0, by simpa [wrEnc] using h1⟩
theorem flat_str : ∀ l : List ByteArray, l.flatMap strEnc = l.map Value.string
  | [] => rfl
  | b :: l => by simp only [List.flatMap_cons, List.map_cons, flat_str l]; rfl
theorem own_sstore {w : World} {B g cap n : Nat} {l : List ByteArray} (h : Kit.Own 9 1 strEnc w B (.slice (some ⟨g, 0, none⟩) n cap) l) (m : Nat) (t : ByteArray) :
    Kit.Own 9 1 strEnc (w.setCell ⟨g, m, none⟩ (.string t)) B (.slice (some ⟨g, 0, none⟩) n cap) (l.set m t) := by
  obtain ⟨h1, h2⟩ := h
  rw [flat_str] at h1 h2
  refine ⟨by rw [flat_str]; simp, ?_⟩
  rcases h2 with ⟨h2, _⟩ | ⟨g', cap', cur, hv, hg, hh, hc1, hc2, hc3, htk⟩
  · simp at h2
  · simp only [Value.slice.injEq, Option.some.injEq, Addr.mk.injEq] at hv
    obtain ⟨⟨rfl, _, _⟩, rfl, rfl⟩ := hv
    refine Or.inr ⟨g, cap, cur.setIfInBounds m (.string t), by rw [List.length_set], hg, blk_set hh m _, by rw [List.length_set]; exact hc1, hc2, by simpa using hc3, ?_⟩
    rw [flat_str, List.map_set, ← htk, List.length_set, Array.toList_setIfInBounds, List.take_set]
theorem own_sthaw {w : World} {B g cap n : Nat} {l : List ByteArray} (h : Kit.Own 9 1 strEnc w B (.slice (some ⟨g, 0, none⟩) n cap) l) (m : Nat) : w.frozen? ⟨g, m, none⟩ = false := by
  rcases h.2 with ⟨h2, _⟩ | ⟨g', cap', cur, hv, hg, hh, _⟩
  · simp at h2
  · simp only [Value.slice.injEq, Option.some.injEq, Addr.mk.injEq] at hv
    obtain ⟨⟨rfl, _, _⟩, rfl, rfl⟩ := hv
    simp [World.frozen?, hh]
end Go.Proofs.Ythkjkhffljlidaa.Dk
/- The walk of settle. -/
namespace Go.Proofs.Ythkjkhffljlidaa.Dk
set_option linter.unusedVariables false
set_option linter.unusedSimpArgs false
open Go.RowKit Go.ChangeMaps
theorem Ow.d {d : Nat} {bv pv : Value} {gm : Nat} : Ow d bv pv gm d := Or.inl rfl
theorem Ow.m {d : Nat} {bv pv : Value} {gm : Nat} : Ow d bv pv gm gm := Or.inr (Or.inr (Or.inr rfl))
theorem Ow.b {d : Nat} {bv pv : Value} {gm k : Nat} (h : bv.ownBlock = some k) : Ow d bv pv gm k := Or.inr (Or.inl h)
theorem Ow.p {d : Nat} {bv pv : Value} {gm k : Nat} (h : pv.ownBlock = some k) : Ow d bv pv gm k := Or.inr (Or.inr (Or.inl h))
structure Half (w : World) (d : Nat) (bv pv : Value) (gm n : Nat) (s : DS) (bit : Nat → Bool) (k : Nat) (wr : World) : Prop where
  blk : wr.heap[d]? = some (.cells #[bv, pv, .map (some gm), .bool s.armed, .int .i64 s.steps, .int .u64 s.mask, .bool s.down] 97 (0, 0))
  blocks : Kit.Own 9 1 strEnc wr 0 bv (settleGo bit 0 (s.pend.take k) s.blocks)
  pend : Kit.Own 103 2 wrEnc wr 0 pv s.pend
  map : MapIs wr gm n (gone s.pend k)
  keep : Kit.Keeps (Ow d bv pv gm) w wr
theorem Half.below {w : World} {d : Nat} {bv pv : Value} {gm n : Nat} {s : DS} {bit : Nat → Bool} {k : Nat} {wr wr' : World} (h : Half w d bv pv gm n s bit k wr) (hb : Below wr.heap.size wr wr') : Half w d bv pv gm n s bit k wr' :=
  have hk : Kit.Keeps (fun _ => False) wr wr' := Kit.Keeps.of_below hb
  ⟨Kit.blk_keeps h.blk hk (fun h => h), h.blocks.below' hb, h.pend.below' hb, h.map.keeps hk (fun h => h), h.keep.trans' (Kit.Keeps.of_below hb)⟩
theorem Half.drew {w : World} {d : Nat} {bv pv : Value} {gm n : Nat} {s : DS} {bit : Nat → Bool} {k : Nat} {wr : World} (h : Half w d bv pv gm n s bit k wr) : Half w d bv pv gm n s bit k wr.drew :=
  h.below ((Below.refl _ _).drew)
theorem take_snocW (l : List (Int × ByteArray)) (k : Nat) (h : k < l.length) : l.take (k + 1) = l.take k ++ [l[k]] := List.take_succ_eq_append_getElem h
theorem settle_snoc (bit : Nat → Bool) (s : DS) (k : Nat) (h : k < s.pend.length) : settleGo bit 0 (s.pend.take (k + 1)) s.blocks = if bit k then (settleGo bit 0 (s.pend.take k) s.blocks).set s.pend[k].1.toNat s.pend[k].2 else settleGo bit 0 (s.pend.take k) s.blocks := by
  rw [take_snocW _ _ h, settleGo_snoc, List.length_take, Nat.zero_add, Nat.min_eq_left (by omega)]
theorem Half.next {w : World} {d : Nat} {bv pv : Value} {gm n : Nat} {s : DS} {bit : Nat → Bool} {k : Nat} {wr wr' : World} (hd : DAt w d bv pv gm n s) (hk : k < s.pend.length) (blk : wr.heap[d]? = some (.cells #[bv, pv, .map (some gm), .bool s.armed, .int .i64 s.steps, .int .u64 s.mask, .bool s.down] 97 (0, 0)))
    (blocks : Kit.Own 9 1 strEnc wr 0 bv (settleGo bit 0 (s.pend.take (k + 1)) s.blocks)) (pend : Kit.Own 103 2 wrEnc wr 0 pv s.pend) (keep : Kit.Keeps (Ow d bv pv gm) w wr)
    (ht : wr.mapTurned wr' gm) (hm : MapIs wr' gm n (fun x => if x = s.pend[k].1 then none else gone s.pend k x)) : Half w d bv pv gm n s bit (k + 1) wr' := by
  have hkp : Kit.Keeps (fun j => j = gm) wr wr' := (Kit.Keeps.refl _ _).turned ht rfl
  refine ⟨Kit.blk_keeps blk hkp hd.d1, blocks.keeps hkp (fun j hj => (hd.d2 j hj).2), pend.keeps hkp (fun j hj => (hd.d3 j hj).2.1), hm.congr (fun x _ => (gone_succ s.pend k hk x).symm), keep.turned ht Ow.m⟩
theorem flush1_is (bit : Nat → Bool) (hbt : ∀ k, bit k = true) (k : Nat) (w : World) : Calls Try.prog 55 #[.int .i64 k] w fun e w' => e = .returned (.bool (bit k)) ∧ Below w.heap.size w w' := by
  rw [hbt]; exact flush1_any k w
theorem crash1_is (bit : Nat → Bool) (m : Int) (hm : 0 ≤ m ∧ m < 18446744073709551616) (hbt : bit = bitOf m) (k : Nat) (hk : k ≤ 1000000) (g : Nat) (w : World) (h : w.cell? ⟨g, 0, none⟩ = some (.int .u64 m)) :
    Calls Try.prog 80 #[.int .i64 k, .pointer (some ⟨g, 0, none⟩)] w fun e w' => e = .returned (.bool (bit k)) ∧ Below w.heap.size w w' := by
  rw [hbt]; exact crash1_any k hk m hm g w h
theorem settle_all {w : World} {d : Nat} {bv pv : Value} {gm n : Nat} {s : DS} (h : DAt w d bv pv gm n s) (hn : n ≤ 1000000) (bit : Nat → Bool) (hbt : ∀ k, bit k = true) :
    Calls Try.prog 54 #[.pointer (some ⟨d, 0, none⟩), .func (.func 55) #[] #[]] w fun e w' => e = .returned (.tuple #[]) ∧ DAt w' d bv (.slice none 0 0) gm n (s.settle bit) ∧ Kit.Keeps (Ow d bv pv gm) w w' := by
  have H := Lib.hid h
  have hx := h.blk
  have hfine := h.fine
  have hcnt := h.cnt
  have hst : Half w d bv pv gm n s bit 0 w := ⟨h.blk, h.blocks, h.pend, h.map.congr (fun x _ => (gone_zero s.pend x).symm), Kit.Keeps.refl _ _⟩
  have HST := Lib.hid hst
  obtain ⟨gb, capb, rfl⟩ := h.bform
  obtain ⟨ap, capp, rfl⟩ := h.pform
  have HF := Lib.hid hfine
  have c1 := blkc hx 1 _ rfl
  clear h hx hfine hst
  go_enter Try.func54, Try.ntmps54
  go_wp2
  clear c1
  go_loopw [11] (fun i wr => ∃ k : Nat, k ≤ s.pend.length ∧ i = .int .i64 k ∧ Half w d (.slice (some ⟨gb, 0, none⟩) s.blocks.length capb) (.slice ap s.pend.length capp) gm n s bit k wr) (fun i _ => s.pend.length - (intOf i).toNat)
  case atStart => exact ⟨0, by omega, rfl, HST.out⟩
  case round =>
    obtain ⟨k, hk, rfl, hh⟩ := hrel
    have HH := Lib.hid hh; clear hh HST
    by_cases hlt : k < s.pend.length
    · obtain ⟨gp, rfl, q0, q1⟩ := own_wr HH.out.pend k hlt
      have hgb : gb < wr.heap.size := (World.ownsRow.lt HH.out.blocks gb rfl).2
      obtain ⟨⟨m, hm, hml⟩, hsz⟩ := HF.out.pend s.pend[k] (List.getElem_mem _)
      have HM := Lib.hid hm
      rw [hm] at q0
      have HE := Lib.hid (settle_snoc bit s k hlt)
      rw [hm, Int.toNat_natCast] at HE
      have i1 : (0 : Int) ≤ (k : Int) := by omega
      have i2 : (k : Int) < (s.pend.length : Int) := by omega
      have hml' := HF.out.len
      generalize htx : s.pend[k].2 = tx at *
      have HTX := Lib.hid htx
      clear hm htx
      have hA := newB wr (.cells #[.int .i64 (m : Int), .string tx] 103)
      go_wp2_with fail
      clear q0 q1
      have HH1 := Lib.hid (HH.out.below hA)
      have HL1 := Lib.hid (blk_new wr #[.int .i64 (m : Int), .string tx] 103)
      refine (flush1_is bit hbt k _).mono ?_
      rintro e w2 ⟨rfl, hb2⟩
      have HH2 := Lib.hid (HH1.out.below hb2)
      have HL2 : Hid (w2.heap[wr.heap.size]? = some (.cells #[.int .i64 (m : Int), .string tx] 103 (0, 0))) := Lib.hid (by rw [hb2.block _ (by simp)]; exact HL1.out)
      clear hA hb2 HH1 HL1 HH
      have j1 : (0 : Int) ≤ (m : Int) := by omega
      have j2 : (m : Int) < (s.blocks.length : Int) := by omega
      rcases (Bool.eq_false_or_eq_true (bit k)).symm with hbit | hbit
      · have HB := HE.out
        rw [hbit] at HB
        rw [if_neg (by simp)] at HB
        rw [hbit]
        have HBL := Lib.hid HB
        clear HB hbit
        have z0 := blkc HL2.out 0 _ rfl
        have z2 := blkc HH2.out.blk 2 _ rfl
        go_wp2
        obtain ⟨D, hD1, hD2⟩ := HH2.out.map
        have HD1 := Lib.hid hD1; have HD2 := Lib.hid hD2
        clear hD1 hD2
        go_still_tail 6, (by kernel_rfl)
        change wpList _ _ _ _ _ (w2.drew)
        refine wpList_delete_own _ rfl _ _ 95 3 rfl 9 (Maps.int_keyed Try.underlying3) Try.underlying95 _ gm n D rfl HD1.out.drew _ (.int .i64 (m : Int)) rfl (Maps.keyOf_int_mk Try.underlying3 (wf_nat m (by omega))) ?_
        intro w4 hown4 hturn4
        have HN := Lib.hid (Half.next (wr := w2.drew) (bit := bit) H.out hlt HH2.out.drew.blk (by rw [HBL.out]; exact HH2.out.drew.blocks) HH2.out.drew.pend HH2.out.drew.keep hturn4 (by rw [HM.out]; exact MapIs.del HD2.out m hown4))
        clear hown4 hturn4
        go_wp2
        go_roundw
        case rel => exact ⟨k + 1, by omega, by go_num, HN.out⟩
        case measure => simp [intOf]; omega
      · have HB := HE.out
        rw [hbit, if_pos rfl] at HB
        rw [hbit]
        have HBL := Lib.hid HB
        clear HB hbit
        have z0 := blkc HL2.out 0 _ rfl
        have z1 := blkc HL2.out 1 _ rfl
        have z2 := blkc HH2.out.blk 0 _ rfl
        have hlen : m < (settleGo bit 0 (s.pend.take k) s.blocks).length := by rw [settleGo_len]; exact hml
        have z3 := own_str HH2.out.blocks m hlen
        have z4 := own_sthaw HH2.out.blocks m
        generalize (settleGo bit 0 (s.pend.take k) s.blocks)[m] = old at *
        go_wp2
        go_region
        clear z0 z1 z2 z3 z4
        have hkp3 : Kit.Keeps (fun j => j = gb) w2 (w2.setCell ⟨gb, m, none⟩ (.string tx)).drew := ((Kit.Keeps.refl (fun j => j = gb) w2).setCell (p := ⟨gb, m, none⟩) (Or.inl rfl) _).drew
        have HB3 := Lib.hid (Kit.blk_keeps HH2.out.blk hkp3 (fun e => (H.out.d2 gb rfl).1 e.symm))
        have HL3 := Lib.hid (Kit.blk_keeps HL2.out hkp3 (by omega))
        have HO3 : Hid (Kit.Own 9 1 strEnc (w2.setCell ⟨gb, m, none⟩ (.string tx)).drew 0 (.slice (some ⟨gb, 0, none⟩) s.blocks.length capb) (settleGo bit 0 (s.pend.take (k + 1)) s.blocks)) := by
          unfold Hid; rw [HBL.out]; exact own_sstore HH2.out.blocks m tx
        have HP3 := Lib.hid (HH2.out.pend.keeps hkp3 (fun j hj e => (H.out.d3 j hj).2.2 (by rw [e]; rfl)))
        have HM3 := Lib.hid (HH2.out.map.keeps hkp3 (fun e => (H.out.d2 gb rfl).2 e.symm))
        have HK3 := Lib.hid ((HH2.out.keep.setCell (p := ⟨gb, m, none⟩) (Or.inl (Ow.b rfl)) (.string tx)).drew)
        clear hkp3 HH2 HL2 HBL HE
        generalize (w2.setCell ⟨gb, m, none⟩ (.string tx)).drew = w3 at *
        have z0 := blkc HL3.out 0 _ rfl
        have z2 := blkc HB3.out 2 _ rfl
        go_wp2
        obtain ⟨D, hD1, hD2⟩ := HM3.out
        have HD1 := Lib.hid hD1; have HD2 := Lib.hid hD2
        clear hD1 hD2
        go_still_tail 6, (by kernel_rfl)
        change wpList _ _ _ _ _ (w3.drew)
        refine wpList_delete_own _ rfl _ _ 95 3 rfl 9 (Maps.int_keyed Try.underlying3) Try.underlying95 _ gm n D rfl HD1.out.drew _ (.int .i64 (m : Int)) rfl (Maps.keyOf_int_mk Try.underlying3 (wf_nat m (by omega))) ?_
        intro w4 hown4 hturn4
        have HN := Lib.hid (Half.next (wr := w3.drew) (bit := bit) H.out hlt HB3.out HO3.out HP3.out HK3.out.drew hturn4 (by rw [HM.out]; exact MapIs.del HD2.out m hown4))
        clear hown4 hturn4
        go_wp2
        go_roundw
        case rel => exact ⟨k + 1, by omega, by go_num, HN.out⟩
        case measure => simp [intOf]; omega
    · obtain rfl : k = s.pend.length := by omega
      have z1 := blkc HH.out.blk 1 _ rfl
      have zf := blkf HH.out.blk 1
      go_wp2
      go_end0
      clear z1 zf
      have hkp : Kit.Keeps (fun j => j = d) wr (wr.setCell ⟨d, 1, none⟩ (.slice none 0 0)) := (Kit.Keeps.refl (fun j => j = d) wr).setCell (p := ⟨d, 1, none⟩) (Or.inl rfl) _
      have hb0 := HH.out.blocks
      have hm0 := HH.out.map
      rw [List.take_length] at hb0
      refine ⟨rfl, ⟨?_, hb0.keeps hkp (fun j hj => (H.out.d2 j hj).1), Kit.Own.nil _ _, ?_, HF.out.settle bit, Nat.zero_le _, H.out.d1, H.out.d2, fun j hj => by simp [Value.ownBlock] at hj⟩, HH.out.keep.setCell (Or.inl Ow.d) _⟩
      · exact blk_set HH.out.blk 1 _
      · exact (hm0.keeps hkp (fun e => H.out.d1 e.symm)).congr (fun x _ => gone_all s.pend x)
theorem settle_mask {w : World} {d : Nat} {bv pv : Value} {gm n : Nat} {s : DS} (h : DAt w d bv pv gm n s) (hn : n ≤ 1000000) (mk : Int) (hmk : 0 ≤ mk ∧ mk < 18446744073709551616) (gx : Nat) (hgx : w.heap[gx]? = some (.cells #[.int .u64 mk] 22 (0, 0))) (hgo : ¬ Ow d bv pv gm gx) (bit : Nat → Bool) (hbt : bit = bitOf mk) :
    Calls Try.prog 54 #[.pointer (some ⟨d, 0, none⟩), .func (.func 80) #[] #[.pointer (some ⟨gx, 0, none⟩)]] w fun e w' => e = .returned (.tuple #[]) ∧ DAt w' d bv (.slice none 0 0) gm n (s.settle bit) ∧ Kit.Keeps (Ow d bv pv gm) w w' := by
  have H := Lib.hid h
  have HMK := Lib.hid hmk; have HGX := Lib.hid hgx; have HGO := Lib.hid hgo
  clear hmk hgx
  have hx := h.blk
  have hfine := h.fine
  have hcnt := h.cnt
  have hst : Half w d bv pv gm n s bit 0 w := ⟨h.blk, h.blocks, h.pend, h.map.congr (fun x _ => (gone_zero s.pend x).symm), Kit.Keeps.refl _ _⟩
  have HST := Lib.hid hst
  obtain ⟨gb, capb, rfl⟩ := h.bform
  obtain ⟨ap, capp, rfl⟩ := h.pform
  have HF := Lib.hid hfine
  have c1 := blkc hx 1 _ rfl
  clear h hx hfine hst hgo
  go_enter Try.func54, Try.ntmps54
  go_wp2
  clear c1
  go_loopw [11] (fun i wr => ∃ k : Nat, k ≤ s.pend.length ∧ i = .int .i64 k ∧ Half w d (.slice (some ⟨gb, 0, none⟩) s.blocks.length capb) (.slice ap s.pend.length capp) gm n s bit k wr) (fun i _ => s.pend.length - (intOf i).toNat)
  case atStart => exact ⟨0, by omega, rfl, HST.out⟩
  case round =>
    obtain ⟨k, hk, rfl, hh⟩ := hrel
    have HH := Lib.hid hh; clear hh HST
    by_cases hlt : k < s.pend.length
    · obtain ⟨gp, rfl, q0, q1⟩ := own_wr HH.out.pend k hlt
      have hgb : gb < wr.heap.size := (World.ownsRow.lt HH.out.blocks gb rfl).2
      obtain ⟨⟨m, hm, hml⟩, hsz⟩ := HF.out.pend s.pend[k] (List.getElem_mem _)
      have HM := Lib.hid hm
      rw [hm] at q0
      have HE := Lib.hid (settle_snoc bit s k hlt)
      rw [hm, Int.toNat_natCast] at HE
      have i1 : (0 : Int) ≤ (k : Int) := by omega
      have i2 : (k : Int) < (s.pend.length : Int) := by omega
      have hml' := HF.out.len
      generalize htx : s.pend[k].2 = tx at *
      have HTX := Lib.hid htx
      clear hm htx
      have hA := newB wr (.cells #[.int .i64 (m : Int), .string tx] 103)
      go_wp2_with fail
      clear q0 q1
      have HH1 := Lib.hid (HH.out.below hA)
      have HL1 := Lib.hid (blk_new wr #[.int .i64 (m : Int), .string tx] 103)
      refine (crash1_is bit mk HMK.out hbt k (by omega) gx _ (blkc (Kit.blk_keeps HGX.out HH1.out.keep HGO.out) 0 _ rfl)).mono ?_
      rintro e w2 ⟨rfl, hb2⟩
      have HH2 := Lib.hid (HH1.out.below hb2)
      have HL2 : Hid (w2.heap[wr.heap.size]? = some (.cells #[.int .i64 (m : Int), .string tx] 103 (0, 0))) := Lib.hid (by rw [hb2.block _ (by simp)]; exact HL1.out)
      clear hA hb2 HH1 HL1 HH
      have j1 : (0 : Int) ≤ (m : Int) := by omega
      have j2 : (m : Int) < (s.blocks.length : Int) := by omega
      rcases (Bool.eq_false_or_eq_true (bit k)).symm with hbit | hbit
      · have HB := HE.out
        rw [hbit] at HB
        rw [if_neg (by simp)] at HB
        rw [hbit]
        have HBL := Lib.hid HB
        clear HB hbit
        have z0 := blkc HL2.out 0 _ rfl
        have z2 := blkc HH2.out.blk 2 _ rfl
        go_wp2
        obtain ⟨D, hD1, hD2⟩ := HH2.out.map
        have HD1 := Lib.hid hD1; have HD2 := Lib.hid hD2
        clear hD1 hD2
        go_still_tail 6, (by kernel_rfl)
        change wpList _ _ _ _ _ (w2.drew)
        refine wpList_delete_own _ rfl _ _ 95 3 rfl 9 (Maps.int_keyed Try.underlying3) Try.underlying95 _ gm n D rfl HD1.out.drew _ (.int .i64 (m : Int)) rfl (Maps.keyOf_int_mk Try.underlying3 (wf_nat m (by omega))) ?_
        intro w4 hown4 hturn4
        have HN := Lib.hid (Half.next (wr := w2.drew) (bit := bit) H.out hlt HH2.out.drew.blk (by rw [HBL.out]; exact HH2.out.drew.blocks) HH2.out.drew.pend HH2.out.drew.keep hturn4 (by rw [HM.out]; exact MapIs.del HD2.out m hown4))
        clear hown4 hturn4
        go_wp2
        go_roundw
        case rel => exact ⟨k + 1, by omega, by go_num, HN.out⟩
        case measure => simp [intOf]; omega
      · have HB := HE.out
        rw [hbit, if_pos rfl] at HB
        rw [hbit]
        have HBL := Lib.hid HB
        clear HB hbit
        have z0 := blkc HL2.out 0 _ rfl
        have z1 := blkc HL2.out 1 _ rfl
        have z2 := blkc HH2.out.blk 0 _ rfl
        have hlen : m < (settleGo bit 0 (s.pend.take k) s.blocks).length := by rw [settleGo_len]; exact hml
        have z3 := own_str HH2.out.blocks m hlen
        have z4 := own_sthaw HH2.out.blocks m
        generalize (settleGo bit 0 (s.pend.take k) s.blocks)[m] = old at *
        go_wp2
        go_region
        clear z0 z1 z2 z3 z4
        have hkp3 : Kit.Keeps (fun j => j = gb) w2 (w2.setCell ⟨gb, m, none⟩ (.string tx)).drew := ((Kit.Keeps.refl (fun j => j = gb) w2).setCell (p := ⟨gb, m, none⟩) (Or.inl rfl) _).drew
        have HB3 := Lib.hid (Kit.blk_keeps HH2.out.blk hkp3 (fun e => (H.out.d2 gb rfl).1 e.symm))
        have HL3 := Lib.hid (Kit.blk_keeps HL2.out hkp3 (by omega))
        have HO3 : Hid (Kit.Own 9 1 strEnc (w2.setCell ⟨gb, m, none⟩ (.string tx)).drew 0 (.slice (some ⟨gb, 0, none⟩) s.blocks.length capb) (settleGo bit 0 (s.pend.take (k + 1)) s.blocks)) := by
          unfold Hid; rw [HBL.out]; exact own_sstore HH2.out.blocks m tx
        have HP3 := Lib.hid (HH2.out.pend.keeps hkp3 (fun j hj e => (H.out.d3 j hj).2.2 (by rw [e]; rfl)))
        have HM3 := Lib.hid (HH2.out.map.keeps hkp3 (fun e => (H.out.d2 gb rfl).2 e.symm))
        have HK3 := Lib.hid ((HH2.out.keep.setCell (p := ⟨gb, m, none⟩) (Or.inl (Ow.b rfl)) (.string tx)).drew)
        clear hkp3 HH2 HL2 HBL HE
        generalize (w2.setCell ⟨gb, m, none⟩ (.string tx)).drew = w3 at *
        have z0 := blkc HL3.out 0 _ rfl
        have z2 := blkc HB3.out 2 _ rfl
        go_wp2
        obtain ⟨D, hD1, hD2⟩ := HM3.out
        have HD1 := Lib.hid hD1; have HD2 := Lib.hid hD2
        clear hD1 hD2
        go_still_tail 6, (by kernel_rfl)
        change wpList _ _ _ _ _ (w3.drew)
        refine wpList_delete_own _ rfl _ _ 95 3 rfl 9 (Maps.int_keyed Try.underlying3) Try.underlying95 _ gm n D rfl HD1.out.drew _ (.int .i64 (m : Int)) rfl (Maps.keyOf_int_mk Try.underlying3 (wf_nat m (by omega))) ?_
        intro w4 hown4 hturn4
        have HN := Lib.hid (Half.next (wr := w3.drew) (bit := bit) H.out hlt HB3.out HO3.out HP3.out HK3.out.drew hturn4 (by rw [HM.out]; exact MapIs.del HD2.out m hown4))
        clear hown4 hturn4
        go_wp2
        go_roundw
        case rel => exact ⟨k + 1, by omega, by go_num, HN.out⟩
        case measure => simp [intOf]; omega
    · obtain rfl : k = s.pend.length := by omega
      have z1 := blkc HH.out.blk 1 _ rfl
      have zf := blkf HH.out.blk 1
      go_wp2
      go_end0
      clear z1 zf
      have hkp : Kit.Keeps (fun j => j = d) wr (wr.setCell ⟨d, 1, none⟩ (.slice none 0 0)) := (Kit.Keeps.refl (fun j => j = d) wr).setCell (p := ⟨d, 1, none⟩) (Or.inl rfl) _
      have hb0 := HH.out.blocks
      have hm0 := HH.out.map
      rw [List.take_length] at hb0
      refine ⟨rfl, ⟨?_, hb0.keeps hkp (fun j hj => (H.out.d2 j hj).1), Kit.Own.nil _ _, ?_, HF.out.settle bit, Nat.zero_le _, H.out.d1, H.out.d2, fun j hj => by simp [Value.ownBlock] at hj⟩, HH.out.keep.setCell (Or.inl Ow.d) _⟩
      · exact blk_set HH.out.blk 1 _
      · exact (hm0.keeps hkp (fun e => H.out.d1 e.symm)).congr (fun x _ => gone_all s.pend x)
end Go.Proofs.Ythkjkhffljlidaa.Dk
/- The walks of crash, step, and the calls that change a disk. -/
namespace Go.Proofs.Ythkjkhffljlidaa.Dk
set_option linter.unusedVariables false
set_option linter.unusedSimpArgs false
open Go.RowKit Go.ChangeMaps
theorem DAt.flag {w w' : World} {d : Nat} {bv pv : Value} {gm n : Nat} {s s' : DS} (h : DAt w d bv pv gm n s) (hk : Kit.Keeps (fun j => j = d) w w') (hb : s'.blocks = s.blocks) (hp : s'.pend = s.pend) (hf : Fine s')
    (hblk : w'.heap[d]? = some (.cells #[bv, pv, .map (some gm), .bool s'.armed, .int .i64 s'.steps, .int .u64 s'.mask, .bool s'.down] 97 (0, 0))) : DAt w' d bv pv gm n s' :=
  ⟨hblk, by rw [hb]; exact h.blocks.keeps hk (fun j hj => (h.d2 j hj).1), by rw [hp]; exact h.pend.keeps hk (fun j hj => (h.d3 j hj).1), by rw [hp]; exact h.map.keeps hk (fun e => h.d1 e.symm), hf, by rw [hp]; exact h.cnt, h.d1, h.d2, h.d3⟩
theorem crash_any {w : World} {d : Nat} {bv pv : Value} {gm n : Nat} {s : DS} (h : DAt w d bv pv gm n s) (hn : n ≤ 1000000) (m : Int) (hm : 0 ≤ m ∧ m < 18446744073709551616) :
    Calls Try.prog 71 #[.pointer (some ⟨d, 0, none⟩), .int .u64 m] w fun e w' => e = .returned (.tuple #[]) ∧ DAt w' d bv (.slice none 0 0) gm n (s.crash m) ∧ Kit.Keeps (Ow d bv pv gm) w w' := by
  have H := Lib.hid h
  have hA := newB w (.cells #[.int .u64 m] 22)
  have HX := Lib.hid (blk_new w #[.int .u64 m] 22)
  have HG : Hid (¬ Ow d bv pv gm w.heap.size) := Lib.hid (fun e => by have := h.lt e; omega)
  have H1 := Lib.hid (h.below hA)
  have HM := Lib.hid hm
  clear h hm
  go_enter Try.func71, Try.ntmps71
  go_wp2_with fail
  refine (settle_mask H1.out hn m HM.out _ HX.out HG.out (bitOf m) rfl).mono ?_
  rintro e w2 ⟨rfl, hd2, hk2⟩
  have HK : Hid (Kit.Keeps (Ow d bv pv gm) w w2) := Lib.hid ((Kit.Keeps.of_below hA).trans' hk2)
  have H2 := Lib.hid hd2
  have z3 := blkc hd2.blk 3 _ rfl; have z4 := blkc hd2.blk 4 _ rfl; have z5 := blkc hd2.blk 5 _ rfl; have z6 := blkc hd2.blk 6 _ rfl
  have y3 := blkf hd2.blk 3; have y4 := blkf hd2.blk 4; have y5 := blkf hd2.blk 5; have y6 := blkf hd2.blk 6
  have HF := Lib.hid (H.out.fine.crash m)
  clear hd2 hk2 hA H1
  go_wp2
  go_end0
  have k1 : Kit.Keeps (fun j => j = d) w2 ((((w2.setCell ⟨d, 3, none⟩ (.bool false)).setCell ⟨d, 4, none⟩ (.int .i64 0)).setCell ⟨d, 5, none⟩ (.int .u64 0)).setCell ⟨d, 6, none⟩ (.bool true)) :=
    ((((Kit.Keeps.refl (fun j => j = d) w2).setCell (p := ⟨d, 3, none⟩) (Or.inl rfl) _).setCell (p := ⟨d, 4, none⟩) (Or.inl rfl) _).setCell (p := ⟨d, 5, none⟩) (Or.inl rfl) _).setCell (p := ⟨d, 6, none⟩) (Or.inl rfl) _
  exact ⟨rfl, H2.out.flag k1 rfl rfl HF.out (blk_set (blk_set (blk_set (blk_set H2.out.blk 3 _) 4 _) 5 _) 6 _), HK.out.trans k1 (fun k _ e => by cases e; exact Ow.d)⟩
def StepPost (w : World) (d : Nat) (bv pv : Value) (gm n : Nat) (s : DS) (e : Ending) (w' : World) : Prop :=
  e = .returned (.bool s.step.2) ∧ ∃ pv', DAt w' d bv pv' gm n s.step.1 ∧ Kit.Keeps (Ow d bv pv gm) w w' ∧ (∀ k, pv'.ownBlock = some k → pv.ownBlock = some k)
theorem step_any {w : World} {d : Nat} {bv pv : Value} {gm n : Nat} {s : DS} (h : DAt w d bv pv gm n s) (hn : n ≤ 1000000) :
    Calls Try.prog 53 #[.pointer (some ⟨d, 0, none⟩)] w (StepPost w d bv pv gm n s) := by
  have H := Lib.hid h
  have z3 := blkc h.blk 3 _ rfl; have z4 := blkc h.blk 4 _ rfl; have z5 := blkc h.blk 5 _ rfl; have y4 := blkf h.blk 4
  have hst := h.fine.steps
  have HM := Lib.hid h.fine.mask
  obtain ⟨hs1, hs2⟩ := hst
  clear h
  rcases (Bool.eq_false_or_eq_true s.armed).symm with ha | ha
  · have HS : Hid (s.step = (s, true)) := by unfold Hid DS.step; rw [ha]; rfl
    rw [ha] at z3
    clear ha
    go_enter Try.func53, Try.ntmps53
    go_wp2
    go_ret
    show StepPost _ _ _ _ _ _ _ _ _
    unfold StepPost
    rw [HS.out]
    exact ⟨rfl, pv, H.out, Kit.Keeps.refl _ _, fun _ h => h⟩
  · rw [ha] at z3
    by_cases h0 : s.steps = 0
    · have HS : Hid (s.step = (s.crash s.mask, false)) := by unfold Hid DS.step; rw [ha, if_pos rfl, if_pos h0]
      have b0 : (s.steps == 0) = true := by simpa using h0
      rw [h0] at z4
      clear ha h0 b0
      go_enter Try.func53, Try.ntmps53
      go_wp2_with fail
      refine (crash_any H.out hn s.mask HM.out).mono ?_
      rintro e w2 ⟨rfl, hd2, hk2⟩
      have H2 := Lib.hid hd2; have HK := Lib.hid hk2
      clear hd2 hk2
      go_wp2
      go_ret
      show StepPost _ _ _ _ _ _ _ _ _
      unfold StepPost
      rw [HS.out]
      exact ⟨rfl, _, H2.out, HK.out, fun k hk => by simp [Value.ownBlock] at hk⟩
    · have HS : Hid (s.step = ({ s with steps := s.steps - 1 }, true)) := by unfold Hid DS.step; rw [ha, if_pos rfl, if_neg h0]
      have b0 : (s.steps == 0) = false := by simpa using h0
      have HF := Lib.hid H.out.fine.step
      rw [HS.out] at HF
      clear ha
      go_enter Try.func53, Try.ntmps53
      go_wp2
      go_ret
      show StepPost _ _ _ _ _ _ _ _ _
      unfold StepPost
      rw [HS.out]
      have k1 : Kit.Keeps (fun j => j = d) w (w.setCell ⟨d, 4, none⟩ (.int .i64 (s.steps - 1))) := (Kit.Keeps.refl (fun j => j = d) w).setCell (p := ⟨d, 4, none⟩) (Or.inl rfl) _
      exact ⟨rfl, pv, H.out.flag k1 rfl rfl HF.out (blk_set H.out.blk 4 _), k1.mono (fun k e => by cases e; exact Ow.d), fun _ h => h⟩
end Go.Proofs.Ythkjkhffljlidaa.Dk
/- The walks of Write, Flush, Arm, Crash, Recover. -/
namespace Go.Proofs.Ythkjkhffljlidaa.Dk
set_option linter.unusedVariables false
set_option linter.unusedSimpArgs false
open Go.RowKit Go.ChangeMaps
theorem DPost.same {w : World} {d : Nat} {bv pv : Value} {gm n : Nat} {s : DS} (h : DAt w d bv pv gm n s) (r : Value) : DPost w d bv pv gm (n + 1) s r (.returned r) w :=
  ⟨rfl, pv, h.mono (by omega), Kit.Keeps.refl _ _, fun _ h => Or.inl h⟩
theorem DPost.flag {w : World} {d : Nat} {bv pv : Value} {gm n : Nat} {s : DS} {r : Value} {w' : World} {pv' : Value} (h : DAt w' d bv pv' gm n s) (hk : Kit.Keeps (Ow d bv pv gm) w w') (hp : ∀ k, pv'.ownBlock = some k → pv.ownBlock = some k) : DPost w d bv pv gm (n + 1) s r (.returned r) w' :=
  ⟨rfl, pv', h.mono (by omega), hk, fun k e => Or.inl (hp k e)⟩
theorem push_keep {w2 w3 : World} {pv : Value} (hg : w2.grownBy w3 pv.ownBlock) : Kit.Keeps (fun j => pv.ownBlock = some j) w2 w3 :=
  ⟨hg.os, hg.tape, hg.output, hg.size, fun k hk hn => hg.block k hk (fun e => hn e.symm)⟩
theorem DAt.push {w2 w3 w5 : World} {d : Nat} {bv pv : Value} {gm n : Nat} {s : DS} (h : DAt w2 d bv pv gm n s) {m : Nat} (hm : m < s.blocks.length) {t : ByteArray} (ht : t.size ≤ 64) {g cap : Nat} (hg : w2.grownBy w3 pv.ownBlock) (hv : pv.ownBlock = some g ∨ g = w2.heap.size + 1)
    (ho : Kit.Own 103 2 wrEnc w3 0 (.slice (some ⟨g, 0, none⟩) (s.pend.length + 1) cap) (s.pend ++ [((m : Int), t)]))
    (ht5 : (w3.setCell ⟨d, 1, none⟩ (.slice (some ⟨g, 0, none⟩) (s.pend.length + 1) cap)).mapTurned w5 gm) (hmp : MapIs w5 gm (n + 1) (fun x => if (m : Int) = x then some t else newest s.pend x)) :
    DAt w5 d bv (.slice (some ⟨g, 0, none⟩) (s.pend.length + 1) cap) gm (n + 1) { s with pend := s.pend ++ [((m : Int), t)] } ∧ Kit.Keeps (Ow d bv pv gm) w2 w5 ∧ (∀ k, (Value.slice (some ⟨g, 0, none⟩) (s.pend.length + 1) cap).ownBlock = some k → pv.ownBlock = some k ∨ w2.heap.size ≤ k) := by
  have k1 := push_keep hg
  have ld := h.lt (k := d) Ow.d
  have lm := h.lt (k := gm) Ow.m
  have b3 := Kit.blk_keeps h.blk k1 (fun e => (h.d3 d e).1 rfl)
  have k2 : Kit.Keeps (fun j => j = d) w3 (w3.setCell ⟨d, 1, none⟩ (.slice (some ⟨g, 0, none⟩) (s.pend.length + 1) cap)) := (Kit.Keeps.refl (fun j => j = d) w3).setCell (p := ⟨d, 1, none⟩) (Or.inl rfl) _
  have b4 := blk_set b3 1 (.slice (some ⟨g, 0, none⟩) (s.pend.length + 1) cap)
  have k3 : Kit.Keeps (fun j => j = gm) (w3.setCell ⟨d, 1, none⟩ (.slice (some ⟨g, 0, none⟩) (s.pend.length + 1) cap)) w5 := (Kit.Keeps.refl _ _).turned ht5 rfl
  have b5 := Kit.blk_keeps b4 k3 h.d1
  have hgd : g ≠ d ∧ g ≠ gm ∧ bv.ownBlock ≠ some g := by
    rcases hv with hv | hv
    · exact h.d3 g hv
    · refine ⟨by omega, by omega, fun e => ?_⟩
      have := h.lt (k := g) (Ow.b e); omega
  refine ⟨⟨b5, ?_, ?_, hmp.congr (fun x _ => (newest_snoc s.pend ((m : Int), t) x).symm), h.fine.push hm ht, by have := h.cnt; simp; omega, h.d1, h.d2, ?_⟩, ?_, ?_⟩
  · refine ((h.blocks.keeps k1 (fun j hj e => (h.d3 j e).2.2 hj)).keeps k2 (fun j hj => (h.d2 j hj).1)).keeps k3 (fun j hj => (h.d2 j hj).2)
  · refine (ho.keeps k2 (fun j hj => ?_)).keeps k3 (fun j hj => ?_)
    · simp [Value.ownBlock] at hj; subst hj; exact hgd.1
    · simp [Value.ownBlock] at hj; subst hj; exact hgd.2.1
  · intro j hj
    simp [Value.ownBlock] at hj; subst hj; exact hgd
  · refine ((k1.mono (fun k e => Ow.p e)).trans k2 (fun k _ e => by cases e; exact Ow.d)).trans k3 (fun k _ e => by cases e; exact Ow.m)
  · intro j hj
    simp [Value.ownBlock] at hj; subst hj
    rcases hv with hv | hv
    · exact Or.inl hv
    · right; omega
theorem write_any {w : World} {d : Nat} {bv pv : Value} {gm n : Nat} {s : DS} (h : DAt w d bv pv gm n s) (hn : n ≤ 1000000) (i : Int) (t : ByteArray) (ht : t.size ≤ maxLen) :
    Calls Try.prog 23 #[.pointer (some ⟨d, 0, none⟩), .int .i64 i, .string t] w (DPost w d bv pv gm (n + 1) (s.write i t).1 (.int .i64 (s.write i t).2)) := by
  have H := Lib.hid h
  have z6 := blkc h.blk 6 _ rfl
  unfold maxLen at ht
  clear h
  rcases (Bool.eq_false_or_eq_true s.down).symm with hd | hd
  rotate_left
  · have HW : Hid (s.write i t = (s, 17)) := by unfold Hid DS.write; rw [hd]; rfl
    rw [hd] at z6
    clear hd
    go_enter Try.func23, Try.ntmps23
    go_wp2
    go_ret
    rw [HW.out]
    exact DPost.same H.out _
  rw [hd] at z6
  rcases (Bool.eq_false_or_eq_true (inB s i)).symm with hi | hi
  · have HW : Hid (s.write i t = (s, 9)) := by unfold Hid DS.write; rw [hd, hi]; rfl
    have HI := Lib.hid hi
    clear hd hi
    go_enter Try.func23, Try.ntmps23
    go_wp2_with fail
    refine (has_any H.out i).mono ?_
    rintro e w1 ⟨rfl, rfl⟩
    rw [HI.out]
    go_wp2
    go_ret
    rw [HW.out]
    exact DPost.same H.out _
  obtain ⟨m, rfl, hm⟩ := (inB_iff s i).1 hi
  have HI := Lib.hid hi
  by_cases hs : 64 < t.size
  · have HW : Hid (s.write m t = (s, 4)) := by unfold Hid DS.write; rw [hd, hi]; simp [hs]
    have b1 : decide (64 < t.size) = true := by simpa using hs
    have b2 : decide ((64 : Int) < (t.size : Int)) = true := by simp; omega
    clear hd hi
    go_enter Try.func23, Try.ntmps23
    go_wp2_with fail
    refine (has_any H.out m).mono ?_
    rintro e w1 ⟨rfl, rfl⟩
    rw [HI.out]
    go_wp2
    go_ret
    rw [HW.out]
    exact DPost.same H.out _
  have b1 : decide (64 < t.size) = false := by simpa using hs
  have b2 : decide ((64 : Int) < (t.size : Int)) = false := by simp; omega
  rcases (Bool.eq_false_or_eq_true s.step.2).symm with hst | hst
  · have HW : Hid (s.write m t = (s.step.1, 17)) := by unfold Hid DS.write; rw [hd, hi, hst]; simp [hs]
    have HST := Lib.hid hst
    clear hd hi hst
    go_enter Try.func23, Try.ntmps23
    go_wp2_with fail
    refine (has_any H.out m).mono ?_
    rintro e w1 ⟨rfl, rfl⟩
    rw [HI.out]
    go_wp2_with fail
    refine (step_any H.out hn).mono ?_
    rintro e w2 ⟨rfl, pv', hd2, hk2, hp2⟩
    rw [HST.out]
    have HD := Lib.hid (DPost.flag (r := .int .i64 17) hd2 hk2 hp2)
    clear hd2 hk2 hp2
    go_wp2
    go_ret
    rw [HW.out]
    exact HD.out
  · have HW : Hid (s.write m t = ({ s.step.1 with pend := s.step.1.pend ++ [((m : Int), t)] }, 0)) := by unfold Hid DS.write; rw [hd, hi, hst]; simp [hs]
    have HST := Lib.hid hst
    have HBL := Lib.hid (step_blocks s)
    clear hd hi hst
    go_enter Try.func23, Try.ntmps23
    go_wp2_with fail
    refine (has_any H.out m).mono ?_
    rintro e w1 ⟨rfl, rfl⟩
    rw [HI.out]
    go_wp2_with fail
    refine (step_any H.out hn).mono ?_
    rintro e w2 ⟨rfl, pv', hd2, hk2, hp2⟩
    rw [HST.out]
    generalize s.step.1 = s1 at *
    have H2 := Lib.hid hd2; have HK := Lib.hid hk2; have HP := Lib.hid hp2
    have hcn := hd2.cnt
    obtain ⟨ap, capp, rfl⟩ := hd2.pform
    have z1 := blkc hd2.blk 1 _ rfl
    have ld := hd2.lt (k := d) Ow.d
    clear hd2 hk2 hp2 z6
    go_wp2_with (at_builtin; refine Kit.wp_push T_wr (by rfl) _ _ (by rfl) w2 0 _ _ (by rfl) H2.out.pend ((m : Int), t) _ _ w2.heap.size rfl (by rfl) ?c1 ?c2 ?c3 (Nat.zero_le _) ?_)
    case c1 => rfl
    case c2 => unfold maxLen; omega
    case c3 => omega
    intro g3 cap3 w3 hown3 _ hgr3 hsz3 hv3 hgl3
    have HO3 := Lib.hid hown3; have HG3 := Lib.hid hgr3; have HV3 := Lib.hid hv3
    have k1 := push_keep hgr3
    have b3 := Kit.blk_keeps H2.out.blk k1 (fun e => (H2.out.d3 d e).1 rfl)
    have z1' := blkc b3 1 _ rfl
    have y1' := blkf b3 1
    have z2' := blkc b3 2 _ rfl
    have k2 : Kit.Keeps (fun j => j = d) w3 (w3.setCell ⟨d, 1, none⟩ (.slice (some ⟨g3, 0, none⟩) (s1.pend.length + 1) cap3)) := (Kit.Keeps.refl (fun j => j = d) w3).setCell (p := ⟨d, 1, none⟩) (Or.inl rfl) _
    have hm3 := (H2.out.map.keeps k1 (fun e => (H2.out.d3 gm e).2.1 rfl)).keeps k2 (fun e => H2.out.d1 e.symm)
    obtain ⟨D, hD1, hD2⟩ := hm3
    have HD1 := Lib.hid hD1; have HD2 := Lib.hid hD2
    have HIM := Lib.hid hD1.isMap
    have HML : Hid (m ≤ 1000000) := Lib.hid (by have := H.out.fine.len; omega)
    have HTL : Hid (t.size ≤ maxLen) := Lib.hid (by unfold maxLen; omega)
    clear hown3 hgr3 hv3 k1 b3 k2 hD1 hD2 z1 ht
    go_wp2_with (at_mapUpdate; refine wpList_mapUpdate_in _ rfl _ _ _ 95 rfl 3 9 (Maps.int_keyed Try.underlying3) Try.underlying95 _ gm n D rfl HD1.out (by unfold maxLen; omega) _ _ (.int .i64 (m : Int)) rfl rfl (Maps.keyOf_int_mk Try.underlying3 (wf_nat m HML.out)) (.lit (.string t.data.toList)) [] (plainElem_string Try.underlying9 HTL.out) ?_)
    intro w5 hown5 hturn5
    have HX := Lib.hid (H2.out.push (by rw [HBL.out]; exact hm) (by omega) HG3.out HV3.out HO3.out hturn5 (MapIs.put HIM.out HD2.out m t hown5))
    clear hown5 hturn5
    go_wp2
    go_ret
    rw [HW.out]
    obtain ⟨x1, x2, x3⟩ := HX.out
    refine ⟨rfl, _, x1, HK.out.trans x2 (fun k _ e => ?_), fun k hk => ?_⟩
    · rcases e with e | e | e | e
      · exact Or.inl e
      · exact Ow.b e
      · exact Ow.p (HP.out k e)
      · exact Or.inr (Or.inr (Or.inr e))
    · rcases x3 k hk with e | e
      · exact Or.inl (HP.out k e)
      · right; have := HK.out.size; omega
end Go.Proofs.Ythkjkhffljlidaa.Dk
