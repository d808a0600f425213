/- Rules of a walk over abstract states: new lists and appends. Nothing here names a program. -/
import Derived.Test.YtokkpocccgdilaaEv10
namespace Go.Proofs.Ytokkpocccgdilaa.Ev
set_option linter.unusedVariables false
set_option linter.unusedSimpArgs false
open Go.RowKit

theorem envW_nil {s : St} {nx : Nat} : EnvW s nx [] := trivial
theorem envW_cons {s : St} {nx i : Nat} {x : AV} {l : List (Nat × AV)} (h1 : look i s.env = some x) (h2 : AV.lt nx x = true) (h3 : EnvW s nx l) : EnvW s nx ((i, x) :: l) := ⟨h1, h2, h3⟩
theorem heapW_nil {s : St} {nx : Nat} : HeapW s nx [] := trivial
theorem heapW_cons {s : St} {nx i : Nat} {x : AB} {l : List (Nat × Option AB)} (h1 : s.H i = some x) (h0 : Nat.blt i nx = true) (h2 : abLt nx x = true) (h3 : HeapW s nx l) : HeapW s nx ((i, some x) :: l) := ⟨h1, h0, h2, h3⟩
theorem weak_mk {n : Nat} {env env' : List (Nat × AV)} {heap heap' : List (Nat × Option AB)} {nx nx' : Nat} {gl : List (Nat × List CV)} (h : Nat.ble nx' nx = true) (he : EnvW ⟨n, env, heap, nx, gl⟩ nx' env') (hh : HeapW ⟨n, env, heap, nx, gl⟩ nx' heap') : Weak ⟨n, env, heap, nx, gl⟩ ⟨n, env', heap', nx', gl⟩ := ⟨rfl, rfl, Nat.le_of_ble_eq_true h, fun i x hx => EnvW.get he i x hx, fun b x hx => HeapW.get hh b x (St.H_some hx)⟩
theorem aw_loopG {P : Program} {c : Code} {Q : Exit → St → Prop} {n : Nat} {env : List (Nat × AV)} {heap : List (Nat × Option AB)} {nx : Nat} {gl : List (Nat × List CV)} {G : Type} (inv : G → Prop) (μ : G → Nat) (E : G → List (Nat × AV)) (Hp : G → List (Nat × Option AB)) (X : Nat) (g0 : G) (h0 : inv g0)
    (hw : Weak ⟨n, env, heap, nx, gl⟩ ⟨n, E g0, Hp g0, X, gl⟩) (hx : Nat.ble nx X = true)
    (round : ∀ g, inv g → Awp P c (thn (fun st' => ∃ g', μ g' < μ g ∧ inv g' ∧ Weak st' ⟨n, E g', Hp g', X, gl⟩) Q) ⟨n, E g, Hp g, X, gl⟩) : Awp P (.loop c) Q ⟨n, env, heap, nx, gl⟩ :=
  aw_loop (fun m st => ∃ g, m = μ g ∧ inv g ∧ st = ⟨n, E g, Hp g, X, gl⟩) (μ g0) ⟨_, ⟨g0, rfl, h0, rfl⟩, hw, Nat.le_of_ble_eq_true hx⟩ (by
    rintro _ _ ⟨g, rfl, hg, rfl⟩
    refine aw_mono (round g hg) fun e st hq => ?_
    cases e with
    | normal =>
      obtain ⟨g', h1, h2, h3⟩ := hq
      exact ⟨_, _, h1, ⟨g', rfl, h2, rfl⟩, h3, Nat.le_refl _⟩
    | _ => exact hq)
theorem look_eq {α : Type} {k : Nat} {l : List (Nat × α)} {x y : α} (h : look k l = some x) (he : x = y) : look k l = some y := by rw [h, he]

theorem ret_i {P : Program} {t : Nat} {kk : IntKind} {k m : Int} {st : St} (h : look t st.env = some (.c (.v (.int kk k)))) (he : k = m) : Ret P [.tmp t] (.v (.int kk m)) .ret st := ret1 (.tmp h (Or.inl (by rw [he])))
theorem ret_b {P : Program} {t : Nat} {k m : Bool} {st : St} (h : look t st.env = some (.c (.v (.bool k)))) (he : k = m) : Ret P [.tmp t] (.v (.bool m)) .ret st := ret1 (.tmp h (Or.inl (by rw [he])))

theorem rc_one {F : Nat → Prop} {w : World} {x : CV} {u : Value} (h : RC F w x u) (hc : x.cellB = true) : u.oneCell' = true := by
  cases h with
  | v x => exact hc
  | agg => cases hc
  | tup => cases hc
  | nil => rfl
  | e0 => cases hc
  | lst => rfl

/-- The cells of a closed element. -/
def cvs : List AV → Option (List CV)
  | [] => some []
  | .c x :: l => bif x.cellB then (cvs l).map (x :: ·) else none
  | _ :: _ => none
def cvL : AV → Option (List CV)
  | .agg xs => cvs xs
  | .c x => bif x.cellB then some [x] else none
  | _ => none
theorem cvs_get {M : Wd} : ∀ {xs : List AV} {zs : List CV}, cvs xs = some zs → zs.length = xs.length ∧ (∀ z ∈ zs, z.cellB = true) ∧ ∀ (i : Nat) (x : AV), xs[i]? = some x → ∃ z, zs[i]? = some z ∧ x = .c z
  | [], zs, h => by simp only [cvs, Option.some.injEq] at h; subst h; exact ⟨rfl, fun z hz => by simp at hz, fun i x h => by simp at h⟩
  | .c y :: l, zs, h => by
    simp only [cvs] at h
    cases hb : y.cellB with
    | false => rw [hb] at h; cases h
    | true =>
      rw [hb] at h
      simp only [cond_true, Option.map_eq_some_iff] at h
      obtain ⟨ws, h1, rfl⟩ := h
      obtain ⟨e1, e2, e3⟩ := cvs_get (M := M) h1
      refine ⟨by simp [e1], fun z hz => ?_, fun i x hx => ?_⟩
      · rcases List.mem_cons.1 hz with rfl | hz
        · exact hb
        · exact e2 z hz
      · cases i with
        | zero => simp at hx; exact ⟨y, rfl, hx.symm⟩
        | succ i => exact e3 i x (by simpa using hx)
  | .agg _ :: _, zs, h => by cases h
  | .tup _ :: _, zs, h => by cases h
  | .ptr _ _ :: _, zs, h => by cases h
  | .vec _ _ :: _, zs, h => by cases h
  | .vptr _ _ _ :: _, zs, h => by cases h
  | .eptr _ _ :: _, zs, h => by cases h
  | .fn _ _ :: _, zs, h => by cases h
theorem cvL_ra {M : Wd} {y : AV} {u : Value} {zs : List CV} (h : cvL y = some zs) (hr : RA M y u) : zs.length = u.cells.size ∧ (∀ v ∈ u.cells.toList, v.oneCell' = true) ∧ ∀ (i : Nat) (z : CV) (v : Value), zs[i]? = some z → u.cells[i]? = some v → RC M.F M.w z v := by
  cases y with
  | agg xs =>
    obtain ⟨e1, e2, e3⟩ := cvs_get (M := M) (show cvs xs = some zs from h)
    cases hr with
    | agg hl hh =>
      rename_i vs
      have key : ∀ (i : Nat) (z : CV) (v : Value), zs[i]? = some z → vs[i]? = some v → RC M.F M.w z v := fun i z v hz hv => by
        have hi : i < xs.length := by rw [← e1]; exact (List.getElem?_eq_some_iff.1 hz).1
        obtain ⟨z', g1, g2⟩ := e3 i xs[i] (by simp [hi])
        rw [hz] at g1; cases g1
        have := hh i xs[i] v (by simp [hi]) hv
        rw [g2] at this
        cases this with
        | c h => exact h
      refine ⟨by rw [e1]; exact hl, fun v hv => ?_, key⟩
      have hv : v ∈ vs.toList := hv
      obtain ⟨i, hi, rfl⟩ := List.mem_iff_getElem.1 hv
      have hi3 : i < vs.size := by simpa using hi
      have hi2 : i < zs.length := by rw [e1, hl]; exact hi3
      exact rc_one (key i zs[i] vs.toList[i] (by simp [hi2]) (by simp [hi3])) (e2 _ (List.getElem_mem hi2))
  | c x =>
    simp only [cvL] at h
    cases hb : x.cellB with
    | false => rw [hb] at h; cases h
    | true =>
      rw [hb] at h
      simp only [cond_true, Option.some.injEq] at h; subst h
      cases hr with
      | c hr =>
        have ho := rc_one hr hb
        rw [cells_one ho]
        refine ⟨rfl, by simpa using ho, fun i z v hz hv => ?_⟩
        cases i with
        | zero => simp at hz hv; subst hz; subst hv; exact hr
        | succ i => simp at hz
  | _ => cases h

/-- What the source of an append holds. -/
def Src (P : Program) (st : St) (x : Operand) (size m : Nat) (ys : List CV) : Prop :=
  ∀ base w0 M a, Sim base w0 st M a → ∃ (ad : Option Addr) (cap : Nat) (cs : List Value), a.eval x = .slice ad m cap ∧ cs.length = m * size ∧ ys.length = m * size ∧ (ad = none → m = 0) ∧ (∀ a0, ad = some a0 → ∀ j u, cs[j]? = some u → M.w.cell? (a0.add j) = some u) ∧
    (∀ u ∈ cs, u.oneCell' = true) ∧ ∀ (i : Nat) (z : CV) (v : Value), ys[i]? = some z → cs[i]? = some v → RC M.F M.w z v

theorem pair_one {F : Nat → Prop} {w : World} {ys : List CV} {cs : List Value} (hl : cs.length = ys.length) (hone : ys.all CV.cellB = true) (h : ∀ (i : Nat) (z : CV) (v : Value), ys[i]? = some z → cs[i]? = some v → RC F w z v) : ∀ u ∈ cs, u.oneCell' = true := by
  intro u hu
  obtain ⟨i, hi, rfl⟩ := List.mem_iff_getElem.1 hu
  have hi2 : i < ys.length := by omega
  exact rc_one (h i ys[i] cs[i] (by simp [hi2]) (by simp [hi])) (List.all_eq_true.1 hone _ (List.getElem_mem hi2))

theorem src_vec {P : Program} {st : St} {x : Operand} {b m E size : Nat} {ys : List CV} (hx : st.ev x = some (.vec b m)) (hH : st.H b = some (.vec E size ys)) (hn : ys.length = m * size) (hone : ys.all CV.cellB = true) : Src P st x size m ys := by
  intro base w0 M a hs
  have hM : M.H b = some (.vec E size ys) := by rw [hs.H]; exact hH
  have hv := hs.ev hx
  generalize a.eval x = u at hv ⊢
  cases hv with
  | vec hb ho hh =>
    obtain ⟨_, h2⟩ := hh E size ys hM
    obtain ⟨v, n', cs, e1, e2, e3, e4, e5, e6⟩ := hs.heap.vec b E size ys hM
    rw [h2 hn] at e1; cases e1
    have hnn : m = n' := Nat.eq_of_mul_eq_mul_right e3 (by rw [← hn, e2])
    subst hnn
    have hlen : cs.length = ys.length := by rw [e4.1, e2]
    have h1 := pair_one hlen hone e5
    rcases e4.2 with ⟨rfl, hn0⟩ | ⟨g, cap, cur, rfl, f1, f2, f3⟩
    · exact ⟨none, 0, cs, by rw [hn0], e4.1, hn, fun _ => hn0, fun a0 h => (by cases h), h1, e5⟩
    · exact ⟨_, cap, cs, rfl, e4.1, hn, fun h => (by cases h), fun a0 h => (by cases h; exact World.ownsRow.cells e4 (g := g) rfl), h1, e5⟩
theorem src_lst {P : Program} {st : St} {x : Operand} {m size : Nat} {ys : List CV} (hx : st.ev x = some (.c (.lst size ys))) (hpos : 0 < size) (hn : ys.length = m * size) (hone : ys.all CV.cellB = true) : Src P st x size m ys := by
  intro base w0 M a hs
  have hv := hs.ev hx
  generalize a.eval x = u at hv ⊢
  cases hv with
  | c hv =>
    cases hv with
    | nil =>
      rename_i cap ad
      have : m = 0 := by
        simp only [List.length_nil] at hn
        rcases Nat.mul_eq_zero.1 hn.symm with h | h <;> omega
      subst this
      exact ⟨ad, cap, [], rfl, by simp, hn, fun _ => rfl, fun a0 h => fun j u hu => by simp at hu, fun u hu => by simp at hu, fun i z v hz => by simp at hz⟩
    | lst cs hn' hc hF hcell hr =>
      rename_i blk off n cap
      have hnn : n = m := Nat.eq_of_mul_eq_mul_right hpos (by rw [← hn', hn])
      subst hnn
      have hget : ∀ (i : Nat) (v : Value), ((List.range ys.length).map cs)[i]? = some v → i < ys.length ∧ cs i = v := fun i v hv => by
        have hi : i < ys.length := by have := (List.getElem?_eq_some_iff.1 hv).1; simpa using this
        exact ⟨hi, by simpa [hi] using hv⟩
      have hpair : ∀ (i : Nat) (z : CV) (v : Value), ys[i]? = some z → ((List.range ys.length).map cs)[i]? = some v → RC M.F M.w z v := fun i z v hz hv => by
        rw [← (hget i v hv).2]; exact hr i z hz
      refine ⟨_, cap, (List.range ys.length).map cs, rfl, by simpa using hn', hn', fun h => (by cases h), fun a0 h => ?_, pair_one (by simp) hone hpair, hpair⟩
      cases h
      intro j u hu
      obtain ⟨hj, e⟩ := hget j u hu
      rw [Kit.addr_add, hcell j ys[j] (by simp [hj]), e]

section
variable {P : Program}
theorem run_append_nil0 {t E size bytes : Nat} (I : SlT P t E size bytes) (w : World) (base : Nat) (ty : TypeId) (v : Value) (n : Nat) (xs : List Value) (hown : w.ownsRow base E size v n xs) (c : Nat) : (Builtin.append_ #[t, t] ty #[v, .slice none 0 c]).run P w = .ok v w := by
  obtain ⟨i, z, h1, h2, h3, h4, h5, h6⟩ := I.out
  rcases hown.2 with ⟨rfl, h0⟩ | ⟨g, cap, cur, rfl, hg, hh, hnc, _⟩
  · simp [Builtin.append_, run_underlying h1, sizeOf, typeInfo, h2, Builtin.lenOf, Builtin.firstCells]
  · simp [Builtin.append_, run_underlying h1, sizeOf, typeInfo, h2, Builtin.lenOf, Builtin.firstCells, hnc, storeCells]

theorem append_core {base : Nat} {w0 : W0} {st : St} {M : Wd} {a : Act} (hs : Sim base w0 st M a) {t E size bytes b n m cap : Nat} (I : SlT P t E size bytes) {xs ys : List CV} {v : Value} {ad : Option Addr} {cs : List Value} {ty : TypeId} (hH : st.H b = some (.vec E size xs)) (hm : M.m b = .row v) (hn : xs.length = n * size)
    (c1 : cs.length = m * size) (c2 : ys.length = m * size) (c3 : ad = none → m = 0) (c4 : ∀ a0, ad = some a0 → ∀ j u, cs[j]? = some u → M.w.cell? (a0.add j) = some u) (c5 : ∀ u ∈ cs, u.oneCell' = true) (c6 : ∀ (i : Nat) (z : CV) (v : Value), ys[i]? = some z → cs[i]? = some v → RC M.F M.w z v)
    (hb1 : n + m ≤ maxLen) (hb2 : (n + m) * bytes ≤ 140737488355328) :
    ∃ v' w' M', (Builtin.append_ #[t, t] ty #[v, .slice ad m cap]).run P M.w = .ok v' w' ∧ M'.w = w' ∧ Sim base w0 (st.set b (.vec E size (xs ++ ys))) M' a ∧ Ext M M' ∧ RA M' (.vec b (n + m)) v' := by
  have hM : M.H b = some (.vec E size xs) := by rw [hs.H]; exact hH
  obtain ⟨v2, n', us, e1, e2, e3, e4, e5, e6⟩ := hs.heap.vec b E size xs hM
  rw [hm] at e1; cases e1
  have hnn : n = n' := Nat.eq_of_mul_eq_mul_right e3 (by rw [← hn, e2])
  subst hnn
  obtain ⟨i, z, f1, f2, f3, f4, f5, f6⟩ := I.out
  have hrun : ∃ v' w', (Builtin.append_ #[t, t] ty #[v, .slice ad m cap]).run P M.w = .ok v' w' ∧ w'.ownsRow base E size v' (n + m) (us ++ cs) ∧ M.w.grownBy w' v.ownBlock ∧ (v'.ownBlock = v.ownBlock ∨ v'.ownBlock = some M.w.heap.size) ∧ (m = 0 → v' = v) := by
    cases ad with
    | none =>
      have h0 := c3 rfl
      subst h0
      have : cs = [] := List.eq_nil_of_length_eq_zero (by simpa using c1)
      subst this
      exact ⟨v, M.w, run_append_nil0 I M.w base ty v n us e4 cap, by simpa using e4, World.grownBy.refl M.w _, .inl rfl, fun _ => rfl⟩
    | some a0 =>
      obtain ⟨v', w', g1, g2, g3, g4, g5⟩ := run_append_own_at (P := P) M.w base t ty E i z size bytes f1 f2 f3 f4 f5 f6 e3 v n us e4 a0 m cap cs c1 (c4 a0 rfl) c5 hb1 hb2 hs.base
      by_cases hm0 : m = 0
      · subst hm0
        have : cs = [] := List.eq_nil_of_length_eq_zero (by simpa using c1)
        subst this
        have hsame : (Builtin.append_ #[t, t] ty #[v, .slice (some a0) 0 cap]).run P M.w = .ok v M.w := by
          rcases e4.2 with ⟨rfl, h0⟩ | ⟨g, cap', cur, rfl, hg, hh, hnc, _⟩
          · simp [Builtin.append_, run_underlying f1, sizeOf, typeInfo, f2, Builtin.lenOf, Builtin.firstCells, loadCells, loadCellsFrom]
          · simp [Builtin.append_, run_underlying f1, sizeOf, typeInfo, f2, Builtin.lenOf, Builtin.firstCells, hnc, storeCells, loadCells, loadCellsFrom]
        exact ⟨v, M.w, hsame, by simpa using e4, World.grownBy.refl M.w _, .inl rfl, fun _ => rfl⟩
      · exact ⟨v', w', g1, g2, g3, g5, fun h => absurd h hm0⟩
  obtain ⟨v', w', g1, g2, g3, g4, g5⟩ := hrun
  have hblk : ∀ k, v.ownBlock = some k → base ≤ k ∧ k < M.w.heap.size := fun k hk => World.ownsRow.lt e4 k hk
  obtain ⟨h1, h2⟩ := hs.change (b := b) (x := .vec E size (xs ++ ys)) (c := .row v') (w' := w') (by rw [hM]; simp) (fun k hk hne => g3.block k hk (fun he => hne (by rw [hm]; exact he.symm))) g3.size g3.os g3.tape g3.output (fun k hk => by rw [hm] at hk; exact (hblk k hk).1)
    (fun k hk => by
      rcases g4 with g4 | g4
      · left; rw [hm]; exact g4.symm.trans hk
      · right; have : some M.w.heap.size = some k := g4.symm.trans hk; simp at this; omega)
    (fun k hk => by rw [hm] at hk; exact e6 k hk) (fun g hg => by rw [hm] at hg; cases hg)
    (fun E' size' l' h => by
      simp only [AB.vec.injEq] at h
      obtain ⟨rfl, rfl, rfl⟩ := h
      refine ⟨xs, hM, by simp, fun hl => ?_⟩
      have hm0 : m = 0 := by
        have : ys.length = 0 := by simpa using hl
        rw [c2] at this
        rcases Nat.mul_eq_zero.1 this with h | h <;> omega
      rw [hm, g5 hm0])
    (fun M' _ _ _ t' l' h => by cases h)
    (fun E' size' l' h => by
      simp only [AB.vec.injEq] at h
      obtain ⟨rfl, rfl, rfl⟩ := h
      refine ⟨v', n + m, us ++ cs, rfl, by rw [List.length_append, hn, c2, Nat.add_mul], e3, g2, fun i y u hy hu => ?_⟩
      have hF : ∀ k, M.F k → M.F k ∧ w'.heap[k]? = M.w.heap[k]? := fun k hk => ⟨hk, g3.block k (hs.heap.frz k hk) (fun he => e6 k he.symm hk)⟩
      have hul : us.length = xs.length := by rw [e4.1, hn]
      rcases Nat.lt_or_ge i xs.length with hi | hi
      · rw [List.getElem?_append_left hi] at hy
        rw [List.getElem?_append_left (by omega)] at hu
        exact (e5 i y u hy hu).mono hF
      · rw [List.getElem?_append_right hi] at hy
        rw [List.getElem?_append_right (by omega), hul] at hu
        exact (c6 _ y u hy hu).mono hF)
  refine ⟨v', w', _, g1, rfl, h1, h2, .vec (by show b < M.nx; exact hs.heap.lt b (by rw [hM]; simp)) ?_ (fun E' size' l' hl => ?_)⟩
  · rcases g2.2 with ⟨rfl, _⟩ | ⟨g, cap', cur, rfl, _⟩ <;> rfl
  · have hl' : some (AB.vec E size (xs ++ ys)) = some (.vec E' size' l') := by
      have : (st.set b (.vec E size (xs ++ ys))).H b = some (.vec E' size' l') := hl
      rwa [H_set, if_pos rfl] at this
    simp only [Option.some.injEq, AB.vec.injEq] at hl'
    obtain ⟨rfl, rfl, rfl⟩ := hl'
    refine ⟨by rw [List.length_append, hn, c2, Nat.add_mul]; exact Nat.le_refl _, fun _ => by simp [Wd.set]⟩

/-- The nil slice as an empty list of the call's own. -/
theorem Sim.newNil {base : Nat} {w0 : W0} {st : St} {M : Wd} {a : Act} (hs : Sim base w0 st M a) (E size : Nat) (hpos : 0 < size) :
    ∃ M', M'.w = M.w ∧ M'.m M.nx = .row (.slice none 0 0) ∧ Sim base w0 (st.new (.vec E size [])) M' a ∧ Ext M M' := by
  let M' : Wd := { m := fun b => if b = M.nx then .row (.slice none 0 0) else M.m b, H := (st.new (.vec E size [])).H, nx := M.nx + 1, F := M.F, w := M.w }
  have hH : ∀ b, M'.H b = if M.nx = b then some (.vec E size []) else M.H b := fun b => by
    show (st.new _).H b = _
    rw [H_new, hs.nx, hs.H]
  have hm : M'.m M.nx = .row (.slice none 0 0) := by simp [M']
  have hm' : ∀ b, b ≠ M.nx → M'.m b = M.m b := fun b hb => by simp [M', hb]
  have hext : Ext M M' := by
    refine ⟨fun b g hb => ?_, fun b E' size' l' hb hl => ?_, by simp [M'], fun b hb => ⟨hb, rfl⟩⟩
    · rw [hm' b (fun he => hs.heap.fresh b (by omega) g hb)]; exact hb
    · rw [hH, if_neg (by omega)] at hl
      exact ⟨l', hl, Nat.le_refl _, fun _ => hm' b (by omega)⟩
  refine ⟨M', rfl, hm, ⟨rfl, by show M.nx + 1 = st.nx + 1; rw [hs.nx], hs.n, fun i y hy => ?_, fun g xs hg => (hs.gl g xs hg).mono hext, ⟨?_, ?_, ?_, ?_, ?_, hs.heap.frz⟩, hs.below, hs.base, hs.defs, hs.old⟩, hext⟩
  · obtain ⟨v, h1, h2⟩ := hs.env i y hy
    exact ⟨v, h1, h2.mono hext⟩
  · intro b t l hl
    rw [hH] at hl
    by_cases hb : M.nx = b
    · rw [if_pos hb] at hl; cases hl
    · rw [if_neg hb] at hl
      obtain ⟨g, arr, e1, e2, e3, e4, e5, e6⟩ := hs.heap.cells b t l hl
      exact ⟨g, arr, by rw [hm' b (Ne.symm hb)]; exact e1, e2, e3, e4, e5, fun i y u h1 h2 => (e6 i y u h1 h2).mono hext⟩
  · intro b E' size' l hl
    rw [hH] at hl
    by_cases hb : M.nx = b
    · subst hb
      rw [if_pos rfl] at hl
      simp only [Option.some.injEq, AB.vec.injEq] at hl
      obtain ⟨rfl, rfl, rfl⟩ := hl
      exact ⟨_, 0, [], hm, by simp, hpos, ⟨by simp, .inl ⟨rfl, rfl⟩⟩, fun i y u h => by simp at h, fun g hg => by simp [Value.ownBlock] at hg⟩
    · rw [if_neg hb] at hl
      obtain ⟨v, n, cs, e1, e2, e3, e4, e5, e6⟩ := hs.heap.vec b E' size' l hl
      exact ⟨v, n, cs, by rw [hm' b (Ne.symm hb)]; exact e1, e2, e3, e4, e5, e6⟩
  · intro b b' g hbb hb hb' hg hg'
    rw [hH] at hb hb'
    by_cases h1 : b = M.nx
    · subst h1; rw [hm] at hg; simp [Conc.block, Value.ownBlock] at hg
    · by_cases h2 : b' = M.nx
      · subst h2; rw [hm] at hg'; simp [Conc.block, Value.ownBlock] at hg'
      · rw [if_neg (Ne.symm h1)] at hb
        rw [if_neg (Ne.symm h2)] at hb'
        rw [hm' b h1] at hg
        rw [hm' b' h2] at hg'
        exact hs.heap.sep b b' g hbb hb hb' hg hg'
  · intro b hb
    rw [hH] at hb
    show b < M.nx + 1
    by_cases h1 : M.nx = b
    · omega
    · rw [if_neg h1] at hb
      have := hs.heap.lt b hb; omega
  · intro b hb g
    have hb : M.nx + 1 ≤ b := hb
    rw [hm' b (by omega)]
    exact hs.heap.fresh b (by omega) g

theorem Sim.congr {base : Nat} {w0 : W0} {s t : St} {M : Wd} {a : Act} (hs : Sim base w0 s M a) (hH : s.H = t.H) (hn : s.n = t.n) (hx : s.nx = t.nx) (hg : s.gl = t.gl) (he : s.env = t.env) : Sim base w0 t M a :=
  ⟨hs.H.trans hH, hs.nx.trans hx, hs.n.trans hn, fun i x h => hs.env i x (by rw [he]; exact h), fun g xs h => hs.gl g xs (by rw [hg]; exact h), hs.heap, hs.below, hs.base, hs.defs, hs.old⟩
end

section
variable {P : Program} {ops : Array Oper} {Q : Exit → St → Prop} {rest : List Oper} {st : St} {d : Nat} {ty : TypeId} {pos : String} {af : Array Edge}

theorem ex_append {t : Nat} {a : Act} {w w' : World} {s x : Operand} {dst : Option Tmp} {v v' : Value} {ad : Option Addr} {m cap : Nat} (hs : a.eval s = v) (hx : a.eval x = .slice ad m cap) (h : (Builtin.append_ #[t, t] ty #[v, .slice ad m cap]).run P w = .ok v' w') :
    (execOp a.eval ⟨dst, .call ⟨.builtin .append, #[s, x], #[t, t]⟩, ty, pos, af, none⟩).run P w = .ok (.value v') w' := by
  simp only [execOp, resolve, List.map_toArray, List.map_cons, List.map_nil, hs, hx]
  simp [invoke, builtin, h]

theorem ao_append {s x : Operand} {t E size bytes b n m : Nat} [I : SlT P t E size bytes] {xs ys : List CV} (hs0 : st.ev s = some (.vec b n)) (hH : st.H b = some (.vec E size xs)) (hn : xs.length = n * size) (hx : Src P st x size m ys) (hb1 : n + m ≤ maxLen) (hb2 : (n + m) * bytes ≤ 140737488355328) (hd : Nat.blt d st.n = true)
    (h : AOps P ops Q rest ((st.set b (.vec E size (xs ++ ys))).put d (.vec b (n + m)))) : AOps P ops Q (⟨some d, .call ⟨.builtin .append, #[s, x], #[t, t]⟩, ty, pos, af, none⟩ :: rest) st := by
  intro base w0 M a hs
  obtain ⟨ad, cap, cs, c0, c1, c2, c3, c4, c5, c6⟩ := hx base w0 M a hs
  have hv := hs.ev hs0
  generalize he : a.eval s = v at hv
  cases hv with
  | vec hb ho hh =>
    have hM : M.H b = some (.vec E size xs) := by rw [hs.H]; exact hH
    obtain ⟨v', w', M', g1, g2, g3, g4, g5⟩ := append_core (P := P) (ty := ty) hs I hH ((hh E size xs hM).2 hn) hn c1 c2 c3 c4 c5 c6 hb1 hb2
    refine wl_value rfl (ex_append he c0 g1) ?_
    subst g2
    exact wpList_monoQ (fun e a w => Lift.ext g4) _ _ _ (h base w0 M' _ (g3.put hd g5))
theorem ao_append_nil {s x : Operand} {t E size bytes m : Nat} [I : SlT P t E size bytes] {ys : List CV} (hs0 : st.ev s = some (.c (.v (.slice none 0 0)))) (hx : Src P st x size m ys) (hb1 : m ≤ maxLen) (hb2 : m * bytes ≤ 140737488355328) (hd : Nat.blt d st.n = true)
    (h : AOps P ops Q rest ((st.new (.vec E size ys)).put d (.vec st.nx m))) : AOps P ops Q (⟨some d, .call ⟨.builtin .append, #[s, x], #[t, t]⟩, ty, pos, af, none⟩ :: rest) st := by
  intro base w0 M a hs
  obtain ⟨ad, cap, cs, c0, c1, c2, c3, c4, c5, c6⟩ := hx base w0 M a hs
  have hv := (hs.ev hs0).bool
  obtain ⟨M1, m1, m2, m3, m4⟩ := hs.newNil E size I.pos
  have hF1 : ∀ b, M.F b → M1.F b ∧ M1.w.heap[b]? = M.w.heap[b]? := m4.F
  obtain ⟨v', w', M', g1, g2, g3, g4, g5⟩ := append_core (P := P) (ty := ty) m3 I (b := st.nx) (xs := []) (n := 0) (by rw [H_new, if_pos rfl]) (by rw [← hs.nx]; exact m2) (by simp) c1 c2 c3 (by rw [m1]; exact c4) c5 (fun i z v hz hv => (c6 i z v hz hv).mono hF1) (by omega) (by simpa using hb2) (cap := cap)
  rw [m1] at g1
  refine wl_value rfl (ex_append hv c0 g1) ?_
  subst g2
  have hfin : Sim base w0 (st.new (.vec E size ys)) M' a := g3.congr (by
    funext b
    rw [H_set, H_new, H_new, List.nil_append]
    by_cases hb : st.nx = b
    · rw [if_pos hb, if_pos hb]
    · rw [if_neg hb, if_neg hb, if_neg hb]) rfl rfl rfl rfl
  rw [Nat.zero_add] at g5
  exact wpList_monoQ (fun e a w => Lift.ext (m4.trans g4)) _ _ _ (h base w0 M' _ (hfin.put hd g5))
end
end Go.Proofs.Ytokkpocccgdilaa.Ev
