/- JZ JL2 JL3 JL6: texts laid together. -/
import Derived.Test.YthkjkhffljlidaaMrgX6
import Derived.Test.YthkjkhffljlidaaMrgE4
set_option maxRecDepth 100000
set_option maxHeartbeats 64000000
/- The journal, plain: what is found after crashes. -/
namespace Go.Proofs.Ythkjkhffljlidaa.Jo
set_option linter.unusedVariables false
set_option linter.unusedSimpArgs false
open Go.RowKit Go.Proofs.Ythkjkhffljlidaa.Ev Go.Proofs.Ythkjkhffljlidaa.Dk
def entS (p : Nat) (g : List ByteArray) : List Ent := if chkS g = 0 then divE p (streamB g) else []
def tab : List Nat → List (List ByteArray) → List Ent
  | p :: ps, g :: gs => entS p g ++ tab ps gs
  | _, _ => []
def ClashE (ps : List Nat) (E : List Ent) : Prop :=
  ∃ i, ∃ hi : i < E.length, (∃ k, ∃ hk : k < i, E[i].2.1 = E[k].2.1 ∧ (E[i].1 ≠ E[k].1 ∨ E[i].2.2 ≠ E[k].2.2)) ∨
    ∃ a ∈ 0 :: ps ++ E.map (fun e => e.2.1), a ≠ E[i].1 ∧ chainS a E[i].2.2 = E[i].2.1
def Clash (ps : List Nat) (gs : List (List ByteArray)) : Prop := ClashE ps (tab ps gs)
theorem tab_T : ∀ (T : List Tr), (∀ x ∈ T, chkS x.g = 0) → tab (T.map Tr.p) (T.map Tr.g) = T.flatMap Tr.E
  | [], _ => rfl
  | x :: T, h => by
    rw [List.map_cons, List.map_cons, tab, tab_T T (fun y hy => h y (List.mem_cons_of_mem _ hy)), List.flatMap_cons]
    unfold entS
    rw [if_pos (h x (List.mem_cons_self ..))]
    rfl
theorem noClash_of {T : List Tr} (hok : ∀ x ∈ T, chkS x.g = 0) (h : ¬ Clash (T.map Tr.p) (T.map Tr.g)) : NoClash T := by
  unfold Clash at h
  rw [tab_T T hok] at h
  unfold ClashE at h
  have hmem : ∀ x ∈ T, ∀ i (hi : i < x.E.length), x.E[i] ∈ T.flatMap Tr.E := fun x hx i hi => List.mem_flatMap.2 ⟨x, hx, List.getElem_mem hi⟩
  have key : ∀ I I' (hI : I < (T.flatMap Tr.E).length) (hI' : I' < (T.flatMap Tr.E).length), I' < I → (T.flatMap Tr.E)[I].2.1 = (T.flatMap Tr.E)[I'].2.1 → (T.flatMap Tr.E)[I].1 = (T.flatMap Tr.E)[I'].1 ∧ (T.flatMap Tr.E)[I].2.2 = (T.flatMap Tr.E)[I'].2.2 := fun I I' hI hI' hlt he => by
    refine Classical.byContradiction fun hn => h ⟨I, hI, .inl ⟨I', hlt, he, ?_⟩⟩
    by_cases h1 : (T.flatMap Tr.E)[I].1 = (T.flatMap Tr.E)[I'].1
    · exact .inr (fun h2 => hn ⟨h1, h2⟩)
    · exact .inl h1
  refine ⟨fun x hx y hy i j hi hj he => ?_, fun x hx i hi a ha hc => ?_⟩
  · obtain ⟨I, hI, e1⟩ := List.mem_iff_getElem.1 (hmem x hx i hi)
    obtain ⟨I', hI', e2⟩ := List.mem_iff_getElem.1 (hmem y hy j hj)
    rw [← e1, ← e2] at he ⊢
    rcases Nat.lt_trichotomy I I' with hl | hl | hl
    · obtain ⟨a, b⟩ := key I' I hI' hI hl he.symm
      exact ⟨a.symm, b.symm⟩
    · subst hl; exact ⟨rfl, rfl⟩
    · exact key I I' hI hI' hl he
  · obtain ⟨I, hI, e1⟩ := List.mem_iff_getElem.1 (hmem x hx i hi)
    refine Classical.byContradiction fun hn => h ⟨I, hI, .inr ⟨a, ?_, by rw [e1]; exact hn, by rw [e1]; exact hc⟩⟩
    rcases ha with rfl | ⟨y, hy, j, hj, rfl⟩
    · exact List.mem_cons_self ..
    · exact List.mem_cons_of_mem _ (List.mem_append.2 (.inr (List.mem_map.2 ⟨_, hmem y hy j hj, rfl⟩)))
theorem E_pos {x : Tr} (hc : chkS x.g = 0) : 0 < x.E.length := (divE_facts (streamB x.g).size x.p (streamB x.g) (Nat.le_refl _)).pos (by have := stream_pos (chk_z hc).1; omega)
theorem dot_end {T : List Tr} {x : Tr} (hx : x ∈ T) (hc : chkS x.g = 0) : Ground T (divS x.p x.g).2.1 (x.u + x.E.length) := by
  have hp := E_pos hc
  refine .inr ⟨by omega, x, hx, x.E.length - 1, by omega, by omega, ?_⟩
  rw [divS_ok hc]
  exact ((divE_facts (streamB x.g).size x.p (streamB x.g) (Nat.le_refl _)).last hp).symm
theorem trs_ground {T : List Tr} : ∀ (gs : List (List ByteArray)) (h u : Nat), (∀ g ∈ gs, chkS g = 0) → (∀ x ∈ trs h u gs, x ∈ T) → Ground T h u → (∀ x ∈ trs h u gs, Ground T x.p x.u) ∧ Ground T (flatB h gs).2 (u + (flatB h gs).1.length)
  | [], h, u, hc, hT, hg => ⟨(fun x hx => by cases hx), hg⟩
  | g :: gs, h, u, hc, hT, hg => by
    have hcg := hc g (List.mem_cons_self ..)
    have hd := dot_end (x := ⟨h, g, u⟩) (hT _ (List.mem_cons_self ..)) hcg
    rw [← divS_E hcg u] at hd
    obtain ⟨a, b⟩ := trs_ground gs (divS h g).2.1 (u + (divS h g).1.length) (fun x hx => hc x (List.mem_cons_of_mem _ hx)) (fun x hx => hT x (List.mem_cons_of_mem _ hx)) hd
    refine ⟨fun x hx => ?_, ?_⟩
    · rcases List.mem_cons.1 hx with rfl | hx
      · exact hg
      · exact a x hx
    · rw [flatB]
      dsimp only
      rw [List.length_append, ← Nat.add_assoc]
      exact b
theorem trs_mem : ∀ (gs : List (List ByteArray)) (h u : Nat), (∀ g ∈ gs, chkS g = 0) → ∀ x ∈ trs h u gs, x.g ∈ gs ∧ u ≤ x.u ∧ x.u + x.E.length ≤ u + (flatB h gs).1.length
  | [], h, u, hc => fun x hx => by cases hx
  | g :: gs, h, u, hc => fun x hx => by
    rw [flatB]
    dsimp only
    rw [List.length_append]
    have e := divS_E (h := h) (hc g (List.mem_cons_self ..)) u
    rcases List.mem_cons.1 hx with rfl | hx
    · exact ⟨List.mem_cons_self .., Nat.le_refl _, by show u + (Tr.mk h g u).E.length ≤ _; omega⟩
    · obtain ⟨a, b, c⟩ := trs_mem gs (divS h g).2.1 (u + (divS h g).1.length) (fun x hx => hc x (List.mem_cons_of_mem _ hx)) x hx
      exact ⟨List.mem_cons_of_mem _ a, by omega, by omega⟩
theorem after_at {n : Nat} {d : DS} {ta : JS} {failed : List (List ByteArray)} {da d' : DS} (h : After n d ta failed da d') (hc : ∀ g ∈ failed, chkS g = 0) {T : List Tr} (hT : ∀ x ∈ trs ta.head ta.used failed, x ∈ T) {q : Nat} (hq : q < d'.blocks.length) (ho : ∀ b, da.blocks[q]? = some b → At T q b) : At T q d'.blocks[q] := by
  have e0 : d'.blocks[q]? = some d'.blocks[q] := List.getElem?_eq_getElem hq
  rcases h.mix with ⟨_, e⟩ | ⟨g, hf, _, hm⟩
  · exact ho _ (by rw [← e]; exact e0)
  · rcases hm q with e | ⟨j, hj, e1, e2⟩
    · exact ho _ (by rw [← e]; exact e0)
    · have hcg := hc g (by rw [hf]; exact List.mem_singleton.2 rfl)
      refine .inr ⟨⟨ta.head, g, ta.used⟩, hT _ (by rw [hf]; exact List.mem_cons_self ..), j, by rw [← divS_E hcg]; exact hj, by rw [e1], ?_⟩
      have e3 : (divS ta.head g).1[j]? = ((Tr.mk ta.head g ta.used).E.map blk)[j]? := by
        rw [divS_ok hcg]
        show (divB ta.head (streamB g)).1[j]? = _
        rw [divB_E _ _ _ (Nat.le_refl _)]
        rfl
      rw [e0, ← List.getElem?_eq_getElem hj, e3, List.getElem?_map, List.getElem?_eq_getElem (by rw [← divS_E hcg]; exact hj)] at e2
      simpa using e2
theorem js_stop {t : JS} (h : t.stop = false) : { t with stop := false } = t := by cases t; cases h; rfl
theorem crash_one {n : Nat} {d : DS} {t : JS} {gs : List (List ByteArray)} {R : Rd} {da : DS} {ta : JS} (r : Rounded n d t gs R da ta) (hr : ∀ q, t.used ≤ q → ∀ x, d.blocks[q]? = some x → x.size ≤ 19) (m : Int) :
    ∃ k, openD (crashS R.d m) = k ∧ Lies k (crashS R.d m).blocks ∧ k.stop = false ∧ k.head < 2 ^ 64 ∧ (k = ta ∨ ∃ g, R.failed = [g] ∧ k = ta.add g (ta.used + (divS ta.head g).1.length) (divS ta.head g).2.1) := by
  have a := r.crash m
  have hl := a.lies r.up
  have hu : t.used ≤ ta.used := by rw [r.used]; omega
  have hsh : ∀ q, ta.used ≤ q → ∀ x, da.blocks[q]? = some x → x.size ≤ 19 := fun q hq x hx => hr q (by omega) x (by rw [← r.rest q hq]; exact hx)
  refine ⟨_, rfl, ?_⟩
  rw [openD_quiet a.quiet.up a.quiet.none, hl.find, js_stop r.up.stop]
  generalize (crashS R.d m) = d' at a hl
  rcases a.mix with ⟨h1, h2⟩ | ⟨g, h1, h2, h3⟩
  · rw [find_short (fun x hx => by
      obtain ⟨q, hq⟩ := List.mem_iff_getElem?.1 hx
      rw [List.getElem?_drop, h2] at hq
      exact hsh _ (by omega) x hq)]
    exact ⟨hl, r.up.stop, r.up.head, .inl rfl⟩
  · have hc := (r.ok g (by rw [r.tried, h1]; exact List.mem_append.2 (.inr (List.mem_singleton.2 rfl)))).1
    have hlen := a.len
    have hshort : ∀ x ∈ d'.blocks.drop (ta.used + (divS ta.head g).1.length), x.size ≤ 19 := fun x hx => by
      obtain ⟨q, hq⟩ := List.mem_iff_getElem?.1 hx
      rw [List.getElem?_drop] at hq
      rcases h3 (ta.used + (divS ta.head g).1.length + q) with e | ⟨j, hj, e, _⟩
      · rw [e] at hq; exact hsh _ (by omega) x hq
      · omega
    have hsplit : d'.blocks.drop ta.used = (d'.blocks.drop ta.used).take (divS ta.head g).1.length ++ d'.blocks.drop (ta.used + (divS ta.head g).1.length) := by
      rw [← List.drop_drop, List.take_append_drop]
    have hll : ((d'.blocks.drop ta.used).take (divS ta.head g).1.length).length = (divS ta.head g).1.length := by rw [List.length_take, List.length_drop]; omega
    have hB : (divB ta.head (streamB g)).1 = (divS ta.head g).1 := by rw [divS_ok hc]
    rcases find_mix (streamB g).size (streamB g) [] ta.used ta.head ta ((d'.blocks.drop ta.used).take (divS ta.head g).1.length) (d'.blocks.drop (ta.used + (divS ta.head g).1.length)) (Nat.le_refl _) (by rw [hB]; exact hll) (fun j hj hj' => by
      rw [hll] at hj
      have e0 : ((d'.blocks.drop ta.used).take (divS ta.head g).1.length)[j]? = d'.blocks[ta.used + j]? := by rw [List.getElem?_take_of_lt hj, List.getElem?_drop]
      rcases h3 (ta.used + j) with e | ⟨j', hj1, e1, e2⟩
      · rw [e] at e0
        rw [List.getElem?_eq_getElem (by rw [hll]; exact hj)] at e0
        exact .inr (hsh _ (by omega) _ e0.symm)
      · have : j' = j := by omega
        subst this
        rw [e2, List.getElem?_eq_getElem (by rw [hll]; exact hj)] at e0
        refine .inl ?_
        have e3 := Option.some.inj e0
        rw [e3]
        congr 1
        exact hB.symm) with hm | hm
    · rw [hB] at hm
      rw [hsplit, hm, find_group hc, find_short hshort]
      have hput : putAt d'.blocks ta.used (divS ta.head g).1 = d'.blocks := by
        rw [putAt_eq _ _ _ (by omega), List.append_assoc]
        conv => rhs; rw [← List.take_append_drop ta.used d'.blocks, hsplit, hm]
      have hla := hl.add hc (by omega)
      rw [hput] at hla
      exact ⟨hla, r.up.stop, divS_lt _ _ r.up.head, .inr ⟨g, h1, rfl⟩⟩
    · rw [hsplit, hm]
      exact ⟨hl, r.up.stop, r.up.head, .inl rfl⟩
theorem Rounded.sub {n : Nat} {d : DS} {gs : List (List ByteArray)} {R : Rd} {da : DS} {ta k : JS} (r : Rounded n d J0 gs R da ta) (hk : k = ta ∨ ∃ g, R.failed = [g] ∧ k = ta.add g (ta.used + (divS ta.head g).1.length) (divS ta.head g).2.1) : (∃ rest, R.tried = k.gr ++ rest) ∧ ta.used ≤ k.used := by
  have hg : ta.gr = R.acked := by rw [r.gr]; rfl
  rcases hk with rfl | ⟨g, h1, rfl⟩
  · exact ⟨⟨R.failed, by rw [hg]; exact r.tried⟩, Nat.le_refl _⟩
  · refine ⟨⟨[], ?_⟩, Nat.le_add_right _ _⟩
    show R.tried = (ta.gr ++ [g]) ++ []
    rw [List.append_nil, hg, r.tried, h1]
theorem Rounded.trs {n : Nat} {d : DS} {t : JS} {gs : List (List ByteArray)} {R : Rd} {da : DS} {ta : JS} (r : Rounded n d t gs R da ta) : Jo.trs t.head t.used R.tried = Jo.trs t.head t.used R.acked ++ Jo.trs ta.head ta.used R.failed := by
  rw [r.tried, trs_app, r.head, r.used]
theorem Rounded.le {n : Nat} {d : DS} {t : JS} {gs : List (List ByteArray)} {R : Rd} {da : DS} {ta : JS} (r : Rounded n d t gs R da ta) : ∀ x ∈ Jo.trs t.head t.used R.tried, x.u < ta.used ∨ (x.g ∈ R.failed ∧ x.u = ta.used) := by
  intro x hx
  rw [r.trs] at hx
  have hca : ∀ g ∈ R.acked, chkS g = 0 := fun g hg => (r.ok g (by rw [r.tried]; exact List.mem_append.2 (.inl hg))).1
  have hcf : ∀ g ∈ R.failed, chkS g = 0 := fun g hg => (r.ok g (by rw [r.tried]; exact List.mem_append.2 (.inr hg))).1
  rcases List.mem_append.1 hx with hx | hx
  · obtain ⟨a, b, c⟩ := trs_mem R.acked t.head t.used hca x hx
    have := E_pos (x := x) (hca _ a)
    rw [r.used]
    exact .inl (by omega)
  · rcases r.fin with ⟨e, _⟩ | ⟨g, e, _⟩
    · rw [e] at hx; cases hx
    · rw [e] at hx ⊢
      have hx : x ∈ [Tr.mk ta.head g ta.used] := hx
      rw [List.mem_singleton.1 hx]
      exact .inr ⟨List.mem_singleton.2 rfl, rfl⟩
theorem crash_more {n : Nat} {d : DS} {gs : List (List ByteArray)} {R : Rd} {da : DS} {ta k : JS} {gx : List ByteArray} (r : Rounded n d J0 gs R da ta) (hr : ∀ (q : Nat) (x : ByteArray), d.blocks[q]? = some x → x.size ≤ 19) (m : Int)
    (hl : Lies k (crashS R.d m).blocks) (hs : k.stop = false) (hk : k = ta ∨ ∃ g, R.failed = [g] ∧ k = ta.add g (ta.used + (divS ta.head g).1.length) (divS ta.head g).2.1) (hx : chkS gx = 0) (hroom : k.used + (divS k.head gx).1.length ≤ n)
    (hcl : ¬ Clash (R.heads ++ [k.head]) (R.tried ++ [gx])) :
    findG 0 [] 0 (putAt (crashS R.d m).blocks k.used (divS k.head gx).1) J0 = k.add gx (k.used + (divS k.head gx).1.length) (divS k.head gx).2.1 := by
  have a := r.crash m
  obtain ⟨⟨rest, hrest⟩, hku⟩ := r.sub hk
  have hlen := a.len
  have hroom' : k.used + (divS k.head gx).1.length ≤ (crashS R.d m).blocks.length := by omega
  have hla := hl.add hx hroom'
  rw [hla.find]
  have hstop : ({ k.add gx (k.used + (divS k.head gx).1.length) (divS k.head gx).2.1 with stop := false } : JS) = k.add gx (k.used + (divS k.head gx).1.length) (divS k.head gx).2.1 := js_stop hs
  rw [hstop]
  show findG (divS k.head gx).2.1 [] (k.used + (divS k.head gx).1.length) ((putAt (crashS R.d m).blocks k.used (divS k.head gx).1).drop (k.used + (divS k.head gx).1.length)) _ = _
  rw [putAt_drop hroom']
  obtain ⟨T, hTd⟩ : ∃ T, T = trs 0 0 R.tried ++ [Tr.mk k.head gx k.used] := ⟨_, rfl⟩
  have hTx : Tr.mk k.head gx k.used ∈ T := by rw [hTd]; exact List.mem_append.2 (.inr (List.mem_singleton.2 rfl))
  have hTt : ∀ x ∈ trs 0 0 R.tried, x ∈ T := fun x hx => by rw [hTd]; exact List.mem_append.2 (.inl hx)
  have hct : ∀ g ∈ R.tried, chkS g = 0 := fun g hg => (r.ok g hg).1
  have hok : ∀ x ∈ T, chkS x.g = 0 := fun x hx => by
    rw [hTd] at hx
    rcases List.mem_append.1 hx with hx | hx
    · exact hct _ (trs_mem R.tried 0 0 hct x hx).1
    · rw [List.mem_singleton.1 hx]; assumption
  have hNC : NoClash T := noClash_of hok (by
    rw [hTd, List.map_append, List.map_append, trs_g, ← r.heads]
    exact hcl)
  have h00 : Ground T 0 0 := .inl ⟨rfl, rfl⟩
  obtain ⟨g1, _⟩ := trs_ground R.tried 0 0 hct hTt h00
  have hkg : Ground T k.head k.used := by
    have := (trs_ground k.gr 0 0 hl.ok (fun x hx => hTt x (by rw [hrest, trs_app]; exact List.mem_append.2 (.inl hx))) h00).2
    rw [hl.head, hl.len, Nat.zero_add] at this
    exact this
  have hT : Tried T := ⟨hok, fun x hx => by
    rw [hTd] at hx
    rcases List.mem_append.1 hx with hx | hx
    · exact g1 x hx
    · rw [List.mem_singleton.1 hx]; exact hkg⟩
  have hgx := dot_end (T := T) (x := ⟨k.head, gx, k.used⟩) hTx hx
  have hpx := E_pos (x := ⟨k.head, gx, k.used⟩) hx
  rw [← divS_E hx] at hgx hpx
  have hgx : Ground T (divS k.head gx).2.1 (k.used + (divS k.head gx).1.length) := hgx
  have hT1 : ∀ x ∈ trs ta.head ta.used R.failed, x ∈ T := fun x hx => hTt x (by
    have := r.trs
    show x ∈ trs J0.head J0.used R.tried
    rw [this]; exact List.mem_append.2 (.inr hx))
  rcases found_at hT hNC hgx ((crashS R.d m).blocks.drop (k.used + (divS k.head gx).1.length)) (k.add gx (k.used + (divS k.head gx).1.length) (divS k.head gx).2.1) (fun q hq => by
    rw [List.length_drop] at hq
    rw [List.getElem_drop]
    exact after_at a (fun g hg => hct g (by rw [r.tried]; exact List.mem_append.2 (.inr hg))) hT1 (by omega) (fun b hb => .inl (hr _ b (by rw [← r.rest (k.used + (divS k.head gx).1.length + q) (by omega)]; exact hb)))) with hf | ⟨x, hx', e, _⟩
  · exact hf
  · exfalso
    have e : x.u = k.used + (divS k.head gx).1.length := e
    rw [hTd] at hx'
    rcases List.mem_append.1 hx' with hx' | hx'
    · rcases r.le x hx' with h | ⟨_, h⟩ <;> omega
    · rw [List.mem_singleton.1 hx'] at e
      have e : k.used = k.used + (divS k.head gx).1.length := e
      omega
theorem crash_two {n : Nat} {d1 : DS} {gs1 : List (List ByteArray)} {R1 : Rd} {da1 : DS} {ta1 k1 : JS} (r1 : Rounded n d1 J0 gs1 R1 da1 ta1) (hr : ∀ (q : Nat) (x : ByteArray), d1.blocks[q]? = some x → x.size ≤ 19) (m1 : Int)
    (hl1 : Lies k1 (crashS R1.d m1).blocks) (hk1 : k1 = ta1 ∨ ∃ g, R1.failed = [g] ∧ k1 = ta1.add g (ta1.used + (divS ta1.head g).1.length) (divS ta1.head g).2.1)
    {d2 : DS} {gs2 : List (List ByteArray)} {R2 : Rd} {da2 : DS} {ta2 : JS} (hd2 : d2.blocks = (crashS R1.d m1).blocks) (r2 : Rounded n d2 k1 gs2 R2 da2 ta2) (m2 : Int)
    (hcl : ¬ Clash (R1.heads ++ R2.heads) (R1.tried ++ R2.tried)) :
    openD (crashS R2.d m2) = ta2 ∨ ∃ g ∈ R1.failed ++ R2.failed, (openD (crashS R2.d m2)).gr = ta2.gr ++ [g] := by
  have a1 := r1.crash m1
  have a2 := r2.crash m2
  have hl2 := a2.lies r2.up
  obtain ⟨⟨rest, hrest⟩, hku⟩ := r1.sub hk1
  have hku2 : k1.used ≤ ta2.used := by rw [r2.used]; omega
  rw [openD_quiet a2.quiet.up a2.quiet.none, hl2.find, js_stop r2.up.stop]
  obtain ⟨T, hTd⟩ : ∃ T, T = trs 0 0 R1.tried ++ trs k1.head k1.used R2.tried := ⟨_, rfl⟩
  have hT1 : ∀ x ∈ trs 0 0 R1.tried, x ∈ T := fun x hx => by rw [hTd]; exact List.mem_append.2 (.inl hx)
  have hT2 : ∀ x ∈ trs k1.head k1.used R2.tried, x ∈ T := fun x hx => by rw [hTd]; exact List.mem_append.2 (.inr hx)
  have hc1 : ∀ g ∈ R1.tried, chkS g = 0 := fun g hg => (r1.ok g hg).1
  have hc2 : ∀ g ∈ R2.tried, chkS g = 0 := fun g hg => (r2.ok g hg).1
  have hok : ∀ x ∈ T, chkS x.g = 0 := fun x hx => by
    rw [hTd] at hx
    rcases List.mem_append.1 hx with hx | hx
    · exact hc1 _ (trs_mem R1.tried 0 0 hc1 x hx).1
    · exact hc2 _ (trs_mem R2.tried _ _ hc2 x hx).1
  have hNC : NoClash T := noClash_of hok (by
    rw [hTd, List.map_append, List.map_append, trs_g, trs_g, ← r1.heads, ← r2.heads]
    exact hcl)
  have h00 : Ground T 0 0 := .inl ⟨rfl, rfl⟩
  obtain ⟨g1, _⟩ := trs_ground R1.tried 0 0 hc1 hT1 h00
  have hkg : Ground T k1.head k1.used := by
    have := (trs_ground k1.gr 0 0 hl1.ok (fun x hx => hT1 x (by rw [hrest, trs_app]; exact List.mem_append.2 (.inl hx))) h00).2
    rw [hl1.head, hl1.len, Nat.zero_add] at this
    exact this
  obtain ⟨g2, _⟩ := trs_ground R2.tried k1.head k1.used hc2 hT2 hkg
  have hT : Tried T := ⟨hok, fun x hx => by
    rw [hTd] at hx
    rcases List.mem_append.1 hx with hx | hx
    · exact g1 x hx
    · exact g2 x hx⟩
  have hag : Ground T ta2.head ta2.used := by
    have := (trs_ground R2.acked k1.head k1.used (fun g hg => hc2 g (by rw [r2.tried]; exact List.mem_append.2 (.inl hg))) (fun x hx => hT2 x (by rw [r2.trs]; exact List.mem_append.2 (.inl hx))) hkg).2
    rw [← r2.head, ← r2.used] at this
    exact this
  have hF1 : ∀ x ∈ trs ta1.head ta1.used R1.failed, x ∈ T := fun x hx => hT1 x (by
    have := r1.trs
    show x ∈ trs J0.head J0.used R1.tried
    rw [this]; exact List.mem_append.2 (.inr hx))
  have hF2 : ∀ x ∈ trs ta2.head ta2.used R2.failed, x ∈ T := fun x hx => hT2 x (by rw [r2.trs]; exact List.mem_append.2 (.inr hx))
  have hat : ∀ q, ta2.used ≤ q → ∀ (hq : q < (crashS R2.d m2).blocks.length), At T q (crashS R2.d m2).blocks[q] := fun q hu hq => by
    refine after_at a2 (fun g hg => hc2 g (by rw [r2.tried]; exact List.mem_append.2 (.inr hg))) hF2 hq (fun b hb => ?_)
    rw [r2.rest q hu, hd2] at hb
    have hq1 : q < (crashS R1.d m1).blocks.length := (List.getElem?_eq_some_iff.1 hb).1
    have := after_at a1 (fun g hg => hc1 g (by rw [r1.tried]; exact List.mem_append.2 (.inr hg))) hF1 hq1 (fun b hb => .inl (hr q b (by rw [← r1.rest q (by omega)]; exact hb)))
    rw [List.getElem?_eq_getElem hq1, Option.some.injEq] at hb
    rw [← hb]; exact this
  have hle : ∀ x ∈ T, x.u < ta2.used ∨ (x.g ∈ R1.failed ++ R2.failed ∧ x.u = ta2.used) := fun x hx => by
    rw [hTd] at hx
    rcases List.mem_append.1 hx with hx | hx
    · rcases r1.le x hx with h | ⟨h, h'⟩
      · exact .inl (by omega)
      · by_cases e : ta1.used = ta2.used
        · exact .inr ⟨List.mem_append.2 (.inl h), by omega⟩
        · exact .inl (by omega)
    · rcases r2.le x hx with h | ⟨h, h'⟩
      · exact .inl h
      · exact .inr ⟨List.mem_append.2 (.inr h), h'⟩
  have hlen2 := a2.len
  rcases found_at hT hNC hag ((crashS R2.d m2).blocks.drop ta2.used) ta2 (fun q hq => by
    rw [List.length_drop] at hq
    rw [List.getElem_drop]
    exact hat _ (by omega) (by omega)) with hf | ⟨x, hx, e1, e2, e3, e4⟩
  · exact .inl hf
  · rw [e4]
    refine .inr ⟨x.g, ?_, ?_⟩
    · rcases hle x hx with h | ⟨h, _⟩
      · omega
      · exact h
    · have hend := dot_end hx (hok x hx)
      have hp := E_pos (hok x hx)
      rw [e2, e1] at hend
      rw [List.length_drop] at e3
      rw [List.drop_drop]
      rcases found_at hT hNC hend ((crashS R2.d m2).blocks.drop (ta2.used + x.E.length)) (ta2.add x.g (ta2.used + x.E.length) (divS ta2.head x.g).2.1) (fun q hq => by
        rw [List.length_drop] at hq
        rw [List.getElem_drop]
        exact hat _ (by omega) (by omega)) with hf | ⟨y, hy, e5, _⟩
      · rw [hf]; rfl
      · exfalso
        rcases hle y hy with h | ⟨_, h⟩ <;> omega
end Go.Proofs.Ythkjkhffljlidaa.Jo
/- The law JournalOpens. -/
namespace Go.Proofs.Ythkjkhffljlidaa.Jo
set_option linter.unusedVariables false
set_option linter.unusedSimpArgs false
open Go.RowKit Go.Proofs.Ythkjkhffljlidaa.Ev Go.Proofs.Ythkjkhffljlidaa.Dk
variable {gl : List (Nat × List CV)}
theorem sized_get {n : Int} (h : sizedS n = true) : ∃ m : Nat, n = (m : Int) ∧ 1 ≤ m ∧ m ≤ 100 := by
  unfold sizedS at h
  have h : 1 ≤ n ∧ n ≤ 100 := by simpa using h
  exact ⟨n.toNat, by omega, by omega, by omega⟩
theorem findG_bd : ∀ (bl : List ByteArray) (h : Nat) (st : List UInt8) (i : Nat) (J : JS), (∀ g ∈ J.gr, g.length ≤ 32) → J.used ≤ i → J.head < 2 ^ 64 → (∀ g ∈ (findG h st i bl J).gr, g.length ≤ 32) ∧ (findG h st i bl J).gr.length ≤ J.gr.length + bl.length ∧ (findG h st i bl J).used ≤ i + bl.length ∧ (findG h st i bl J).head < 2 ^ 64
  | [], h, st, i, J, hg, hu, hh => ⟨hg, Nat.le_refl _, by rw [findG]; exact hu, hh⟩
  | b :: bl, h, st, i, J, hg, hu, hh => by
    have hsame : (∀ g ∈ J.gr, g.length ≤ 32) ∧ J.gr.length ≤ J.gr.length + (b :: bl).length ∧ J.used ≤ i + (b :: bl).length ∧ J.head < 2 ^ 64 := ⟨hg, by omega, by omega, hh⟩
    cases hc : contS h b with
    | none => rw [findG_none hc]; exact hsame
    | some v =>
      obtain ⟨h', last⟩ := v
      cases last with
      | false =>
        rw [findG_more hc]
        obtain ⟨a1, a2, a3, a4⟩ := findG_bd bl h' (st ++ (b.extract 19 b.size).data.toList) (i + 1) J hg (by omega) hh
        exact ⟨a1, by rw [List.length_cons]; omega, by rw [List.length_cons]; omega, a4⟩
      | true =>
        cases hgr : grp ⟨(st ++ (b.extract 19 b.size).data.toList).toArray⟩ with
        | none => rw [findG_bad hc hgr]; exact hsame
        | some l =>
          rw [findG_last hc hgr]
          have hl := grp_len hgr
          obtain ⟨b1, b2, b3⟩ := cont_bd hc
          obtain ⟨a1, a2, a3, a4⟩ := findG_bd bl h' [] (i + 1) (J.add l (i + 1) h') (fun g hx => by
            have hx : g ∈ J.gr ++ [l] := hx
            rcases List.mem_append.1 hx with hx | hx
            · exact hg g hx
            · rw [List.mem_singleton.1 hx]; exact hl) (Nat.le_refl _) b3
          have e1 : (J.add l (i + 1) h').gr.length = J.gr.length + 1 := by simp [JS.add]
          exact ⟨a1, by rw [List.length_cons]; omega, by rw [List.length_cons]; omega, a4⟩
theorem flatten_len : ∀ (l : List (List ByteArray)) (k : Nat), (∀ g ∈ l, g.length ≤ k) → l.flatten.length ≤ l.length * k
  | [], k, h => by simp
  | g :: l, k, h => by
    have := flatten_len l k (fun x hx => h x (List.mem_cons_of_mem _ hx))
    have := h g (List.mem_cons_self ..)
    rw [List.flatten_cons, List.length_append, List.length_cons, Nat.add_mul]
    omega
end Go.Proofs.Ythkjkhffljlidaa.Jo
/- The law JournalRuns. -/
namespace Go.Proofs.Ythkjkhffljlidaa.Jo
set_option linter.unusedVariables false
set_option linter.unusedSimpArgs false
open Go.RowKit Go.Proofs.Ythkjkhffljlidaa.Ev Go.Proofs.Ythkjkhffljlidaa.Dk
variable {gl : List (Nat × List CV)}
theorem add_bd {t : JS} {g : List ByteArray} {u h i : Nat} (h1 : t.gr.length ≤ i) (h2 : ∀ x ∈ t.gr, x.length ≤ 40) (h3 : g.length ≤ 40) : (t.add g u h).gr.length ≤ i + 1 ∧ ∀ x ∈ (t.add g u h).gr, x.length ≤ 40 := by
  refine ⟨by show (t.gr ++ [g]).length ≤ _; simp; omega, fun x hx => ?_⟩
  have hx : x ∈ t.gr ++ [g] := hx
  rcases List.mem_append.1 hx with hx | hx
  · exact h2 x hx
  · rw [List.mem_singleton.1 hx]; exact h3
end Go.Proofs.Ythkjkhffljlidaa.Jo
/- The journal: round, crashed, after. -/
namespace Go.Proofs.Ythkjkhffljlidaa.Jo
set_option linter.unusedVariables false
set_option linter.unusedSimpArgs false
open Go.RowKit Go.Proofs.Ythkjkhffljlidaa.Ev Go.Proofs.Ythkjkhffljlidaa.Dk
variable {gl : List (Nat × List CV)}
def hdC (h : Nat) : List CV := [U h]
instance : EncL hdC 1 := ⟨fun _ => rfl, by decide, fun _ => rfl⟩
abbrev LH (l : List Nat) : CV := .lst 1 (l.flatMap hdC)
theorem append_stop (d : DS) (c kd kj : Nat) (t : JS) (g : List ByteArray) (ht : t.stop = true) : OCon Try.prog gl 17 [.c (ptrV kj 0), .c (LT g)] (DJ d c kd kj t) (I 17) (DJ d c kd kj t) := by
  refine ocon_of Try.func17 rfl (by kernel_rfl) rfl (by intro x hx h e; subst e; first | (simp at hx; done) | (intro g; simp at hx; subst hx; rfl)) ?_
  intro fr hfr
  simp only [Try.ntmps17, Try.results17, argEnvO, avOf, of1, List.map]
  repeat' (first
 | (rw [ht])
 | ((with_reducible apply (r_load_oc 0)); exact rfl; exact rfl; exact star_load (jP_cell (by decide) (fun _ => rfl)); exact rfl)
 | ((with_reducible apply r_nilc); exact rfl; exact rfl)
 | ((with_reducible apply r_field_c); exact rfl; exact rfl)
 | ((with_reducible apply r_eqnil1); exact rfl; exact rfl; exact rfl)
 | ((with_reducible apply aw_seq))
 | ((with_reducible apply aw_region))
 | ((with_reducible apply thn_normal))
 | ((with_reducible apply thn_ret))
 | ((with_reducible apply aw_skip))
 | ((with_reducible apply aw_ret))
 | ((with_reducible apply ao_nil))
 | ((with_reducible apply r_move); exact rfl; exact rfl)
 | ((with_reducible apply r_assign); exact rfl; exact rfl)
 | (((with_reducible apply aw_cond); exact rfl) <;> intro hg <;> (first | (exact absurd hg (by decide)) | ((try simp only [decide_eq_true_eq, decide_eq_false_iff_not, Bool.not_eq_true', Bool.not_eq_false', Bool.not_true, Bool.not_false, Bool.not_not, Int.not_lt, Int.not_le, Nat.not_lt, Nat.not_le, gt_iff_lt, ge_iff_le, List.cons.injEq, and_true] at hg); first | (exact absurd trivial hg) | (exfalso; omega) | (have hT : True := hg; clear hT hg) | skip)))
 )
  all_goals exact ⟨ret1 (.tmp rfl cl_c), rfl, rfl⟩
def comb (ac tr : List (List ByteArray)) (hd : List Nat) (R : Rd) : Rd := ⟨ac ++ R.acked, R.failed, tr ++ R.tried, hd ++ R.heads, R.t, R.d⟩
theorem round_ref {t t' : JS} {d d' : DS} {g : List ByteArray} {gs : List (List ByteArray)} {e : Int} (h : appS t d g = (t', d', e)) (he : e = 12 ∨ e = 4 ∨ e = 3) : roundS t d (g :: gs) = roundS t' d' gs := by
  rw [roundS, h]; dsimp only; rw [if_pos he]
theorem round_add {t t' : JS} {d d' : DS} {g : List ByteArray} {gs : List (List ByteArray)} (h : appS t d g = (t', d', 0)) : roundS t d (g :: gs) = comb [g] [g] [t.head] (roundS t' d' gs) := by
  rw [roundS, h]; dsimp only; rw [if_neg (by decide), if_neg (by decide)]; rfl
theorem round_fail {t t' : JS} {d d' : DS} {g : List ByteArray} {gs : List (List ByteArray)} (h : appS t d g = (t', d', 17)) : roundS t d (g :: gs) = ⟨[], [g], [g], [t.head], t', d'⟩ := by
  rw [roundS, h]; dsimp only; rw [if_neg (by decide), if_pos rfl]
theorem comb_comb (ac tr ac' tr' : List (List ByteArray)) (hd hd' : List Nat) (R : Rd) : comb ac tr hd (comb ac' tr' hd' R) = comb (ac ++ ac') (tr ++ tr') (hd ++ hd') R := by
  simp [comb, List.append_assoc]
theorem round_dj (d : DS) (c kd kj : Nat) (t : JS) (gs : List (List ByteArray)) (n : Nat) (hU : Up n d t) (hn : n ≤ 4096) (hc : c ≤ 500000) (hgs : gs.length ≤ 20) (hg : ∀ g ∈ gs, g.length ≤ 40) (ht : t.gr.length ≤ 100) (ht4 : ∀ g ∈ t.gr, g.length ≤ 40) :
    OCon Try.prog gl 36 [.c (ptrV kj 0), .c (LG gs)] (DJ d c kd kj t) (.tup [LG (roundS t d gs).acked, LG (roundS t d gs).failed, LG (roundS t d gs).tried, LH (roundS t d gs).heads, BO true]) (DJ (roundS t d gs).d (c + 5000 * gs.length) kd kj (roundS t d gs).t) := by
  refine ocon_of Try.func36 rfl (by kernel_rfl) rfl (by intro x hx h e; subst e; first | (simp at hx; done) | (intro g; simp at hx; subst hx; rfl)) ?_
  intro fr hfr
  simp only [Try.ntmps36, Try.results36, argEnvO, avOf, of1, List.map]
  repeat' (first
 | ((with_reducible apply aw_seq))
 | ((with_reducible apply aw_region))
 | ((with_reducible apply aw_block))
 | ((with_reducible apply thn_normal))
 | ((with_reducible apply ao_nil))
 | ((with_reducible apply r_assign); exact rfl; exact rfl)
 )
  refine aw_nilvec 4 23 1 rfl rfl ?_
  refine aw_nilvec 6 23 1 rfl rfl ?_
  refine aw_nilvec 7 22 1 rfl rfl ?_
  refine aw_loopG (G := Nat × DS × JS × List (List ByteArray) × List (List ByteArray) × List Nat) (fun ((i, d', t', ac, tr, hd) : Nat × DS × JS × List (List ByteArray) × List (List ByteArray) × List Nat) => i ≤ gs.length ∧ Up n d' t' ∧ t'.gr.length ≤ t.gr.length + i ∧ (∀ x ∈ t'.gr, x.length ≤ 40) ∧ ac.length ≤ i ∧ tr.length ≤ i ∧ hd.length ≤ i ∧ roundS t d gs = comb ac tr hd (roundS t' d' (gs.drop i))) (fun ((i, d', t', ac, tr, hd) : Nat × DS × JS × List (List ByteArray) × List (List ByteArray) × List Nat) => gs.length - i) (fun ((i, d', t', ac, tr, hd) : Nat × DS × JS × List (List ByteArray) × List (List ByteArray) × List Nat) => [(0, .c (ptrV kj 0)), (1, .c (LG gs)), (4, .vec 2 ac.length), (6, .vec 3 tr.length), (7, .vec 4 hd.length), (9, A i)]) (fun ((i, d', t', ac, tr, hd) : Nat × DS × JS × List (List ByteArray) × List (List ByteArray) × List Nat) => [(1, fr), (0, some (.obj (DJ d' (c + 5000 * i) kd kj t'))), (2, some (.vec 23 1 (ac.flatMap grC))), (3, some (.vec 23 1 (tr.flatMap grC))), (4, some (.vec 22 1 (hd.flatMap hdC)))]) 5 (0, d, t, [], [], []) ?_ (by refine weak_mkF hfr rfl rfl rfl ?_ ?_ <;> repeat (first | exact envW_nil | exact heapW_nil | refine envW_cons rfl rfl ?_ | refine heapW_cons rfl rfl rfl ?_)) rfl ?_
  · exact ⟨Nat.zero_le _, hU, Nat.le_refl _, ht4, Nat.zero_le _, Nat.zero_le _, Nat.zero_le _, by rw [List.drop_zero]; simp [comb]⟩
  rintro ⟨i, d', t', ac, tr, hd⟩ hI
  try dsimp only at hI
  try dsimp only
  obtain ⟨h1, h2, h3, h4, h5, h6, h7, h8⟩ := hI
  by_cases hi : i < gs.length
  rotate_left
  · obtain rfl : i = gs.length := by omega
    rw [List.drop_length, roundS] at h8
    rw [h8]
    unfold comb
    dsimp only
    rw [List.append_nil, List.append_nil, List.append_nil]
    repeat' (first
 | ((with_reducible apply aw_seq))
 | ((with_reducible apply aw_region))
 | ((with_reducible apply thn_normal))
 | ((with_reducible apply thn_exit))
 | ((with_reducible apply inb_exit))
 | ((with_reducible apply aw_exit))
 | ((with_reducible apply aw_ret))
 | ((with_reducible apply ao_nil))
 | ((with_reducible apply r_move); exact rfl; exact rfl)
 | ((with_reducible apply r_assign); exact rfl; exact rfl)
 | ((with_reducible apply r_lss); exact rfl; exact rfl; exact rfl)
 | ((with_reducible apply r_len_f); exact rfl; exact inferInstance; exact rfl)
 | (((with_reducible apply aw_cond); exact rfl) <;> intro hg <;> (first | (exact absurd hg (by decide)) | ((try simp only [decide_eq_true_eq, decide_eq_false_iff_not, Bool.not_eq_true', Bool.not_eq_false', Bool.not_true, Bool.not_false, Bool.not_not, Int.not_lt, Int.not_le, Nat.not_lt, Nat.not_le, gt_iff_lt, ge_iff_le, List.cons.injEq, and_true] at hg); first | (exact absurd trivial hg) | (exfalso; omega) | (have hT : True := hg; clear hT hg) | skip)))
 )
    all_goals exact ⟨ret2 (.cons (.tmp rfl (cl_vec rfl (flat_len EncL.len _))) (.cons (.tmp rfl cl_none) (.cons (.tmp rfl (cl_vec rfl (flat_len EncL.len _))) (.cons (.tmp rfl (cl_vec rfl (flat_len EncL.len _))) (.cons (.tmp rfl cl_c) .nil))))), rfl, rfl⟩
  rw [List.drop_eq_getElem_cons hi] at h8
  have hgl := hg gs[i] (List.getElem_mem hi)
  have hu := h2.used
  have hhd := h2.head
  have hdl := h2.len
  have hfl := flatten_len t'.gr 40 h4
  have hrl : t'.recs.length ≤ 10000 := by show t'.gr.flatten.length ≤ _; omega
  have c0 := (head_j (gl := gl) kd t').right ((dskP d' (c + 5000 * i)).at kd) kj
  have ap := append_dj (gl := gl) d' (c + 5000 * i) kd kj t' gs[i] (by omega) (by omega) (by omega) hhd (by omega) (by omega) (by omega)
  rw [show c + 5000 * i + 5000 = c + 5000 * (i + 1) by omega] at ap
  rcases h2.app gs[i] with ⟨e, w1, w2⟩ | ⟨hck, hl, ⟨d2, w1, w2, w3⟩ | ⟨d2, w1, w2⟩⟩
  · rw [round_ref w1 w2] at h8
    rw [w1] at ap
    dsimp only at ap
    rcases w2 with rfl | rfl | rfl
    all_goals
      repeat' (first
 | ((with_reducible apply (r_callO (f := 17) 0)); exact ap; exact rfl; exact rfl; exact rfl; exact rfl)
 | ((with_reducible apply (r_callqO (f := 33) 0)); exact c0; exact rfl; exact rfl; exact rfl; exact rfl; exact rfl)
 | ((with_reducible apply aw_seq))
 | ((with_reducible apply aw_region))
 | ((with_reducible apply aw_block))
 | ((with_reducible apply thn_normal))
 | ((with_reducible apply thn_exit))
 | ((with_reducible apply inb_exit))
 | ((with_reducible apply aw_skip))
 | ((with_reducible apply aw_exit))
 | ((with_reducible apply ao_nil))
 | ((with_reducible apply r_move); exact rfl; exact rfl)
 | ((with_reducible apply r_assign); exact rfl; exact rfl)
 | ((with_reducible apply r_lss); exact rfl; exact rfl; exact rfl)
 | ((with_reducible apply r_eql); exact rfl; exact rfl; exact rfl)
 | ((with_reducible apply r_add); exact rfl; exact rfl; exact (by first | assumption | (unfold fits; omega)); exact rfl)
 | ((with_reducible apply r_pick_t); exact rfl; exact rfl; exact rfl)
 | ((with_reducible apply r_pick_f); exact rfl; exact rfl; exact rfl)
 | ((with_reducible apply r_len_f); exact rfl; exact inferInstance; exact rfl)
 | ((with_reducible apply r_index_f); exact rfl; exact inferInstance; exact rfl; exact rfl; (first | assumption | omega); exact rfl)
 | ((with_reducible apply r_load_f0); exact rfl; exact inferInstance; exact List.getElem?_eq_getElem (by first | assumption | omega); exact rfl; exact rfl)
 | (((with_reducible apply r_guard); exact rfl; exact rfl; exact rfl; exact rfl) <;> intro hg <;> (first | (exact absurd hg (by decide)) | ((try simp only [decide_eq_true_eq, decide_eq_false_iff_not, Bool.not_eq_true', Bool.not_eq_false', Bool.not_true, Bool.not_false, Bool.not_not, Int.not_lt, Int.not_le, Nat.not_lt, Nat.not_le, gt_iff_lt, ge_iff_le, List.cons.injEq, and_true] at hg); first | (exact absurd trivial hg) | (exfalso; omega) | (have hT : True := hg; clear hT hg) | skip)))
 | (((with_reducible apply aw_cond); exact rfl) <;> intro hg <;> (first | (exact absurd hg (by decide)) | ((try simp only [decide_eq_true_eq, decide_eq_false_iff_not, Bool.not_eq_true', Bool.not_eq_false', Bool.not_true, Bool.not_false, Bool.not_not, Int.not_lt, Int.not_le, Nat.not_lt, Nat.not_le, gt_iff_lt, ge_iff_le, List.cons.injEq, and_true] at hg); first | (exact absurd trivial hg) | (exfalso; omega) | (have hT : True := hg; clear hT hg) | skip)))
 )
      refine ⟨(i + 1, d', t', ac, tr, hd), ?_, ?_, by refine weak_mkF hfr rfl rfl rfl ?_ ?_ <;> repeat (first | exact envW_nil | exact heapW_nil | refine envW_cons rfl rfl ?_ | refine heapW_cons rfl rfl rfl ?_)⟩
      · show _ - (i + 1) < _ - i; omega
      · exact ⟨hi, h2, by show t'.gr.length ≤ t.gr.length + (i + 1); omega, h4, by show ac.length ≤ i + 1; omega, by show tr.length ≤ i + 1; omega, by show hd.length ≤ i + 1; omega, h8⟩
  · rw [round_add w1, comb_comb] at h8
    rw [w1] at ap
    dsimp only at ap
    have hb : (t'.add gs[i] (t'.used + (divS t'.head gs[i]).1.length) (divS t'.head gs[i]).2.1).gr.length ≤ t.gr.length + (i + 1) ∧ ∀ x ∈ (t'.add gs[i] (t'.used + (divS t'.head gs[i]).1.length) (divS t'.head gs[i]).2.1).gr, x.length ≤ 40 := add_bd h3 h4 hgl
    generalize t'.add gs[i] (t'.used + (divS t'.head gs[i]).1.length) (divS t'.head gs[i]).2.1 = t2 at *
    repeat' (first
 | ((with_reducible apply (r_callO (f := 17) 0)); exact ap; exact rfl; exact rfl; exact rfl; exact rfl)
 | ((with_reducible apply (r_callqO (f := 33) 0)); exact c0; exact rfl; exact rfl; exact rfl; exact rfl; exact rfl)
 | ((with_reducible apply r_litq); exact rfl; exact rfl; exact rfl; exact rfl; exact rfl; exact rfl; exact rfl)
 | ((with_reducible apply (r_appendl (enc := grC) (l := ac) (l2 := [gs[i]]))); exact rfl; exact rfl; exact inferInstance; exact rfl; exact rfl; exact (by show ac.length + 1 < _; omega); exact (by show (ac.length + 1) * _ ≤ _; omega); exact rfl)
 | ((with_reducible apply (r_appendl (enc := grC) (l := tr) (l2 := [gs[i]]))); exact rfl; exact rfl; exact inferInstance; exact rfl; exact rfl; exact (by show tr.length + 1 < _; omega); exact (by show (tr.length + 1) * _ ≤ _; omega); exact rfl)
 | ((with_reducible apply (r_appendl (enc := hdC) (l := hd) (l2 := [t'.head]))); exact rfl; exact rfl; exact inferInstance; exact rfl; exact rfl; exact (by show hd.length + 1 < _; omega); exact (by show (hd.length + 1) * _ ≤ _; omega); exact rfl)
 | ((with_reducible apply aw_seq))
 | ((with_reducible apply aw_region))
 | ((with_reducible apply aw_block))
 | ((with_reducible apply thn_normal))
 | ((with_reducible apply inb_normal))
 | ((with_reducible apply aw_skip))
 | ((with_reducible apply ao_nil))
 | ((with_reducible apply r_move); exact rfl; exact rfl)
 | ((with_reducible apply r_assign); exact rfl; exact rfl)
 | ((with_reducible apply r_lss); exact rfl; exact rfl; exact rfl)
 | ((with_reducible apply r_eql); exact rfl; exact rfl; exact rfl)
 | ((with_reducible apply r_neq); exact rfl; exact rfl; exact rfl)
 | ((with_reducible apply r_add); exact rfl; exact rfl; exact (by first | assumption | (unfold fits; omega)); exact rfl)
 | ((with_reducible apply r_pick_f); exact rfl; exact rfl; exact rfl)
 | ((with_reducible apply r_len_f); exact rfl; exact inferInstance; exact rfl)
 | ((with_reducible apply r_index_f); exact rfl; exact inferInstance; exact rfl; exact rfl; (first | assumption | omega); exact rfl)
 | ((with_reducible apply r_load_f0); exact rfl; exact inferInstance; exact List.getElem?_eq_getElem (by first | assumption | omega); exact rfl; exact rfl)
 | (((with_reducible apply r_guard); exact rfl; exact rfl; exact rfl; exact rfl) <;> intro hg <;> (first | (exact absurd hg (by decide)) | ((try simp only [decide_eq_true_eq, decide_eq_false_iff_not, Bool.not_eq_true', Bool.not_eq_false', Bool.not_true, Bool.not_false, Bool.not_not, Int.not_lt, Int.not_le, Nat.not_lt, Nat.not_le, gt_iff_lt, ge_iff_le, List.cons.injEq, and_true] at hg); first | (exact absurd trivial hg) | (exfalso; omega) | (have hT : True := hg; clear hT hg) | skip)))
 | (((with_reducible apply aw_cond); exact rfl) <;> intro hg <;> (first | (exact absurd hg (by decide)) | ((try simp only [decide_eq_true_eq, decide_eq_false_iff_not, Bool.not_eq_true', Bool.not_eq_false', Bool.not_true, Bool.not_false, Bool.not_not, Int.not_lt, Int.not_le, Nat.not_lt, Nat.not_le, gt_iff_lt, ge_iff_le, List.cons.injEq, and_true] at hg); first | (exact absurd trivial hg) | (exfalso; omega) | (have hT : True := hg; clear hT hg) | skip)))
 )
    rw [show ac.length + [gs[i]].length = (ac ++ [gs[i]]).length by simp, show tr.length + [gs[i]].length = (tr ++ [gs[i]]).length by simp, show hd.length + [t'.head].length = (hd ++ [t'.head]).length by simp]
    refine ⟨(i + 1, d2, t2, ac ++ [gs[i]], tr ++ [gs[i]], hd ++ [t'.head]), ?_, ?_, by refine weak_mkF hfr rfl rfl rfl ?_ ?_ <;> repeat (first | exact envW_nil | exact heapW_nil | refine envW_cons rfl rfl ?_ | refine heapW_cons rfl rfl rfl ?_)⟩
    · show _ - (i + 1) < _ - i; omega
    · exact ⟨hi, w2, hb.1, hb.2, by show (ac ++ [gs[i]]).length ≤ i + 1; simp; omega, by show (tr ++ [gs[i]]).length ≤ i + 1; simp; omega, by show (hd ++ [t'.head]).length ≤ i + 1; simp; omega, h8⟩
  · rw [round_fail w1] at h8
    obtain ⟨c1, hc1⟩ : ∃ c1, c1 + 5000 = c + 5000 * gs.length := ⟨c + 5000 * gs.length - 5000, by omega⟩
    have ap := append_dj (gl := gl) d' c1 kd kj t' gs[i] (by omega) (by omega) (by omega) hhd (by omega) (by omega) (by omega)
    have c0 := (head_j (gl := gl) kd t').right ((dskP d' c1).at kd) kj
    rw [hc1] at ap
    rw [w1] at ap
    dsimp only at ap
    rw [h8]
    unfold comb
    dsimp only
    rw [List.append_nil]
    have cs := append_stop (gl := gl) d2 (c + 5000 * gs.length) kd kj { t' with stop := true } gs[i] rfl
    refine aw_objW 0 (DJ d' c1 kd kj t') rfl (DJ_mono (by omega)) ?_
    repeat' (first
 | ((with_reducible apply (r_callO (f := 17) 0)); exact ap; exact rfl; exact rfl; exact rfl; exact rfl)
 | ((with_reducible apply (r_callqO (f := 17) 0)); exact cs; exact rfl; exact rfl; exact rfl; exact rfl; exact rfl)
 | ((with_reducible apply (r_callqO (f := 33) 0)); exact c0; exact rfl; exact rfl; exact rfl; exact rfl; exact rfl)
 | ((with_reducible apply r_litq); exact rfl; exact rfl; exact rfl; exact rfl; exact rfl; exact rfl; exact rfl)
 | ((with_reducible apply (r_appendl (enc := grC) (l := tr) (l2 := [gs[i]]))); exact rfl; exact rfl; exact inferInstance; exact rfl; exact rfl; exact (by show tr.length + 1 < _; omega); exact (by show (tr.length + 1) * _ ≤ _; omega); exact rfl)
 | ((with_reducible apply (r_appendl (enc := hdC) (l := hd) (l2 := [t'.head]))); exact rfl; exact rfl; exact inferInstance; exact rfl; exact rfl; exact (by show hd.length + 1 < _; omega); exact (by show (hd.length + 1) * _ ≤ _; omega); exact rfl)
 | ((with_reducible apply aw_seq))
 | ((with_reducible apply aw_region))
 | ((with_reducible apply aw_block))
 | ((with_reducible apply thn_normal))
 | ((with_reducible apply thn_ret))
 | ((with_reducible apply inb_ret))
 | ((with_reducible apply aw_skip))
 | ((with_reducible apply aw_ret))
 | ((with_reducible apply ao_nil))
 | ((with_reducible apply r_move); exact rfl; exact rfl)
 | ((with_reducible apply r_assign); exact rfl; exact rfl)
 | ((with_reducible apply r_lss); exact rfl; exact rfl; exact rfl)
 | ((with_reducible apply r_eql); exact rfl; exact rfl; exact rfl)
 | ((with_reducible apply r_pick_f); exact rfl; exact rfl; exact rfl)
 | ((with_reducible apply r_len_f); exact rfl; exact inferInstance; exact rfl)
 | ((with_reducible apply r_index_f); exact rfl; exact inferInstance; exact rfl; exact rfl; (first | assumption | omega); exact rfl)
 | ((with_reducible apply r_load_f0); exact rfl; exact inferInstance; exact List.getElem?_eq_getElem (by first | assumption | omega); exact rfl; exact rfl)
 | (((with_reducible apply r_guard); exact rfl; exact rfl; exact rfl; exact rfl) <;> intro hg <;> (first | (exact absurd hg (by decide)) | ((try simp only [decide_eq_true_eq, decide_eq_false_iff_not, Bool.not_eq_true', Bool.not_eq_false', Bool.not_true, Bool.not_false, Bool.not_not, Int.not_lt, Int.not_le, Nat.not_lt, Nat.not_le, gt_iff_lt, ge_iff_le, List.cons.injEq, and_true] at hg); first | (exact absurd trivial hg) | (exfalso; omega) | (have hT : True := hg; clear hT hg) | skip)))
 | (((with_reducible apply aw_cond); exact rfl) <;> intro hg <;> (first | (exact absurd hg (by decide)) | ((try simp only [decide_eq_true_eq, decide_eq_false_iff_not, Bool.not_eq_true', Bool.not_eq_false', Bool.not_true, Bool.not_false, Bool.not_not, Int.not_lt, Int.not_le, Nat.not_lt, Nat.not_le, gt_iff_lt, ge_iff_le, List.cons.injEq, and_true] at hg); first | (exact absurd trivial hg) | (exfalso; omega) | (have hT : True := hg; clear hT hg) | skip)))
 | (refine aw_drawq ?_ ?_; (kernel_rfl))
 | ((with_reducible apply ds_nil))
 )
    all_goals exact ⟨ret2 (.cons (.tmp rfl (cl_vec rfl (flat_len EncL.len _))) (.cons (.tmp rfl cl_c) (.cons (.tmp rfl (cl_vec rfl (by rw [flat_len EncL.len]; simp))) (.cons (.tmp rfl (cl_vec rfl (by rw [flat_len EncL.len]; simp))) (.cons (.tmp rfl cl_c) .nil))))), rfl, rfl⟩
theorem crashed_o (d : DS) (c kd : Nat) (m : Int) (hm : 0 ≤ m ∧ m < 18446744073709551616) (hc : c ≤ 900000) (hf : Fine (crashS d m)) (hu : (crashS d m).down = false) : OConE Try.prog gl 37 [.p, .c (U m)] ((dskP d c).at kd) (fun kj : Nat => ptrV kj 0) (fun kj => DJ (crashS d m) (c + 2) kd kj (openD (crashS d m))) := by
  have c0 := again_up (gl := gl) (crashS d m) (c + 2) kd hu hf
  have c1 := (dsk_down (gl := gl) d c).at0 kd
  refine oconE_of Try.func37 rfl (by kernel_rfl) rfl (by intro x hx h e; subst e; first | (simp at hx; done) | (intro g; simp at hx; subst hx; rfl)) ?_
  intro fr hfr
  simp only [Try.ntmps37, Try.results37, argEnvO, avOf, of1, List.map]
  cases hd : d.down with
  | true =>
    rw [hd] at c1
    have c2 := (dsk_recover (gl := gl) d (c + 1)).at0 kd
    have e : d.recover = (crashS d m, 0) := by
      rw [crashS_down m hd]; unfold DS.recover; rw [hd, if_pos rfl]
    rw [e] at c2
    dsimp only at c2
    refine aw_objW 0 ((dskP d (c + 1)).at kd) rfl (at_mono (by omega)) ?_
    have c1 := (dsk_down (gl := gl) d (c + 1)).at0 kd
    rw [hd] at c1
    repeat' (first
 | ((with_reducible apply (r_callqO (f := 60) 0)); exact c1; exact rfl; exact rfl; exact rfl; exact rfl; exact rfl)
 | ((with_reducible apply (r_callO (f := 62) 0)); exact c2; exact rfl; exact rfl; exact rfl; exact rfl)
 | ((with_reducible apply aw_seq))
 | ((with_reducible apply aw_region))
 | ((with_reducible apply thn_normal))
 | ((with_reducible apply aw_skip))
 | ((with_reducible apply ao_nil))
 | ((with_reducible apply r_move); exact rfl; exact rfl)
 | ((with_reducible apply r_assign); exact rfl; exact rfl)
 | ((with_reducible apply r_neq); exact rfl; exact rfl; exact rfl)
 | ((with_reducible apply r_pick_f); exact rfl; exact rfl; exact rfl)
 | ((with_reducible apply r_not); exact rfl; exact rfl)
 | (((with_reducible apply r_guard); exact rfl; exact rfl; exact rfl; exact rfl) <;> intro hg <;> (first | (exact absurd hg (by decide)) | ((try simp only [decide_eq_true_eq, decide_eq_false_iff_not, Bool.not_eq_true', Bool.not_eq_false', Bool.not_true, Bool.not_false, Bool.not_not, Int.not_lt, Int.not_le, Nat.not_lt, Nat.not_le, gt_iff_lt, ge_iff_le, List.cons.injEq, and_true] at hg); first | (exact absurd trivial hg) | (exfalso; omega) | (have hT : True := hg; clear hT hg) | skip)))
 | (((with_reducible apply aw_cond); exact rfl) <;> intro hg <;> (first | (exact absurd hg (by decide)) | ((try simp only [decide_eq_true_eq, decide_eq_false_iff_not, Bool.not_eq_true', Bool.not_eq_false', Bool.not_true, Bool.not_false, Bool.not_not, Int.not_lt, Int.not_le, Nat.not_lt, Nat.not_le, gt_iff_lt, ge_iff_le, List.cons.injEq, and_true] at hg); first | (exact absurd trivial hg) | (exfalso; omega) | (have hT : True := hg; clear hT hg) | skip)))
 )
    refine r_callOE (f := 25) 0 c0 rfl rfl rfl rfl (fun kj => ?_)
    repeat' (first
 | ((with_reducible apply thn_normal))
 | ((with_reducible apply aw_ret))
 | ((with_reducible apply ao_nil))
 | ((with_reducible apply r_assign); exact rfl; exact rfl)
 )
    all_goals exact ret_o kj (ret1 (.tmp rfl cl_c)) rfl rfl
  | false =>
    rw [hd] at c1
    have c2 := (dsk_crash (gl := gl) d c (by omega) m hm).at0 kd
    have e1 : d.hit m = (d.crash m, 0) := by unfold DS.hit; rw [hd, if_neg (by decide)]
    rw [e1] at c2
    dsimp only at c2
    have c3 := (dsk_recover (gl := gl) (d.crash m) (c + 1)).at0 kd
    have e : (d.crash m).recover = (crashS d m, 0) := by
      rw [crashS_up m hd]; rfl
    rw [e] at c3
    dsimp only at c3
    repeat' (first
 | ((with_reducible apply (r_callqO (f := 60) 0)); exact c1; exact rfl; exact rfl; exact rfl; exact rfl; exact rfl)
 | ((with_reducible apply (r_callO (f := 61) 0)); exact c2; exact rfl; exact rfl; exact rfl; exact rfl)
 | ((with_reducible apply (r_callO (f := 62) 0)); exact c3; exact rfl; exact rfl; exact rfl; exact rfl)
 | ((with_reducible apply aw_seq))
 | ((with_reducible apply aw_region))
 | ((with_reducible apply thn_normal))
 | ((with_reducible apply aw_skip))
 | ((with_reducible apply ao_nil))
 | ((with_reducible apply r_move); exact rfl; exact rfl)
 | ((with_reducible apply r_assign); exact rfl; exact rfl)
 | ((with_reducible apply r_neq); exact rfl; exact rfl; exact rfl)
 | ((with_reducible apply r_pick_t); exact rfl; exact rfl; exact rfl)
 | ((with_reducible apply r_pick_f); exact rfl; exact rfl; exact rfl)
 | ((with_reducible apply r_not); exact rfl; exact rfl)
 | (((with_reducible apply r_guard); exact rfl; exact rfl; exact rfl; exact rfl) <;> intro hg <;> (first | (exact absurd hg (by decide)) | ((try simp only [decide_eq_true_eq, decide_eq_false_iff_not, Bool.not_eq_true', Bool.not_eq_false', Bool.not_true, Bool.not_false, Bool.not_not, Int.not_lt, Int.not_le, Nat.not_lt, Nat.not_le, gt_iff_lt, ge_iff_le, List.cons.injEq, and_true] at hg); first | (exact absurd trivial hg) | (exfalso; omega) | (have hT : True := hg; clear hT hg) | skip)))
 | (((with_reducible apply aw_cond); exact rfl) <;> intro hg <;> (first | (exact absurd hg (by decide)) | ((try simp only [decide_eq_true_eq, decide_eq_false_iff_not, Bool.not_eq_true', Bool.not_eq_false', Bool.not_true, Bool.not_false, Bool.not_not, Int.not_lt, Int.not_le, Nat.not_lt, Nat.not_le, gt_iff_lt, ge_iff_le, List.cons.injEq, and_true] at hg); first | (exact absurd trivial hg) | (exfalso; omega) | (have hT : True := hg; clear hT hg) | skip)))
 )
    refine r_callOE (f := 25) 0 c0 rfl rfl rfl rfl (fun kj => ?_)
    repeat' (first
 | ((with_reducible apply thn_normal))
 | ((with_reducible apply aw_ret))
 | ((with_reducible apply ao_nil))
 | ((with_reducible apply r_assign); exact rfl; exact rfl)
 )
    all_goals exact ret_o kj (ret1 (.tmp rfl cl_c)) rfl rfl
def aftS (t : JS) (gs : List (List ByteArray)) : List (List ByteArray) → List (List ByteArray) × Bool
  | [] => ([], false)
  | f :: fs => if isS t (gs ++ [f]) = true then (gs ++ [f], true) else aftS t gs fs
def afterS (t : JS) (gs fs : List (List ByteArray)) : List (List ByteArray) × Bool := if isS t gs = true then (gs, true) else aftS t gs fs
theorem after_dj (d : DS) (c kd kj : Nat) (t : JS) (gs fs : List (List ByteArray)) (h1 : gs.length ≤ 1000) (h2 : ∀ g ∈ gs, g.length ≤ 40) (h3 : fs.length ≤ 1000) (h4 : ∀ g ∈ fs, g.length ≤ 40) (hr : t.recs.length ≤ 1000000) (hgr : t.gr.length ≤ 1000000) :
    OCon Try.prog gl 39 [.c (ptrV kj 0), .c (LG gs), .c (LG fs)] (DJ d c kd kj t) (.tup [LG (afterS t gs fs).1, BO (afterS t gs fs).2]) (DJ d c kd kj t) := by
  have c0 := is_dj (gl := gl) d c kd kj t gs (by omega) (fun i hi => by have := h2 gs[i] (List.getElem_mem hi); omega) (by omega) (by omega)
  unfold afterS
  refine ocon_of Try.func39 rfl (by kernel_rfl) rfl (by intro x hx h e; subst e; first | (simp at hx; done) | (intro g; simp at hx; subst hx; rfl)) ?_
  intro fr hfr
  simp only [Try.ntmps39, Try.results39, argEnvO, avOf, of1, List.map]
  cases hi : isS t gs with
  | true =>
    rw [hi] at c0
    rw [if_pos rfl]
    repeat' (first
 | ((with_reducible apply (r_callqO (f := 26) 0)); exact c0; exact rfl; exact rfl; exact rfl; exact rfl; exact rfl)
 | ((with_reducible apply aw_seq))
 | ((with_reducible apply aw_region))
 | ((with_reducible apply thn_normal))
 | ((with_reducible apply thn_ret))
 | ((with_reducible apply aw_ret))
 | ((with_reducible apply ao_nil))
 | ((with_reducible apply r_move); exact rfl; exact rfl)
 | ((with_reducible apply r_assign); exact rfl; exact rfl)
 | (((with_reducible apply aw_cond); exact rfl) <;> intro hg <;> (first | (exact absurd hg (by decide)) | ((try simp only [decide_eq_true_eq, decide_eq_false_iff_not, Bool.not_eq_true', Bool.not_eq_false', Bool.not_true, Bool.not_false, Bool.not_not, Int.not_lt, Int.not_le, Nat.not_lt, Nat.not_le, gt_iff_lt, ge_iff_le, List.cons.injEq, and_true] at hg); first | (exact absurd trivial hg) | (exfalso; omega) | (have hT : True := hg; clear hT hg) | skip)))
 )
    all_goals exact ⟨ret2 (.cons (.tmp rfl cl_c) (.cons (.tmp rfl cl_c) .nil)), rfl, rfl⟩
  | false =>
    rw [hi] at c0
    rw [if_neg (by decide)]
    repeat' (first
 | ((with_reducible apply (r_callqO (f := 26) 0)); exact c0; exact rfl; exact rfl; exact rfl; exact rfl; exact rfl)
 | ((with_reducible apply aw_seq))
 | ((with_reducible apply aw_region))
 | ((with_reducible apply aw_block))
 | ((with_reducible apply thn_normal))
 | ((with_reducible apply aw_skip))
 | ((with_reducible apply ao_nil))
 | ((with_reducible apply r_move); exact rfl; exact rfl)
 | ((with_reducible apply r_assign); exact rfl; exact rfl)
 | (((with_reducible apply aw_cond); exact rfl) <;> intro hg <;> (first | (exact absurd hg (by decide)) | ((try simp only [decide_eq_true_eq, decide_eq_false_iff_not, Bool.not_eq_true', Bool.not_eq_false', Bool.not_true, Bool.not_false, Bool.not_not, Int.not_lt, Int.not_le, Nat.not_lt, Nat.not_le, gt_iff_lt, ge_iff_le, List.cons.injEq, and_true] at hg); first | (exact absurd trivial hg) | (exfalso; omega) | (have hT : True := hg; clear hT hg) | skip)))
 )
    refine aw_loopG (G := Nat) (fun (i : Nat) => i ≤ fs.length ∧ aftS t gs fs = aftS t gs (fs.drop i)) (fun (i : Nat) => fs.length - i) (fun (i : Nat) => [(0, .c (ptrV kj 0)), (1, .c (LG gs)), (2, .c (LG fs)), (8, A i)]) (fun (i : Nat) => [(1, fr), (0, some (.obj (DJ d c kd kj t)))]) 2 0 ?_ (by refine weak_mkF hfr rfl rfl rfl ?_ ?_ <;> repeat (first | exact envW_nil | exact heapW_nil | refine envW_cons rfl rfl ?_ | refine heapW_cons rfl rfl rfl ?_)) rfl ?_
    · exact ⟨Nat.zero_le _, by rw [List.drop_zero]⟩
    rintro i hI
    try dsimp only at hI
    try dsimp only
    obtain ⟨q1, q2⟩ := hI
    by_cases hi : i < fs.length
    rotate_left
    · rw [List.drop_eq_nil_of_le (by omega), aftS] at q2
      rw [q2]
      repeat' (first
 | ((with_reducible apply aw_seq))
 | ((with_reducible apply aw_region))
 | ((with_reducible apply thn_normal))
 | ((with_reducible apply thn_exit))
 | ((with_reducible apply inb_exit))
 | ((with_reducible apply aw_exit))
 | ((with_reducible apply aw_ret))
 | ((with_reducible apply ao_nil))
 | ((with_reducible apply r_move); exact rfl; exact rfl)
 | ((with_reducible apply r_assign); exact rfl; exact rfl)
 | ((with_reducible apply r_lss); exact rfl; exact rfl; exact rfl)
 | ((with_reducible apply r_len_f); exact rfl; exact inferInstance; exact rfl)
 | (((with_reducible apply aw_cond); exact rfl) <;> intro hg <;> (first | (exact absurd hg (by decide)) | ((try simp only [decide_eq_true_eq, decide_eq_false_iff_not, Bool.not_eq_true', Bool.not_eq_false', Bool.not_true, Bool.not_false, Bool.not_not, Int.not_lt, Int.not_le, Nat.not_lt, Nat.not_le, gt_iff_lt, ge_iff_le, List.cons.injEq, and_true] at hg); first | (exact absurd trivial hg) | (exfalso; omega) | (have hT : True := hg; clear hT hg) | skip)))
 )
      all_goals exact ⟨ret2 (.cons (.tmp rfl cl_none) (.cons (.tmp rfl cl_c) .nil)), rfl, rfl⟩
    rw [List.drop_eq_getElem_cons hi, aftS] at q2
    have c1 := with_con (gl := gl) gs fs[i] (by omega)
    have hf := h4 fs[i] (List.getElem_mem hi)
    have c2 := is_dj (gl := gl) d c kd kj t (gs ++ [fs[i]]) (by rw [List.length_append, List.length_singleton]; omega) (fun j hj => by
      have hm : (gs ++ [fs[i]])[j] ∈ gs ++ [fs[i]] := List.getElem_mem hj
      rcases List.mem_append.1 hm with hm | hm
      · have := h2 _ hm; omega
      · rw [List.mem_singleton.1 hm]; omega) (by omega) (by omega)
    cases hb : isS t (gs ++ [fs[i]]) with
    | true =>
      rw [hb] at c2
      rw [hb, if_pos rfl] at q2
      rw [q2]
      repeat' (first
 | ((with_reducible apply (r_callqO (f := 26) 0)); exact c2; exact rfl; exact rfl; exact rfl; exact rfl; exact rfl)
 | ((with_reducible apply (r_call (f := 19))); exact rfl; exact rfl; exact c1; exact rfl; exact rfl)
 | ((with_reducible apply aw_seq))
 | ((with_reducible apply aw_region))
 | ((with_reducible apply aw_block))
 | ((with_reducible apply thn_normal))
 | ((with_reducible apply thn_ret))
 | ((with_reducible apply inb_ret))
 | ((with_reducible apply aw_skip))
 | ((with_reducible apply aw_ret))
 | ((with_reducible apply ao_nil))
 | ((with_reducible apply r_move); exact rfl; exact rfl)
 | ((with_reducible apply r_assign); exact rfl; exact rfl)
 | ((with_reducible apply r_lss); exact rfl; exact rfl; exact rfl)
 | ((with_reducible apply r_len_f); exact rfl; exact inferInstance; exact rfl)
 | ((with_reducible apply r_index_f); exact rfl; exact inferInstance; exact rfl; exact rfl; (first | assumption | omega); exact rfl)
 | ((with_reducible apply r_load_f0); exact rfl; exact inferInstance; exact List.getElem?_eq_getElem (by first | assumption | omega); exact rfl; exact rfl)
 | (((with_reducible apply aw_cond); exact rfl) <;> intro hg <;> (first | (exact absurd hg (by decide)) | ((try simp only [decide_eq_true_eq, decide_eq_false_iff_not, Bool.not_eq_true', Bool.not_eq_false', Bool.not_true, Bool.not_false, Bool.not_not, Int.not_lt, Int.not_le, Nat.not_lt, Nat.not_le, gt_iff_lt, ge_iff_le, List.cons.injEq, and_true] at hg); first | (exact absurd trivial hg) | (exfalso; omega) | (have hT : True := hg; clear hT hg) | skip)))
 )
      all_goals exact ⟨ret2 (.cons (.tmp rfl cl_c) (.cons (.tmp rfl cl_c) .nil)), rfl, rfl⟩
    | false =>
      rw [hb] at c2
      rw [hb, if_neg (by decide)] at q2
      repeat' (first
 | ((with_reducible apply (r_callqO (f := 26) 0)); exact c2; exact rfl; exact rfl; exact rfl; exact rfl; exact rfl)
 | ((with_reducible apply (r_call (f := 19))); exact rfl; exact rfl; exact c1; exact rfl; exact rfl)
 | ((with_reducible apply aw_seq))
 | ((with_reducible apply aw_region))
 | ((with_reducible apply aw_block))
 | ((with_reducible apply thn_normal))
 | ((with_reducible apply inb_normal))
 | ((with_reducible apply aw_skip))
 | ((with_reducible apply ao_nil))
 | ((with_reducible apply r_move); exact rfl; exact rfl)
 | ((with_reducible apply r_assign); exact rfl; exact rfl)
 | ((with_reducible apply r_lss); exact rfl; exact rfl; exact rfl)
 | ((with_reducible apply r_add); exact rfl; exact rfl; exact (by first | assumption | (unfold fits; omega)); exact rfl)
 | ((with_reducible apply r_len_f); exact rfl; exact inferInstance; exact rfl)
 | ((with_reducible apply r_index_f); exact rfl; exact inferInstance; exact rfl; exact rfl; (first | assumption | omega); exact rfl)
 | ((with_reducible apply r_load_f0); exact rfl; exact inferInstance; exact List.getElem?_eq_getElem (by first | assumption | omega); exact rfl; exact rfl)
 | (((with_reducible apply aw_cond); exact rfl) <;> intro hg <;> (first | (exact absurd hg (by decide)) | ((try simp only [decide_eq_true_eq, decide_eq_false_iff_not, Bool.not_eq_true', Bool.not_eq_false', Bool.not_true, Bool.not_false, Bool.not_not, Int.not_lt, Int.not_le, Nat.not_lt, Nat.not_le, gt_iff_lt, ge_iff_le, List.cons.injEq, and_true] at hg); first | (exact absurd trivial hg) | (exfalso; omega) | (have hT : True := hg; clear hT hg) | skip)))
 )
      refine ⟨i + 1, ?_, ?_, by refine weak_mkF hfr rfl rfl rfl ?_ ?_ <;> repeat (first | exact envW_nil | exact heapW_nil | refine envW_cons rfl rfl ?_ | refine heapW_cons rfl rfl rfl ?_)⟩
      · show _ - (i + 1) < _ - i; omega
      · exact ⟨hi, q2⟩
end Go.Proofs.Ythkjkhffljlidaa.Jo
