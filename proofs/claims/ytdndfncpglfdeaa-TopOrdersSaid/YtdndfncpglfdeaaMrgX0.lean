/- TA TB TM TC TD: texts laid together. -/
import Derived.Test.YtdndfncpglfdeaaMrgE0
import Derived.Test.YtdndfncpglfdeaaMrgI0
import Derived.Test.YtdndfncpglfdeaaMrgE5
set_option maxRecDepth 100000
set_option maxHeartbeats 64000000
/- Boards for orders, plain: counts, a board more for an order, boards handed on. Nothing here names a program. -/
namespace Go.Proofs.Ytdndfncpglfdeaa.To
set_option linter.unusedVariables false
set_option linter.unusedSimpArgs false
abbrev Asg := Nat → Option Nat
def upd (f : Asg) (b : Nat) (x : Option Nat) : Asg := fun k => if k = b then x else f k
theorem upd_same (f : Asg) (b : Nat) (x : Option Nat) : upd f b x b = x := if_pos rfl
theorem upd_ne {f : Asg} {b k : Nat} {x : Option Nat} (h : k ≠ b) : upd f b x k = f k := if_neg h
theorem upd_upd (f : Asg) (b : Nat) (x y : Option Nat) : upd (upd f b x) b y = upd f b y := by
  funext k; unfold upd; split <;> rfl
theorem upd_self {f : Asg} {b : Nat} {x : Option Nat} (h : f b = x) : upd f b x = f := by
  funext k; unfold upd; split
  · rename_i e; rw [e, h]
  · rfl
def cnt (f : Asg) (i : Nat) : Nat → Nat
  | 0 => 0
  | n + 1 => cnt f i n + if f n = some i then 1 else 0
theorem cnt_same {f g : Asg} {i : Nat} : ∀ {n : Nat}, (∀ b, b < n → (f b = some i ↔ g b = some i)) → cnt f i n = cnt g i n
  | 0, _ => rfl
  | n + 1, h => by
    unfold cnt
    rw [cnt_same (fun b hb => h b (by omega))]
    have := h n (by omega)
    by_cases hf : f n = some i
    · rw [if_pos hf, if_pos (this.1 hf)]
    · rw [if_neg hf, if_neg (fun hg => hf (this.2 hg))]
theorem cnt_set {f : Asg} {b : Nat} (i j : Nat) (h0 : f b = none) : ∀ {n : Nat}, b < n → cnt (upd f b (some i)) j n = cnt f j n + if j = i then 1 else 0
  | 0, h => absurd h (Nat.not_lt_zero _)
  | n + 1, h => by
    unfold cnt
    by_cases hb : b = n
    · subst hb
      rw [upd_same, h0, cnt_same (g := f) (fun k hk => by rw [upd_ne (by omega)])]
      by_cases e : j = i
      · subst e; simp
      · have e' : ¬ i = j := fun h => e h.symm
        simp [e, e']
    · rw [upd_ne (fun e => hb e.symm), cnt_set i j h0 (n := n) (by omega)]
      omega
theorem cnt_del {f : Asg} {b i : Nat} (j : Nat) (h0 : f b = some i) {n : Nat} (h : b < n) : cnt (upd f b none) j n + (if j = i then 1 else 0) = cnt f j n := by
  have := cnt_set (f := upd f b none) (b := b) i j (upd_same ..) h
  rw [upd_upd, upd_self h0] at this
  omega
theorem cnt_le (f : Asg) (i : Nat) : ∀ n, cnt f i n ≤ n
  | 0 => Nat.le_refl _
  | n + 1 => by
    unfold cnt
    have := cnt_le f i n
    split <;> omega
def fit (F : List (List Bool)) (i b : Nat) : Bool := (F.getD i []).getD b false
structure Ok (F : List (List Bool)) (B : Nat) (f : Asg) : Prop where
  h : ∀ b i, f b = some i → b < B ∧ i < F.length ∧ fit F i b = true
theorem Ok.set {F : List (List Bool)} {B : Nat} {f : Asg} (h : Ok F B f) {b i : Nat} (hb : b < B) (hi : i < F.length) (hf : fit F i b = true) : Ok F B (upd f b (some i)) := ⟨fun k j hk => by
  by_cases e : k = b
  · subst e; rw [upd_same] at hk; cases hk; exact ⟨hb, hi, hf⟩
  · rw [upd_ne e] at hk; exact h.h k j hk⟩
theorem Ok.del {F : List (List Bool)} {B : Nat} {f : Asg} (h : Ok F B f) (b : Nat) : Ok F B (upd f b none) := ⟨fun k j hk => by
  by_cases e : k = b
  · subst e; rw [upd_same] at hk; cases hk
  · rw [upd_ne e] at hk; exact h.h k j hk⟩
structure More (F : List (List Bool)) (B first order : Nat) (f g : Asg) : Prop where
  ok : Ok F B g
  cnt : ∀ j, cnt g j B = cnt f j B + if j = order then 1 else 0
  same : ∀ b, b < first → g b = f b
def Stuck (F : List (List Bool)) (B first order : Nat) (f : Asg) : Prop :=
  ∃ q : List Nat, q.Nodup ∧ order ∈ q ∧ (∀ i ∈ q, i ≠ order → ∃ b, f b = some i) ∧ ∀ i ∈ q, ∀ b, first ≤ b → b < B → fit F i b = true → ∃ j ∈ q, f b = some j
structure Bfs (F : List (List Bool)) (B first order : Nat) (f : Asg) (q : List Nat) (P : Nat) (vis : Asg) (gv : List Int) : Prop where
  nodup : q.Nodup
  head : q[0]? = some order
  lt : ∀ i ∈ q, i < F.length
  seen : ∀ b i, vis b = some i → b < B ∧ first ≤ b ∧ fit F i b = true ∧ (∃ s, s < P ∧ q[s]? = some i) ∧ ∃ j ∈ q, f b = some j
  len : gv.length = F.length
  neg : ∀ i, i < F.length → gv.getD i 0 < 0 → i ∈ q → i = order
  ord : gv.getD order 0 < 0
  giv : ∀ i, i < F.length → 0 ≤ gv.getD i 0 → ∃ b s t j : Nat, gv.getD i 0 = (b : Int) ∧ f b = some i ∧ q[s]? = some i ∧ t < s ∧ q[t]? = some j ∧ vis b = some j
  bd : ∀ i, i < F.length → -1 ≤ gv.getD i 0 ∧ gv.getD i 0 < B
def Seen (F : List (List Bool)) (first k i : Nat) (vis : Asg) : Prop := ∀ b, first ≤ b → b < k → fit F i b = true → vis b ≠ none
theorem Seen.upd {F : List (List Bool)} {first k i : Nat} {vis : Asg} (h : Seen F first k i vis) (b j : Nat) : Seen F first k i (upd vis b (some j)) := fun c h1 h2 h3 => by
  by_cases e : c = b
  · subst e; rw [upd_same]; simp
  · rw [upd_ne e]; exact h c h1 h2 h3
theorem bfs_start {F : List (List Bool)} {B first order : Nat} (f : Asg) (ho : order < F.length) : Bfs F B first order f [order] 0 (fun _ => none) (List.replicate F.length (-1)) := by
  have hg : ∀ i, i < F.length → (List.replicate F.length (-1 : Int)).getD i 0 = -1 := fun i hi => by
    rw [List.getD_eq_getElem?_getD, List.getElem?_replicate, if_pos hi]; rfl
  refine ⟨by simp, rfl, fun i hi => by simp at hi; omega, fun b i h => by simp at h, by simp, fun i _ _ hq => by simpa using hq, by rw [hg _ ho]; decide, fun i hi h => ?_, fun i hi => by rw [hg i hi]; omega⟩
  rw [hg i hi] at h; omega
theorem Bfs.next {F : List (List Bool)} {B first order : Nat} {f : Asg} {q : List Nat} {P : Nat} {vis : Asg} {gv : List Int} (h : Bfs F B first order f q P vis gv) : Bfs F B first order f q (P + 1) vis gv :=
  ⟨h.nodup, h.head, h.lt, fun b i hb => by
    obtain ⟨h1, h2, h3, ⟨s, h4, h5⟩, h6⟩ := h.seen b i hb
    exact ⟨h1, h2, h3, ⟨s, by omega, h5⟩, h6⟩, h.len, h.neg, h.ord, h.giv, h.bd⟩
theorem Bfs.visit {F : List (List Bool)} {B first order : Nat} {f : Asg} {q : List Nat} {P : Nat} {vis : Asg} {gv : List Int} (h : Bfs F B first order f q (P + 1) vis gv) {b i o : Nat} (hi : q[P]? = some i) (hb : first ≤ b ∧ b < B) (hf : fit F i b = true) (hv : vis b = none) (ho : f b = some o) (hq : o ∈ q) : Bfs F B first order f q (P + 1) (upd vis b (some i)) gv := by
  refine ⟨h.nodup, h.head, h.lt, fun c j hc => ?_, h.len, h.neg, h.ord, fun c hc h0 => ?_, h.bd⟩
  · by_cases e : c = b
    · subst e; rw [upd_same] at hc; cases hc
      exact ⟨hb.2, hb.1, hf, ⟨P, Nat.lt_succ_self _, hi⟩, o, hq, ho⟩
    · rw [upd_ne e] at hc; exact h.seen c j hc
  · obtain ⟨x, s, t, j, h1, h2, h3, h4, h5, h6⟩ := h.giv c hc h0
    refine ⟨x, s, t, j, h1, h2, h3, h4, h5, ?_⟩
    rw [upd_ne (fun e => by rw [e, hv] at h6; cases h6)]; exact h6
theorem getD_set_ne {l : List Int} {i j : Nat} {x : Int} (h : i ≠ j) : (l.set i x).getD j 0 = l.getD j 0 := by
  rw [List.getD_eq_getElem?_getD, List.getD_eq_getElem?_getD, List.getElem?_set, if_neg h]
theorem getD_set_eq {l : List Int} {i : Nat} {x : Int} (h : i < l.length) : (l.set i x).getD i 0 = x := by
  rw [List.getD_eq_getElem?_getD, List.getElem?_set, if_pos rfl, if_pos h]; rfl
theorem get_snoc_lt {q : List Nat} {s i : Nat} (o : Nat) (h : q[s]? = some i) : (q ++ [o])[s]? = some i := by
  have := (List.getElem?_eq_some_iff.1 h).1
  rw [List.getElem?_append_left this]; exact h
theorem Bfs.reach {F : List (List Bool)} {B first order : Nat} {f : Asg} {q : List Nat} {P : Nat} {vis : Asg} {gv : List Int} (h : Bfs F B first order f q (P + 1) vis gv) {b i o : Nat} (hi : q[P]? = some i) (hb : first ≤ b ∧ b < B) (hf : fit F i b = true) (hv : vis b = none) (ho : f b = some o) (hol : o < F.length) (hne : o ≠ order) (hg : gv.getD o 0 < 0) :
    Bfs F B first order f (q ++ [o]) (P + 1) (upd vis b (some i)) (gv.set o (b : Int)) := by
  have hnq : o ∉ q := fun hq => hne (h.neg o hol hg hq)
  have hP : P < q.length := (List.getElem?_eq_some_iff.1 hi).1
  have hgl : o < gv.length := by rw [h.len]; exact hol
  refine ⟨?_, get_snoc_lt o h.head, fun j hj => ?_, fun c j hc => ?_, by rw [List.length_set]; exact h.len, fun j hj h0 hq => ?_, ?_, fun j hj h0 => ?_, fun j hj => ?_⟩
  · rw [List.nodup_append]
    exact ⟨h.nodup, by simp, fun x hx y hy e => by simp at hy; subst hy; subst e; exact hnq hx⟩
  · rcases List.mem_append.1 hj with hj | hj
    · exact h.lt j hj
    · simp at hj; omega
  · by_cases e : c = b
    · subst e; rw [upd_same] at hc; cases hc
      exact ⟨hb.2, hb.1, hf, ⟨P, Nat.lt_succ_self _, get_snoc_lt o hi⟩, o, by simp, ho⟩
    · rw [upd_ne e] at hc
      obtain ⟨h1, h2, h3, ⟨s, h4, h5⟩, x, h6, h7⟩ := h.seen c j hc
      exact ⟨h1, h2, h3, ⟨s, h4, get_snoc_lt o h5⟩, x, List.mem_append.2 (.inl h6), h7⟩
  · by_cases e : o = j
    · subst e; rw [getD_set_eq hgl] at h0; omega
    · rw [getD_set_ne e] at h0
      rcases List.mem_append.1 hq with hq | hq
      · exact h.neg j hj h0 hq
      · simp at hq; exact absurd hq.symm e
  · rw [getD_set_ne hne]; exact h.ord
  · by_cases e : o = j
    · subst e
      refine ⟨b, q.length, P, i, getD_set_eq hgl, ho, ?_, hP, get_snoc_lt o hi, upd_same ..⟩
      rw [List.getElem?_append_right (Nat.le_refl _), Nat.sub_self]; rfl
    · rw [getD_set_ne e] at h0 ⊢
      obtain ⟨x, s, t, k, h1, h2, h3, h4, h5, h6⟩ := h.giv j hj h0
      refine ⟨x, s, t, k, h1, h2, get_snoc_lt o h3, h4, get_snoc_lt o h5, ?_⟩
      rw [upd_ne (fun e => by rw [e, hv] at h6; cases h6)]; exact h6
  · by_cases e : o = j
    · subst e; rw [getD_set_eq hgl]; omega
    · rw [getD_set_ne e]; exact h.bd j hj
theorem Bfs.mem {F : List (List Bool)} {B first order : Nat} {f : Asg} {q : List Nat} {P : Nat} {vis : Asg} {gv : List Int} (h : Bfs F B first order f q P vis gv) {o : Nat} (ho : o < F.length) (hc : o = order ∨ 0 ≤ gv.getD o 0) : o ∈ q := by
  rcases hc with rfl | hc
  · exact List.mem_of_getElem? h.head
  · obtain ⟨x, s, t, k, h1, h2, h3, h4, h5, h6⟩ := h.giv o ho hc
    exact List.mem_of_getElem? h3
theorem Bfs.stuck {F : List (List Bool)} {B first order : Nat} {f : Asg} {q : List Nat} {P : Nat} {vis : Asg} {gv : List Int} (h : Bfs F B first order f q P vis gv) (hs : ∀ i ∈ q, Seen F first B i vis) : Stuck F B first order f := by
  refine ⟨q, h.nodup, List.mem_of_getElem? h.head, fun i hi hne => ?_, fun i hi b h1 h2 h3 => ?_⟩
  · have hlt := h.lt i hi
    rcases Int.lt_or_le (gv.getD i 0) 0 with h0 | h0
    · exact absurd (h.neg i hlt h0 hi) hne
    · obtain ⟨x, s, t, k, g1, g2, _⟩ := h.giv i hlt h0
      exact ⟨x, g2⟩
  · cases hv : vis b with
    | none => exact absurd hv (hs i hi b h1 h2 h3)
    | some j => exact (h.seen b j hv).2.2.2.2
structure Hand (F : List (List Bool)) (B first : Nat) (f : Asg) (q : List Nat) (vis : Asg) (gv : List Int) (board t : Nat) (g : Asg) : Prop where
  lt : board < B ∧ first ≤ board
  at_ : ∃ i, q[t]? = some i ∧ vis board = some i ∧ fit F i board = true
  ok : Ok F B (upd g board none)
  cnt : ∀ j, cnt (upd g board none) j B = cnt f j B
  same : ∀ b, b < first → g b = f b
  low : ∀ s i, s ≤ t → q[s]? = some i → 0 ≤ gv.getD i 0 → ∀ b : Nat, gv.getD i 0 = (b : Int) → g b = some i ∧ b ≠ board
theorem Bfs.hand {F : List (List Bool)} {B first order : Nat} {f : Asg} {q : List Nat} {P : Nat} {vis : Asg} {gv : List Int} (h : Bfs F B first order f q (P + 1) vis gv) (hok : Ok F B f) {b i : Nat} (hi : q[P]? = some i) (hb : first ≤ b ∧ b < B) (hf : fit F i b = true) (ho : f b = none) : Hand F B first f q (upd vis b (some i)) gv b P f := by
  refine ⟨⟨hb.2, hb.1⟩, ⟨i, hi, upd_same .., hf⟩, hok.del b, fun j => by rw [upd_self ho], fun _ _ => rfl, fun s j hs hj h0 c hc => ?_⟩
  obtain ⟨x, s', t, k, h1, h2, h3, h4, h5, h6⟩ := h.giv j (h.lt j (List.mem_of_getElem? hj)) h0
  have : x = c := by omega
  subst this
  exact ⟨h2, fun e => by rw [e, ho] at h2; cases h2⟩
structure Chain (F : List (List Bool)) (B first order : Nat) (q : List Nat) (vis : Asg) (gv : List Int) : Prop where
  nodup : q.Nodup
  head : q[0]? = some order
  lt : ∀ i ∈ q, i < F.length
  len : gv.length = F.length
  giv : ∀ s i, q[s]? = some i → i ≠ order → ∃ b t j : Nat, gv.getD i 0 = (b : Int) ∧ t < s ∧ q[t]? = some j ∧ vis b = some j ∧ b < B ∧ first ≤ b ∧ fit F j b = true
theorem Bfs.chain {F : List (List Bool)} {B first order : Nat} {f : Asg} {q : List Nat} {P : Nat} {vis : Asg} {gv : List Int} (h : Bfs F B first order f q P vis gv) {b i : Nat} (hv : vis b = none) : Chain F B first order q (upd vis b (some i)) gv := by
  refine ⟨h.nodup, h.head, h.lt, h.len, fun s j hs hne => ?_⟩
  have hm := List.mem_of_getElem? hs
  have hlt := h.lt j hm
  rcases Int.lt_or_le (gv.getD j 0) 0 with h0 | h0
  · exact absurd (h.neg j hlt h0 hm) hne
  · obtain ⟨x, s', t, k, h1, h2, h3, h4, h5, h6⟩ := h.giv j hlt h0
    have : s' = s := (List.getElem?_inj (List.getElem?_eq_some_iff.1 h3).1 h.nodup).1 (h3.trans hs.symm)
    subst this
    have hx : x ≠ b := fun e => by rw [e, hv] at h6; cases h6
    obtain ⟨r1, r2, r3, _⟩ := h.seen x k h6
    exact ⟨x, t, k, h1, h4, h5, by rw [upd_ne hx]; exact h6, r1, r2, r3⟩
theorem Hand.last {F : List (List Bool)} {B first order : Nat} {f : Asg} {q : List Nat} {vis : Asg} {gv : List Int} {board t : Nat} {g : Asg} (h : Hand F B first f q vis gv board t g) (hc : Chain F B first order q vis gv) (hv : vis board = some order) : More F B first order f (upd g board (some order)) := by
  obtain ⟨i, h1, h2, h3⟩ := h.at_
  rw [hv] at h2; cases h2
  have hm := List.mem_of_getElem? h1
  refine ⟨?_, fun j => ?_, fun b hb => ?_⟩
  · have := h.ok.set h.lt.1 (hc.lt _ hm) h3
    rwa [upd_upd] at this
  · have := cnt_set (f := upd g board none) (b := board) order j (upd_same ..) h.lt.1
    rw [upd_upd] at this
    rw [this, h.cnt j]
  · have := h.lt.2
    rw [upd_ne (by omega)]; exact h.same b hb
theorem Hand.step {F : List (List Bool)} {B first order : Nat} {f : Asg} {q : List Nat} {vis : Asg} {gv : List Int} {board t i : Nat} {g : Asg} (h : Hand F B first f q vis gv board t g) (hc : Chain F B first order q vis gv) (hv : vis board = some i) (hne : i ≠ order) :
    ∃ b t' : Nat, gv.getD i 0 = (b : Int) ∧ t' < t ∧ Hand F B first f q vis gv b t' (upd g board (some i)) := by
  obtain ⟨i', h1, h2, h3⟩ := h.at_
  rw [hv] at h2; cases h2
  obtain ⟨b, t', j, g1, g2, g3, g4, g5, g6, g7⟩ := hc.giv t i h1 hne
  obtain ⟨l1, l2⟩ := h.low t i (Nat.le_refl _) h1 (by omega) b g1
  have hm := List.mem_of_getElem? h1
  refine ⟨b, t', g1, g2, ⟨g5, g6⟩, ⟨j, g3, g4, g7⟩, ?_, fun k => ?_, fun c hb => ?_, fun s k hs hk h0 c hcc => ?_⟩
  · have := h.ok.set h.lt.1 (hc.lt _ hm) h3
    rw [upd_upd] at this
    exact this.del b
  · have e1 := cnt_set (f := upd g board none) (b := board) i k (upd_same ..) h.lt.1
    rw [upd_upd] at e1
    have e2 := cnt_del (f := upd g board (some i)) (b := b) (i := i) k (by rw [upd_ne l2]; exact l1) g5
    rw [h.cnt k] at e1
    omega
  · have := h.lt.2
    rw [upd_ne (by omega)]; exact h.same c hb
  · obtain ⟨m1, m2⟩ := h.low s k (by omega) hk h0 c hcc
    refine ⟨by rw [upd_ne m2]; exact m1, fun e => ?_⟩
    subst e
    rw [l1] at m1; cases m1
    have : s = t := (List.getElem?_inj (List.getElem?_eq_some_iff.1 hk).1 hc.nodup).1 (hk.trans h1.symm)
    omega
end Go.Proofs.Ytdndfncpglfdeaa.To
/- Boards for orders, plain: no other assignment serves the first order that differs better; boards that change places. Nothing here names a program. -/
namespace Go.Proofs.Ytdndfncpglfdeaa.To
set_option linter.unusedVariables false
set_option linter.unusedSimpArgs false
def tot (f : Asg) (q : List Nat) : Nat → Nat
  | 0 => 0
  | n + 1 => tot f q n + if (∃ i ∈ q, f n = some i) then 1 else 0
theorem sum_one (a : Nat → Nat) (x : Option Nat) : ∀ (q : List Nat), q.Nodup → (q.map (fun i => a i + if x = some i then 1 else 0)).sum = (q.map a).sum + if (∃ i ∈ q, x = some i) then 1 else 0
  | [], _ => by simp
  | i :: q, h => by
    obtain ⟨h1, h2⟩ := List.nodup_cons.1 h
    rw [List.map_cons, List.sum_cons, sum_one a x q h2, List.map_cons, List.sum_cons]
    by_cases e : x = some i
    · have e2 : ¬ ∃ j ∈ q, x = some j := fun ⟨j, hj, ej⟩ => by rw [e] at ej; cases ej; exact h1 hj
      have e3 : ∃ j ∈ i :: q, x = some j := ⟨i, by simp, e⟩
      rw [if_pos e, if_neg e2, if_pos e3]; omega
    · rw [if_neg e]
      by_cases e2 : ∃ j ∈ q, x = some j
      · obtain ⟨j, hj, ej⟩ := e2
        rw [if_pos ⟨j, hj, ej⟩, if_pos ⟨j, List.mem_cons_of_mem _ hj, ej⟩]; omega
      · have e3 : ¬ ∃ j ∈ i :: q, x = some j := fun ⟨j, hj, ej⟩ => by
          rcases List.mem_cons.1 hj with rfl | hj
          · exact e ej
          · exact e2 ⟨j, hj, ej⟩
        rw [if_neg e2, if_neg e3]; omega
theorem tot_sum (f : Asg) {q : List Nat} (h : q.Nodup) : ∀ n, (q.map (fun i => cnt f i n)).sum = tot f q n
  | 0 => by
    show (q.map (fun _ => 0)).sum = 0
    clear h
    induction q with
    | nil => rfl
    | cons i q ih => rw [List.map_cons, List.sum_cons, ih]
  | n + 1 => by
    show (q.map (fun i => cnt f i n + if f n = some i then 1 else 0)).sum = _
    rw [sum_one (fun i => cnt f i n) (f n) q h, tot_sum f h n]; rfl
theorem tot_le {f g : Asg} {q : List Nat} : ∀ {n : Nat}, (∀ b, b < n → (∃ i ∈ q, g b = some i) → ∃ i ∈ q, f b = some i) → tot g q n ≤ tot f q n
  | 0, _ => Nat.le_refl _
  | n + 1, h => by
    unfold tot
    have := tot_le (n := n) (fun b hb => h b (by omega))
    by_cases e : ∃ i ∈ q, g n = some i
    · rw [if_pos e, if_pos (h n (by omega) e)]; omega
    · rw [if_neg e]; omega
theorem sum_le {a b : Nat → Nat} : ∀ {q : List Nat}, (∀ i ∈ q, a i ≤ b i) → (q.map a).sum ≤ (q.map b).sum
  | [], _ => Nat.le_refl _
  | i :: q, h => by
    rw [List.map_cons, List.sum_cons, List.map_cons, List.sum_cons]
    have h0 := h i (by simp)
    have := sum_le (q := q) (fun j hj => h j (List.mem_cons_of_mem i hj))
    omega
theorem sum_lt {a b : Nat → Nat} : ∀ {q : List Nat} {k : Nat}, (∀ i ∈ q, a i ≤ b i) → k ∈ q → a k < b k → (q.map a).sum < (q.map b).sum
  | [], k, _, hk, _ => by cases hk
  | i :: q, k, h, hk, hlt => by
    rw [List.map_cons, List.sum_cons, List.map_cons, List.sum_cons]
    have h0 := h i (by simp)
    have hle := sum_le (a := a) (b := b) (q := q) (fun j hj => h j (List.mem_cons_of_mem i hj))
    rcases List.mem_cons.1 hk with rfl | hk
    · omega
    · have := sum_lt (fun j hj => h j (List.mem_cons_of_mem i hj)) hk hlt
      omega
def Lex (F : List (List Bool)) (B : Nat) (most : Nat → Int) (k : Nat) (f : Asg) : Prop :=
  ∀ g, Ok F B g → (∀ j, j < F.length → (cnt g j B : Int) ≤ most j) → (∀ j, j < k → cnt g j B = cnt f j B) → cnt g k B ≤ cnt f k B
theorem lex_full {F : List (List Bool)} {B : Nat} {most : Nat → Int} {k : Nat} {f : Asg} (hk : k < F.length) (h : most k ≤ (cnt f k B : Int)) : Lex F B most k f := fun g _ h2 _ => by
  have := h2 k hk; omega
theorem lex_stuck {F : List (List Bool)} {B : Nat} {most : Nat → Int} {k : Nat} {f : Asg} (hs : Stuck F B 0 k f) (hle : ∀ b j, f b = some j → j ≤ k) : Lex F B most k f := fun g hg _ he => by
  obtain ⟨q, h1, h2, h3, h4⟩ := hs
  rcases Nat.lt_or_ge (cnt f k B) (cnt g k B) with hlt | hge
  · have hq : ∀ i ∈ q, cnt f i B ≤ cnt g i B := fun i hi => by
      by_cases e : i = k
      · subst e; omega
      · obtain ⟨b, hb⟩ := h3 i hi e
        have := hle b i hb
        rw [he i (by omega)]; exact Nat.le_refl _
    have s1 := sum_lt hq h2 hlt
    rw [tot_sum f h1, tot_sum g h1] at s1
    have s2 := tot_le (f := f) (g := g) (q := q) (n := B) (fun b hb ⟨i, hi, hgi⟩ => h4 i hi b (Nat.zero_le _) hb (hg.h b i hgi).2.2)
    omega
  · exact hge
theorem Lex.keep {F : List (List Bool)} {B : Nat} {most : Nat → Int} {k : Nat} {f g : Asg} (h : Lex F B most k f) (he : ∀ j, j ≤ k → cnt g j B = cnt f j B) : Lex F B most k g := fun x h1 h2 h3 => by
  rw [he k (Nat.le_refl _)]
  exact h x h1 h2 (fun j hj => by rw [h3 j hj, he j (by omega)])
structure Srv (F : List (List Bool)) (B : Nat) (most : Nat → Int) (k : Nat) (f : Asg) : Prop where
  ok : Ok F B f
  own : ∀ b j, f b = some j → j < k
  le : ∀ j, j < F.length → (cnt f j B : Int) ≤ most j
  lex : ∀ j, j < k → Lex F B most j f
theorem cnt_none {f : Asg} {i : Nat} : ∀ {n : Nat}, (∀ b, f b ≠ some i) → cnt f i n = 0
  | 0, _ => rfl
  | n + 1, h => by unfold cnt; rw [cnt_none h, if_neg (h n)]
theorem srv_start {F : List (List Bool)} {B : Nat} {most : Nat → Int} (hm : ∀ j, j < F.length → 0 ≤ most j) : Srv F B most 0 (fun _ => none) :=
  ⟨⟨fun b i h => by cases h⟩, fun b j h => (by cases h), fun j hj => (by rw [cnt_none (fun b h => by cases h)]; exact hm j hj), fun j hj => absurd hj (Nat.not_lt_zero _)⟩
structure SrvI (F : List (List Bool)) (B : Nat) (most : Nat → Int) (k : Nat) (f : Asg) : Prop where
  ok : Ok F B f
  own : ∀ b j, f b = some j → j ≤ k
  le : ∀ j, j < F.length → (cnt f j B : Int) ≤ most j
  lex : ∀ j, j < k → Lex F B most j f
theorem Srv.begin {F : List (List Bool)} {B : Nat} {most : Nat → Int} {k : Nat} {f : Asg} (h : Srv F B most k f) : SrvI F B most k f := ⟨h.ok, fun b j hj => by have := h.own b j hj; omega, h.le, h.lex⟩
theorem SrvI.more {F : List (List Bool)} {B : Nat} {most : Nat → Int} {k : Nat} {f g : Asg} (h : SrvI F B most k f) (hlt : (cnt f k B : Int) < most k) (hm : More F B 0 k f g) : SrvI F B most k g := by
  refine ⟨hm.ok, fun b j hj => ?_, fun j hj => ?_, fun j hj => (h.lex j hj).keep (fun i hi => by rw [hm.cnt i, if_neg (by omega)]; rfl)⟩
  · have hb := hm.ok.h b j hj
    rcases Nat.lt_or_ge k j with hc | hc
    · have h0 : cnt g j B = 0 := by
        rw [hm.cnt j, if_neg (by omega), cnt_none (fun c hc' => by have := h.own c j hc'; omega)]
      have h1 : 0 < cnt g j B := by
        have := cnt_del (f := g) (b := b) (i := j) j hj hb.1
        rw [if_pos rfl] at this; omega
      omega
    · exact hc
  · rw [hm.cnt j]
    by_cases e : j = k
    · subst e; rw [if_pos rfl]; omega
    · rw [if_neg e]; exact h.le j hj
theorem SrvI.done {F : List (List Bool)} {B : Nat} {most : Nat → Int} {k : Nat} {f : Asg} (h : SrvI F B most k f) (hl : Lex F B most k f) : Srv F B most (k + 1) f := ⟨h.ok, fun b j hj => by have := h.own b j hj; omega, h.le, fun j hj => by
  rcases Nat.lt_or_ge j k with hc | hc
  · exact h.lex j hc
  · rw [show j = k by omega]; exact hl⟩
structure Same (F : List (List Bool)) (B first : Nat) (f g : Asg) : Prop where
  ok : Ok F B g
  cnt : ∀ j, cnt g j B = cnt f j B
  same : ∀ b, b < first → g b = f b
theorem Same.refl {F : List (List Bool)} {B first : Nat} {f : Asg} (h : Ok F B f) : Same F B first f f := ⟨h, fun _ => rfl, fun _ _ => rfl⟩
theorem Same.trans {F : List (List Bool)} {B first : Nat} {f g h : Asg} (h1 : Same F B first f g) (h2 : Same F B first g h) : Same F B first f h := ⟨h2.ok, fun j => (h2.cnt j).trans (h1.cnt j), fun b hb => (h2.same b hb).trans (h1.same b hb)⟩
theorem Same.mono {F : List (List Bool)} {B first first' : Nat} {f g : Asg} (h : Same F B first f g) (hl : first' ≤ first) : Same F B first' f g := ⟨h.ok, h.cnt, fun b hb => h.same b (by omega)⟩
def mv (f : Asg) (board order freed : Nat) : Asg := upd (upd f board (some order)) freed none
section
variable {F : List (List Bool)} {B first : Nat} {f : Asg} {board order freed : Nat}
theorem mv_ok (h : Ok F B f) (hb : board < B) (ho : order < F.length) (hf : fit F order board = true) : Ok F B (mv f board order freed) := (h.set hb ho hf).del freed
theorem mv_free (h : Ok F B f) (hb : board < B) (ho : order < F.length) (hf : fit F order board = true) (hfr : f freed = some order) (hne : board < freed) (h0 : f board = none) : Same F B board f (mv f board order freed) := by
  have hfb := (h.h _ _ hfr).1
  refine ⟨mv_ok h hb ho hf, fun j => ?_, fun b hb' => ?_⟩
  · have e1 := cnt_set (f := f) (b := board) order j h0 hb
    have e2 := cnt_del (f := upd f board (some order)) (b := freed) (i := order) j (by rw [upd_ne (by omega)]; exact hfr) hfb
    unfold mv; omega
  · unfold mv; rw [upd_ne (by omega), upd_ne (by omega)]
theorem mv_more (h : Ok F B f) (hb : board < B) (ho : order < F.length) (hf : fit F order board = true) (hfr : f freed = some order) (hne : board < freed) {now : Nat} (h0 : f board = some now) (hno : now ≠ order) {g : Asg} (hg : More F B (board + 1) now (mv f board order freed) g) : Same F B board f g := by
  have hfb := (h.h _ _ hfr).1
  refine ⟨hg.ok, fun j => ?_, fun b hb' => ?_⟩
  · have e0 := cnt_del (f := f) (b := board) (i := now) j h0 hb
    have e1 := cnt_set (f := upd f board none) (b := board) order j (upd_same ..) hb
    rw [upd_upd] at e1
    have e2 := cnt_del (f := upd f board (some order)) (b := freed) (i := order) j (by rw [upd_ne (by omega)]; exact hfr) hfb
    have e3 := hg.cnt j
    unfold mv at e3; omega
  · rw [hg.same b (by omega)]
    unfold mv; rw [upd_ne (by omega), upd_ne (by omega)]
theorem mv_back (hfr : f freed = some order) (hne : board < freed) {now : Nat} (h0 : f board = some now) : upd (upd (mv f board order freed) board (some now)) freed (some order) = f := by
  funext k
  unfold mv upd
  by_cases e1 : k = freed
  · subst e1; rw [if_pos rfl]; exact hfr.symm
  · rw [if_neg e1]
    by_cases e2 : k = board
    · subst e2; rw [if_pos rfl]; exact h0.symm
    · rw [if_neg e2, if_neg e1, if_neg e2]
end
end Go.Proofs.Ytdndfncpglfdeaa.To
/- Boards for orders: an assignment under construction as an object. -/
namespace Go.Proofs.Ytdndfncpglfdeaa.To
set_option linter.unusedVariables false
set_option linter.unusedSimpArgs false
open Go.RowKit Go.Proofs.Ytdndfncpglfdeaa.Ev
abbrev I (n : Int) : CV := .v (.int .i64 n)
abbrev BO (b : Bool) : CV := .v (.bool b)
def boC (b : Bool) : List CV := [BO b]
instance : EncL boC 1 := ⟨fun _ => rfl, by decide, fun _ => rfl⟩
abbrev LB (r : List Bool) : CV := .lst 1 (r.flatMap boC)
def rowC (r : List Bool) : List CV := [LB r]
instance : EncL rowC 1 := ⟨fun _ => rfl, by decide, fun _ => rfl⟩
abbrev LLB (F : List (List Bool)) : CV := .lst 1 (F.flatMap rowC)
def intC (n : Int) : List CV := [I n]
instance : EncL intC 1 := ⟨fun _ => rfl, by decide, fun _ => rfl⟩
abbrev LI (l : List Int) : CV := .lst 1 (l.flatMap intC)
instance : MapT Try.prog 64 3 := ⟨by kernel_rfl⟩
def matP (F : List (List Bool)) (to : Asg) (first : Int) : ObjP where
  holds := fun Fz w g fp => ∃ gm fv, g ≠ gm ∧ (∀ k, fp k ↔ (k = g ∨ k = gm)) ∧ w.heap[g]? = some (.cells #[fv, .map (some gm), .int .i64 first] 66 (0, 0)) ∧ RC Fz w (LLB F) fv ∧ ∃ es clock, w.heap[gm]? = some (.map es clock) ∧ MapIs es to
  stable := fun F F' w w' g fp ⟨gm, fv, h1, h2, h3, h4, es, clock, h5, h6⟩ hF hk => ⟨gm, fv, h1, h2, (hk g ((h2 g).2 (.inl rfl))).trans h3, h4.mono hF, es, clock, (hk gm ((h2 gm).2 (.inr rfl))).trans h5, h6⟩
section
variable {P : Program} {ops : Array Oper} {Q : Exit → St → Prop} {n : Nat} {env : List (Nat × AV)} {heap : List (Nat × Option AB)} {nx : Nat} {gl : List (Nat × List CV)} {F : List (List Bool)} {to : Asg} {first : Int}
theorem sim_mopen {base : Nat} {w0 : W0} {M : Wd} {a : Act} (hs : Sim base w0 ⟨n, env, heap, nx, gl⟩ M a) {b : Nat} (hb : St.H ⟨n, env, heap, nx, gl⟩ b = some (.obj (matP F to first))) :
    ∃ M', M'.w = M.w ∧ Sim base w0 ⟨n, env, (b, some (.cells 66 [.c (LLB F), .ref nx mapV, .c (I first)])) :: (nx, some (.obj (mapP to))) :: heap, nx + 1, gl⟩ M' a ∧ Ext M M' := by
  refine hs.openO hb (fun g fp ⟨gm, fv, h1, h2, h3, h4, es, clock, h5, h6⟩ => ⟨gm, fun k => k = gm, _, h3, rfl, ⟨fun _ => Iff.rfl, es, clock, h5, h6⟩, (h2 gm).2 (.inr rfl), rfl, h1, fun k hk => (h2 k).2 (.inr hk), fun M' m1 m2 m3 i x u hx hu => ?_⟩)
  have hnx : M.nx = nx := hs.nx
  match i with
  | 0 => simp at hx hu; subst hx; subst hu; exact .c (by rw [m2, m3]; exact h4)
  | 1 => simp at hx hu; subst hx; subst hu; exact .ref (f := mapV) (by rw [← hnx]; exact m1) rfl
  | 2 => simp at hx hu; subst hx; subst hu; exact .c (.v _)
  | i + 3 => simp at hx
theorem sim_mclose {base : Nat} {w0 : W0} {M : Wd} {a : Act} (hs : Sim base w0 ⟨n, env, heap, nx, gl⟩ M a) {b b2 : Nat} (hb : St.H ⟨n, env, heap, nx, gl⟩ b = some (.cells 66 [.c (LLB F), .ref b2 mapV, .c (I first)])) (hb2 : St.H ⟨n, env, heap, nx, gl⟩ b2 = some (.obj (mapP to))) (hne : Nat.beq b b2 = false) :
    ∃ M', M'.w = M.w ∧ Sim base w0 ⟨n, env, (b, some (.obj (matP F to first))) :: (b2, none) :: heap, nx, gl⟩ M' a ∧ Ext M M' := by
  refine hs.closeO hb hb2 (beq_false hne) (fun g gm fp2 arr m1 m2 h1 h2 h3 ⟨q1, es, clock, q2, q3⟩ h5 h6 => ?_)
  have hsz : arr.size = 3 := by simpa using h2.symm
  have e0 := h3 0 (.c (LLB F)) arr[0] rfl (by simp [hsz])
  have e1 := ref_eq (h3 1 (.ref b2 mapV) arr[1] rfl (by simp [hsz])) m2
  have e2 := (h3 2 (.c (I first)) arr[2] rfl (by simp [hsz])).bool
  have harr : arr = #[arr[0], .map (some gm), .int .i64 first] := by
    apply Array.ext
    · simp [hsz]
    · intro i h1 h2
      match i with
      | 0 => rfl
      | 1 => exact e1
      | 2 => exact e2
      | i + 3 => omega
  refine ⟨gm, arr[0], fun e => h6 (e ▸ h5), fun k => ?_, by rw [h1]; congr 1; rw [← harr], ?_, es, clock, q2, q3⟩
  · constructor
    · rintro (h | h)
      · exact .inl h
      · exact .inr ((q1 k).1 h)
    · rintro (h | h)
      · exact .inl h
      · exact .inr ((q1 k).2 h)
  · cases e0 with
    | c h => exact h
theorem aw_mopen {c : Code} (b : Nat) (hb : St.H ⟨n, env, heap, nx, gl⟩ b = some (.obj (matP F to first)))
    (h : Awp P c Q ⟨n, env, (b, some (.cells 66 [.c (LLB F), .ref nx mapV, .c (I first)])) :: (nx, some (.obj (mapP to))) :: heap, nx + 1, gl⟩) : Awp P c Q ⟨n, env, heap, nx, gl⟩ := by
  intro base w0 M a hs
  obtain ⟨M', h1, h2, h3⟩ := sim_mopen hs hb
  rw [← h1]
  exact wp_mono (h base w0 M' a h2) fun e a w => Lift.ext h3
theorem ao_mopen {l : List Oper} (b : Nat) (hb : St.H ⟨n, env, heap, nx, gl⟩ b = some (.obj (matP F to first)))
    (h : AOps P ops Q l ⟨n, env, (b, some (.cells 66 [.c (LLB F), .ref nx mapV, .c (I first)])) :: (nx, some (.obj (mapP to))) :: heap, nx + 1, gl⟩) : AOps P ops Q l ⟨n, env, heap, nx, gl⟩ := by
  intro base w0 M a hs
  obtain ⟨M', h1, h2, h3⟩ := sim_mopen hs hb
  rw [← h1]
  exact wpList_monoQ (fun e a w => Lift.ext h3) _ _ _ (h base w0 M' a h2)
theorem aw_mclose {c : Code} (b b2 : Nat) (hb : St.H ⟨n, env, heap, nx, gl⟩ b = some (.cells 66 [.c (LLB F), .ref b2 mapV, .c (I first)])) (hb2 : St.H ⟨n, env, heap, nx, gl⟩ b2 = some (.obj (mapP to))) (hne : Nat.beq b b2 = false)
    (h : Awp P c Q ⟨n, env, (b, some (.obj (matP F to first))) :: (b2, none) :: heap, nx, gl⟩) : Awp P c Q ⟨n, env, heap, nx, gl⟩ := by
  intro base w0 M a hs
  obtain ⟨M', h1, h2, h3⟩ := sim_mclose hs hb hb2 hne
  rw [← h1]
  exact wp_mono (h base w0 M' a h2) fun e a w => Lift.ext h3
theorem ao_mclose {l : List Oper} (b b2 : Nat) (hb : St.H ⟨n, env, heap, nx, gl⟩ b = some (.cells 66 [.c (LLB F), .ref b2 mapV, .c (I first)])) (hb2 : St.H ⟨n, env, heap, nx, gl⟩ b2 = some (.obj (mapP to))) (hne : Nat.beq b b2 = false)
    (h : AOps P ops Q l ⟨n, env, (b, some (.obj (matP F to first))) :: (b2, none) :: heap, nx, gl⟩) : AOps P ops Q l ⟨n, env, heap, nx, gl⟩ := by
  intro base w0 M a hs
  obtain ⟨M', h1, h2, h3⟩ := sim_mclose hs hb hb2 hne
  rw [← h1]
  exact wpList_monoQ (fun e a w => Lift.ext h3) _ _ _ (h base w0 M' a h2)
theorem aw_endclose {c : Code} {s : St} (b b2 : Nat) (F : List (List Bool)) (hne : Nat.beq b b2 = false)
    (h : Awp P c (fun e st => ∃ to first, st.H b = some (.cells 66 [.c (LLB F), .ref b2 mapV, .c (I first)]) ∧ st.H b2 = some (.obj (mapP to)) ∧ Q e ⟨st.n, st.env, (b, some (.obj (matP F to first))) :: (b2, none) :: st.heap, st.nx, st.gl⟩) s) : Awp P c Q s := by
  intro base w0 M a hs
  refine wp_mono (h base w0 M a hs) ?_
  intro e a' w' ⟨M', ⟨n, env, heap, nx, gl⟩, h1, h2, h3, to, first, g1, g2, g3⟩
  obtain ⟨M2, k1, k2, k3⟩ := sim_mclose h2 g1 g2 hne
  exact ⟨M2, _, k1.trans h1, k2, h3.trans k3, g3⟩
end
end Go.Proofs.Ytdndfncpglfdeaa.To
/- Boards for orders, plain: assignments as lists, what Counts and Best return. Nothing here names a program. -/
namespace Go.Proofs.Ytdndfncpglfdeaa.To
set_option linter.unusedVariables false
set_option linter.unusedSimpArgs false
def asgL (l : List Int) : Asg := fun b => match l[b]? with
  | some x => if 0 ≤ x then some x.toNat else none
  | none => none
theorem asgL_some {l : List Int} {b i : Nat} (h : asgL l b = some i) : l[b]? = some (i : Int) := by
  unfold asgL at h
  split at h
  · rename_i x hx
    split at h
    · rename_i h0
      simp only [Option.some.injEq] at h
      rw [hx]; congr 1; omega
    · cases h
  · cases h
theorem asgL_of {l : List Int} {b i : Nat} (h : l[b]? = some (i : Int)) : asgL l b = some i := by
  unfold asgL
  rw [h]
  show (if (0 : Int) ≤ i then some (i : Int).toNat else none) = _
  rw [if_pos (by omega)]; congr 1
def listA (f : Asg) (B : Nat) : List Int := (List.range B).map fun k => match f k with | some i => (i : Int) | none => -1
theorem listA_len (f : Asg) (B : Nat) : (listA f B).length = B := by unfold listA; simp
theorem listA_get (f : Asg) {B k : Nat} (h : k < B) : (listA f B)[k]? = some (match f k with | some i => (i : Int) | none => -1) := by
  unfold listA; simp [h]
theorem asgL_listA {F : List (List Bool)} {f : Asg} {B : Nat} (h : Ok F B f) : asgL (listA f B) = f := by
  funext k
  rcases Nat.lt_or_ge k B with hk | hk
  · have hg := listA_get f hk
    cases hf : f k with
    | some i => rw [hf] at hg; exact asgL_of hg
    | none =>
      rw [hf] at hg
      unfold asgL; rw [hg]; rfl
  · have h1 : (listA f B)[k]? = none := List.getElem?_eq_none (by rw [listA_len]; exact hk)
    unfold asgL; rw [h1]
    cases hf : f k with
    | none => rfl
    | some i => have := (h.h k i hf).1; omega
structure ValidA (F : List (List Bool)) (B : Nat) (most to : List Int) : Prop where
  len : to.length = B
  at_ : ∀ (b : Nat) (x : Int), to[b]? = some x → x = -1 ∨ (0 ≤ x ∧ x < F.length ∧ fit F x.toNat b = true)
  le : ∀ i, i < F.length → (cnt (asgL to) i B : Int) ≤ most.getD i 0
theorem ValidA.ok {F : List (List Bool)} {B : Nat} {most to : List Int} (h : ValidA F B most to) : Ok F B (asgL to) := ⟨fun b i hb => by
  have hg := asgL_some hb
  have hlt := (List.getElem?_eq_some_iff.1 hg).1
  rcases h.at_ b _ hg with e | ⟨h1, h2, h3⟩
  · omega
  · exact ⟨by rw [← h.len]; exact hlt, by omega, by simpa using h3⟩⟩
theorem valid_list {F : List (List Bool)} {B : Nat} {most : List Int} {f : Asg} (h : Ok F B f) (hl : ∀ i, i < F.length → (cnt f i B : Int) ≤ most.getD i 0) : ValidA F B most (listA f B) := by
  refine ⟨listA_len f B, fun b x hx => ?_, fun i hi => by rw [asgL_listA h]; exact hl i hi⟩
  have hb : b < B := by have := (List.getElem?_eq_some_iff.1 hx).1; rwa [listA_len] at this
  rw [listA_get f hb] at hx
  cases hf : f b with
  | none => rw [hf] at hx; simp at hx; exact .inl hx.symm
  | some i =>
    rw [hf] at hx
    simp only [Option.some.injEq] at hx
    subst hx
    obtain ⟨_, h2, h3⟩ := h.h b i hf
    exact .inr ⟨by omega, by omega, by simpa using h3⟩
def cntL (f : Asg) (n B : Nat) : List Int := (List.range n).map fun i => (cnt f i B : Int)
theorem cntL_len (f : Asg) (n B : Nat) : (cntL f n B).length = n := by unfold cntL; simp
theorem cntL_get (f : Asg) {n : Nat} (B : Nat) {i : Nat} (h : i < n) : (cntL f n B)[i]? = some (cnt f i B : Int) := by unfold cntL; simp [h]
def CountsA (F : List (List Bool)) (B : Nat) (most c : List Int) : Prop := ∃ g, Srv F B (fun i => most.getD i 0) F.length g ∧ c = cntL g F.length B
def Filled (n B : Nat) (least : List Int) (f : Asg) : Prop := ∀ i, i < n → cnt f i B = 0 ∨ least.getD i 0 ≤ (cnt f i B : Int)
structure BestA (F : List (List Bool)) (B : Nat) (least most b : List Int) : Prop where
  h : ∃ f g, Srv F B (fun i => most.getD i 0) F.length g ∧ Ok F B f ∧ Filled F.length B least f ∧ (∀ i, i < F.length → (cnt f i B : Int) ≤ most.getD i 0) ∧ (Filled F.length B least g → ∀ i, cnt f i B = cnt g i B) ∧ b = listA f B
def exF : List (List Bool) := [[true, false, true], [true, true, true]]
theorem ex_fit {i b : Nat} (h : fit exF i b = true) : (i = 0 ∧ (b = 0 ∨ b = 2)) ∨ (i = 1 ∧ b < 3) := by
  match i, b with
  | 0, 0 => exact .inl ⟨rfl, .inl rfl⟩
  | 0, 1 => cases h
  | 0, 2 => exact .inl ⟨rfl, .inr rfl⟩
  | 0, b + 3 => cases h
  | 1, 0 => exact .inr ⟨rfl, by omega⟩
  | 1, 1 => exact .inr ⟨rfl, by omega⟩
  | 1, 2 => exact .inr ⟨rfl, by omega⟩
  | 1, b + 3 => cases h
  | i + 2, b => cases h
theorem ex_three (f : Asg) : cnt f 0 3 + cnt f 1 3 ≤ 3 := by
  have h : ∀ x : Option Nat, (if x = some 0 then 1 else 0) + (if x = some 1 then 1 else 0) ≤ 1 := fun x => by
    by_cases e : x = some 0
    · subst e; decide
    · rw [if_neg e]; split <;> omega
  have h0 := h (f 0)
  have h1 := h (f 1)
  have h2 := h (f 2)
  unfold cnt cnt cnt cnt
  omega
theorem ex_counts {g : Asg} (h : Srv exF 3 (fun i => [(2 : Int), 2].getD i 0) 2 g) : cnt g 0 3 = 2 ∧ cnt g 1 3 = 1 := by
  have hl0 := h.le 0 (by decide)
  have hl1 := h.le 1 (by decide)
  have hok : Ok exF 3 (asgL [0, 1, 0]) := ⟨fun b i hb => by
    have hg := asgL_some hb
    match b with
    | 0 => simp at hg; have : i = 0 := by omega
           subst this; decide
    | 1 => simp at hg; have : i = 1 := by omega
           subst this; decide
    | 2 => simp at hg; have : i = 0 := by omega
           subst this; decide
    | b + 3 => simp at hg⟩
  have c0 : cnt (asgL [0, 1, 0]) 0 3 = 2 := by decide
  have c1 : cnt (asgL [0, 1, 0]) 1 3 = 1 := by decide
  have hle : ∀ j, j < exF.length → (cnt (asgL [0, 1, 0]) j 3 : Int) ≤ [(2 : Int), 2].getD j 0 := fun j hj => by
    match j with
    | 0 => rw [c0]; decide
    | 1 => rw [c1]; decide
    | j + 2 => exact absurd hj (by simp [exF])
  have x0 := h.lex 0 (by decide) _ hok hle (fun j hj => absurd hj (Nat.not_lt_zero _))
  have e0 : cnt g 0 3 = 2 := by
    have hl0 : (cnt g 0 3 : Int) ≤ 2 := hl0
    omega
  have x1 := h.lex 1 (by decide) _ hok hle (fun j hj => by
    have : j = 0 := by omega
    subst this; omega)
  have := ex_three g
  exact ⟨e0, by omega⟩
theorem ex_list {f : Asg} (h : Ok exF 3 f) (h0 : cnt f 0 3 = 2) (h1 : cnt f 1 3 = 1) : listA f 3 = [0, 1, 0] := by
  have hn : f 1 ≠ some 0 := fun e => by
    have := ex_fit (h.h 1 0 e).2.2
    omega
  have hv : ∀ b, f b = none ∨ f b = some 0 ∨ f b = some 1 := fun b => by
    cases hf : f b with
    | none => exact .inl rfl
    | some i =>
      rcases ex_fit (h.h b i hf).2.2 with ⟨e, _⟩ | ⟨e, _⟩
      · subst e; exact .inr (.inl rfl)
      · subst e; exact .inr (.inr rfl)
  unfold cnt cnt cnt cnt at h0 h1
  have g0 : f 0 = some 0 := by
    rcases hv 0 with e | e | e
    · rw [e, if_neg hn] at h0; simp at h0; split at h0 <;> omega
    · exact e
    · rw [e, if_neg hn] at h0; simp at h0; split at h0 <;> omega
  have g2 : f 2 = some 0 := by
    rcases hv 2 with e | e | e
    · rw [e, if_neg hn] at h0; simp at h0; split at h0 <;> omega
    · exact e
    · rw [e, if_neg hn] at h0; simp at h0; split at h0 <;> omega
  have g1 : f 1 = some 1 := by
    rcases hv 1 with e | e | e
    · rw [g0, g2, e] at h1; simp at h1
    · exact absurd e hn
    · exact e
  unfold listA
  have hr : List.range 3 = [0, 1, 2] := rfl
  rw [hr]
  simp only [List.map_cons, List.map_nil, g0, g1, g2]; rfl
end Go.Proofs.Ytdndfncpglfdeaa.To
/- Boards for orders: tables and their checks, counts. -/
namespace Go.Proofs.Ytdndfncpglfdeaa.To
set_option linter.unusedVariables false
set_option linter.unusedSimpArgs false
open Go.RowKit Go.Proofs.Ytdndfncpglfdeaa.Ev
variable {gl : List (Nat × List CV)}
abbrev A (n : Int) : AV := .c (I n)
structure Tab (F : List (List Bool)) (B : Nat) : Prop where
  pos : 0 < F.length
  n : F.length ≤ 32
  b : B ≤ 512
  row : ∀ (i : Nat) (h : i < F.length), F[i].length = B
theorem columns_con (F : List (List Bool)) (B : Nat) (h : Tab F B) : Con Try.prog gl 22 [LLB F] (I B) := by
  have h0 := h.pos
  have h1 := h.row 0 h0
  refine con_of Try.func22 rfl (by kernel_rfl) rfl ?_
  simp only [Try.ntmps22, Try.results22, argEnv, ofC, of1, List.map]
  repeat' (first
 | ((with_reducible apply aw_seq))
 | ((with_reducible apply aw_region))
 | ((with_reducible apply thn_normal))
 | ((with_reducible apply aw_skip))
 | ((with_reducible apply aw_ret))
 | ((with_reducible apply ao_nil))
 | ((with_reducible apply r_move); exact rfl; exact rfl)
 | ((with_reducible apply r_assign); exact rfl; exact rfl)
 | ((with_reducible apply r_eql); exact rfl; exact rfl; exact rfl)
 | ((with_reducible apply r_len_f); exact rfl; exact inferInstance; exact rfl)
 | ((with_reducible apply r_index_f); exact rfl; exact inferInstance; exact rfl; exact rfl; (first | assumption | omega); exact rfl)
 | ((with_reducible apply r_load_f0); exact rfl; exact inferInstance; exact List.getElem?_eq_getElem (by first | assumption | omega); exact rfl; exact rfl)
 | (((with_reducible apply aw_cond); exact rfl) <;> intro hg <;> (first | (exact absurd hg (by decide)) | ((try simp only [decide_eq_true_eq, decide_eq_false_iff_not, Bool.not_eq_true', Bool.not_eq_false', Bool.not_true, Bool.not_false, Bool.not_not, Int.not_lt, Int.not_le, Nat.not_lt, Nat.not_le, gt_iff_lt, ge_iff_le, List.cons.injEq, and_true] at hg); first | (exact absurd trivial hg) | (exfalso; omega) | (have hT : True := hg; clear hT hg) | skip)))
 )
  all_goals exact ret_i rfl (by rw [h1])
theorem checkTable_con (F : List (List Bool)) (B : Nat) (h : Tab F B) : Con Try.prog gl 18 [LLB F] (I 0) := by
  have h0 := h.pos
  have hn := h.n
  have hb := h.b
  have h1 := h.row 0 h0
  refine con_of Try.func18 rfl (by kernel_rfl) rfl ?_
  simp only [Try.ntmps18, Try.results18, argEnv, ofC, of1, List.map]
  repeat' (first
 | ((with_reducible apply aw_seq))
 | ((with_reducible apply aw_region))
 | ((with_reducible apply aw_block))
 | ((with_reducible apply thn_normal))
 | ((with_reducible apply aw_skip))
 | ((with_reducible apply ao_nil))
 | ((with_reducible apply r_move); exact rfl; exact rfl)
 | ((with_reducible apply r_assign); exact rfl; exact rfl)
 | ((with_reducible apply r_gtr); exact rfl; exact rfl; exact rfl)
 | ((with_reducible apply r_len_f); exact rfl; exact inferInstance; exact rfl)
 | (((with_reducible apply aw_cond); exact rfl) <;> intro hg <;> (first | (exact absurd hg (by decide)) | ((try simp only [decide_eq_true_eq, decide_eq_false_iff_not, Bool.not_eq_true', Bool.not_eq_false', Bool.not_true, Bool.not_false, Bool.not_not, Int.not_lt, Int.not_le, Nat.not_lt, Nat.not_le, gt_iff_lt, ge_iff_le, List.cons.injEq, and_true] at hg); first | (exact absurd trivial hg) | (exfalso; omega) | (have hT : True := hg; clear hT hg) | skip)))
 )
  refine aw_loopG (G := Nat) (fun (j : Nat) => j ≤ F.length) (fun (j : Nat) => F.length - j) (fun (j : Nat) => [(0, .c (LLB F)), (10, .c (LLB F)), (11, A F.length), (12, A j)]) (fun (j : Nat) => []) 0 0 ?_ (by refine weak_mk rfl ?_ ?_ <;> repeat (first | exact envW_nil | exact heapW_nil | refine envW_cons rfl rfl ?_ | refine heapW_cons rfl rfl rfl ?_)) rfl ?_
  · exact Nat.zero_le _
  rintro j hI
  try dsimp only at hI
  try dsimp only
  by_cases hj : j < F.length
  · have hr := h.row j hj
    repeat' (first
 | ((with_reducible apply aw_seq))
 | ((with_reducible apply aw_region))
 | ((with_reducible apply aw_block))
 | ((with_reducible apply thn_normal))
 | ((with_reducible apply inb_normal))
 | ((with_reducible apply aw_skip))
 | ((with_reducible apply ao_nil))
 | ((with_reducible apply r_move); exact rfl; exact rfl)
 | ((with_reducible apply r_assign); exact rfl; exact rfl)
 | ((with_reducible apply r_lss); exact rfl; exact rfl; exact rfl)
 | ((with_reducible apply r_gtr); exact rfl; exact rfl; exact rfl)
 | ((with_reducible apply r_add); exact rfl; exact rfl; exact (by first | assumption | (unfold fits; omega)); exact rfl)
 | ((with_reducible apply r_len_f); exact rfl; exact inferInstance; exact rfl)
 | ((with_reducible apply r_index_f); exact rfl; exact inferInstance; exact rfl; exact rfl; (first | assumption | omega); exact rfl)
 | ((with_reducible apply r_load_f0); exact rfl; exact inferInstance; exact List.getElem?_eq_getElem (by first | assumption | omega); exact rfl; exact rfl)
 | (((with_reducible apply aw_cond); exact rfl) <;> intro hg <;> (first | (exact absurd hg (by decide)) | ((try simp only [decide_eq_true_eq, decide_eq_false_iff_not, Bool.not_eq_true', Bool.not_eq_false', Bool.not_true, Bool.not_false, Bool.not_not, Int.not_lt, Int.not_le, Nat.not_lt, Nat.not_le, gt_iff_lt, ge_iff_le, List.cons.injEq, and_true] at hg); first | (exact absurd trivial hg) | (exfalso; omega) | (have hT : True := hg; clear hT hg) | skip)))
 )
    refine ⟨j + 1, ?_, ?_, by refine weak_mk rfl ?_ ?_ <;> repeat (first | exact envW_nil | exact heapW_nil | refine envW_cons rfl rfl ?_ | refine heapW_cons rfl rfl rfl ?_)⟩
    · omega
    · omega
  repeat' (first
 | ((with_reducible apply aw_seq))
 | ((with_reducible apply aw_region))
 | ((with_reducible apply aw_block))
 | ((with_reducible apply thn_normal))
 | ((with_reducible apply thn_exit))
 | ((with_reducible apply inb_exit))
 | ((with_reducible apply aw_exit))
 | ((with_reducible apply ao_nil))
 | ((with_reducible apply r_move); exact rfl; exact rfl)
 | ((with_reducible apply r_lss); exact rfl; exact rfl; exact rfl)
 | ((with_reducible apply r_len_f); exact rfl; exact inferInstance; exact rfl)
 | (((with_reducible apply aw_cond); exact rfl) <;> intro hg <;> (first | (exact absurd hg (by decide)) | ((try simp only [decide_eq_true_eq, decide_eq_false_iff_not, Bool.not_eq_true', Bool.not_eq_false', Bool.not_true, Bool.not_false, Bool.not_not, Int.not_lt, Int.not_le, Nat.not_lt, Nat.not_le, gt_iff_lt, ge_iff_le, List.cons.injEq, and_true] at hg); first | (exact absurd trivial hg) | (exfalso; omega) | (have hT : True := hg; clear hT hg) | skip)))
 )
  refine aw_loopG (G := Nat) (fun (j : Nat) => j ≤ F.length) (fun (j : Nat) => F.length - j) (fun (j : Nat) => [(0, .c (LLB F)), (20, .c (LLB F)), (21, A F.length), (22, A j)]) (fun (j : Nat) => []) 0 0 ?_ (by refine weak_mk rfl ?_ ?_ <;> repeat (first | exact envW_nil | exact heapW_nil | refine envW_cons rfl rfl ?_ | refine heapW_cons rfl rfl rfl ?_)) rfl ?_
  · exact Nat.zero_le _
  rintro j hI
  try dsimp only at hI
  try dsimp only
  by_cases hj : j < F.length
  · have hr := h.row j hj
    repeat' (first
 | ((with_reducible apply aw_seq))
 | ((with_reducible apply aw_region))
 | ((with_reducible apply aw_block))
 | ((with_reducible apply thn_normal))
 | ((with_reducible apply inb_normal))
 | ((with_reducible apply aw_skip))
 | ((with_reducible apply ao_nil))
 | ((with_reducible apply r_move); exact rfl; exact rfl)
 | ((with_reducible apply r_assign); exact rfl; exact rfl)
 | ((with_reducible apply r_lss); exact rfl; exact rfl; exact rfl)
 | ((with_reducible apply r_neq); exact rfl; exact rfl; exact rfl)
 | ((with_reducible apply r_add); exact rfl; exact rfl; exact (by first | assumption | (unfold fits; omega)); exact rfl)
 | ((with_reducible apply r_len_f); exact rfl; exact inferInstance; exact rfl)
 | ((with_reducible apply r_index_f); exact rfl; exact inferInstance; exact rfl; exact rfl; (first | assumption | omega); exact rfl)
 | ((with_reducible apply r_load_f0); exact rfl; exact inferInstance; exact List.getElem?_eq_getElem (by first | assumption | omega); exact rfl; exact rfl)
 | (((with_reducible apply aw_cond); exact rfl) <;> intro hg <;> (first | (exact absurd hg (by decide)) | ((try simp only [decide_eq_true_eq, decide_eq_false_iff_not, Bool.not_eq_true', Bool.not_eq_false', Bool.not_true, Bool.not_false, Bool.not_not, Int.not_lt, Int.not_le, Nat.not_lt, Nat.not_le, gt_iff_lt, ge_iff_le, List.cons.injEq, and_true] at hg); first | (exact absurd trivial hg) | (exfalso; omega) | (have hT : True := hg; clear hT hg) | skip)))
 )
    refine ⟨j + 1, ?_, ?_, by refine weak_mk rfl ?_ ?_ <;> repeat (first | exact envW_nil | exact heapW_nil | refine envW_cons rfl rfl ?_ | refine heapW_cons rfl rfl rfl ?_)⟩
    · omega
    · omega
  repeat' (first
 | ((with_reducible apply aw_seq))
 | ((with_reducible apply aw_region))
 | ((with_reducible apply thn_normal))
 | ((with_reducible apply thn_exit))
 | ((with_reducible apply inb_exit))
 | ((with_reducible apply aw_exit))
 | ((with_reducible apply aw_ret))
 | ((with_reducible apply ao_nil))
 | ((with_reducible apply r_assign); exact rfl; exact rfl)
 | ((with_reducible apply r_lss); exact rfl; exact rfl; exact rfl)
 | (((with_reducible apply aw_cond); exact rfl) <;> intro hg <;> (first | (exact absurd hg (by decide)) | ((try simp only [decide_eq_true_eq, decide_eq_false_iff_not, Bool.not_eq_true', Bool.not_eq_false', Bool.not_true, Bool.not_false, Bool.not_not, Int.not_lt, Int.not_le, Nat.not_lt, Nat.not_le, gt_iff_lt, ge_iff_le, List.cons.injEq, and_true] at hg); first | (exact absurd trivial hg) | (exfalso; omega) | (have hT : True := hg; clear hT hg) | skip)))
 )
  exact ret_i rfl rfl
structure MostA (F : List (List Bool)) (most : List Int) : Prop where
  len : most.length = F.length
  bd : ∀ (i : Nat) (h : i < most.length), 0 ≤ most[i] ∧ most[i] ≤ 200
theorem getD_get {l : List Int} {i : Nat} (h : i < l.length) : l.getD i 0 = l[i] := by rw [List.getD_eq_getElem?_getD, List.getElem?_eq_getElem h]; rfl
theorem check_con (F : List (List Bool)) (B : Nat) (most : List Int) (h : Tab F B) (hm : MostA F most) : Con Try.prog gl 16 [LLB F, LI most] (I 0) := by
  have hn := h.n
  have hml := hm.len
  have c1 := checkTable_con (gl := gl) F B h
  refine con_of Try.func16 rfl (by kernel_rfl) rfl ?_
  simp only [Try.ntmps16, Try.results16, argEnv, ofC, of1, List.map]
  repeat' (first
 | ((with_reducible apply (r_call (f := 18))); exact rfl; exact rfl; exact c1; exact rfl; exact rfl)
 | ((with_reducible apply aw_seq))
 | ((with_reducible apply aw_region))
 | ((with_reducible apply aw_block))
 | ((with_reducible apply thn_normal))
 | ((with_reducible apply aw_skip))
 | ((with_reducible apply ao_nil))
 | ((with_reducible apply r_move); exact rfl; exact rfl)
 | ((with_reducible apply r_assign); exact rfl; exact rfl)
 | ((with_reducible apply r_neq); exact rfl; exact rfl; exact rfl)
 | ((with_reducible apply r_len_f); exact rfl; exact inferInstance; exact rfl)
 | (((with_reducible apply aw_cond); exact rfl) <;> intro hg <;> (first | (exact absurd hg (by decide)) | ((try simp only [decide_eq_true_eq, decide_eq_false_iff_not, Bool.not_eq_true', Bool.not_eq_false', Bool.not_true, Bool.not_false, Bool.not_not, Int.not_lt, Int.not_le, Nat.not_lt, Nat.not_le, gt_iff_lt, ge_iff_le, List.cons.injEq, and_true] at hg); first | (exact absurd trivial hg) | (exfalso; omega) | (have hT : True := hg; clear hT hg) | skip)))
 )
  refine aw_loopG (G := Nat) (fun (j : Nat) => j ≤ most.length) (fun (j : Nat) => most.length - j) (fun (j : Nat) => [(18, .c (LI most)), (19, A most.length), (20, A j)]) (fun (j : Nat) => []) 0 0 ?_ (by refine weak_mk rfl ?_ ?_ <;> repeat (first | exact envW_nil | exact heapW_nil | refine envW_cons rfl rfl ?_ | refine heapW_cons rfl rfl rfl ?_)) rfl ?_
  · exact Nat.zero_le _
  rintro j hI
  try dsimp only at hI
  try dsimp only
  by_cases hj : j < most.length
  · have hr := hm.bd j hj
    repeat' (first
 | ((with_reducible apply aw_seq))
 | ((with_reducible apply aw_region))
 | ((with_reducible apply aw_block))
 | ((with_reducible apply thn_normal))
 | ((with_reducible apply inb_normal))
 | ((with_reducible apply aw_skip))
 | ((with_reducible apply ao_nil))
 | ((with_reducible apply r_move); exact rfl; exact rfl)
 | ((with_reducible apply r_assign); exact rfl; exact rfl)
 | ((with_reducible apply r_lss); exact rfl; exact rfl; exact rfl)
 | ((with_reducible apply r_gtr); exact rfl; exact rfl; exact rfl)
 | ((with_reducible apply r_add); exact rfl; exact rfl; exact (by first | assumption | (unfold fits; omega)); exact rfl)
 | ((with_reducible apply r_pick_f); exact rfl; exact rfl; exact rfl)
 | ((with_reducible apply r_index_f); exact rfl; exact inferInstance; exact rfl; exact rfl; (first | assumption | omega); exact rfl)
 | ((with_reducible apply r_load_f0); exact rfl; exact inferInstance; exact List.getElem?_eq_getElem (by first | assumption | omega); exact rfl; exact rfl)
 | (((with_reducible apply r_guard); exact rfl; exact rfl; exact rfl; exact rfl) <;> intro hg <;> (first | (exact absurd hg (by decide)) | ((try simp only [decide_eq_true_eq, decide_eq_false_iff_not, Bool.not_eq_true', Bool.not_eq_false', Bool.not_true, Bool.not_false, Bool.not_not, Int.not_lt, Int.not_le, Nat.not_lt, Nat.not_le, gt_iff_lt, ge_iff_le, List.cons.injEq, and_true] at hg); first | (exact absurd trivial hg) | (exfalso; omega) | (have hT : True := hg; clear hT hg) | skip)))
 | (((with_reducible apply aw_cond); exact rfl) <;> intro hg <;> (first | (exact absurd hg (by decide)) | ((try simp only [decide_eq_true_eq, decide_eq_false_iff_not, Bool.not_eq_true', Bool.not_eq_false', Bool.not_true, Bool.not_false, Bool.not_not, Int.not_lt, Int.not_le, Nat.not_lt, Nat.not_le, gt_iff_lt, ge_iff_le, List.cons.injEq, and_true] at hg); first | (exact absurd trivial hg) | (exfalso; omega) | (have hT : True := hg; clear hT hg) | skip)))
 )
    refine ⟨j + 1, ?_, ?_, by refine weak_mk rfl ?_ ?_ <;> repeat (first | exact envW_nil | exact heapW_nil | refine envW_cons rfl rfl ?_ | refine heapW_cons rfl rfl rfl ?_)⟩
    · omega
    · omega
  repeat' (first
 | ((with_reducible apply aw_seq))
 | ((with_reducible apply aw_region))
 | ((with_reducible apply thn_normal))
 | ((with_reducible apply thn_exit))
 | ((with_reducible apply inb_exit))
 | ((with_reducible apply aw_exit))
 | ((with_reducible apply aw_ret))
 | ((with_reducible apply ao_nil))
 | ((with_reducible apply r_assign); exact rfl; exact rfl)
 | ((with_reducible apply r_lss); exact rfl; exact rfl; exact rfl)
 | (((with_reducible apply aw_cond); exact rfl) <;> intro hg <;> (first | (exact absurd hg (by decide)) | ((try simp only [decide_eq_true_eq, decide_eq_false_iff_not, Bool.not_eq_true', Bool.not_eq_false', Bool.not_true, Bool.not_false, Bool.not_not, Int.not_lt, Int.not_le, Nat.not_lt, Nat.not_le, gt_iff_lt, ge_iff_le, List.cons.injEq, and_true] at hg); first | (exact absurd trivial hg) | (exfalso; omega) | (have hT : True := hg; clear hT hg) | skip)))
 )
  exact ret_i rfl rfl
theorem cnt_succ (f : Asg) (i n : Nat) : cnt f i (n + 1) = cnt f i n + if f n = some i then 1 else 0 := rfl
theorem cntL_set {f : Asg} {n k i : Nat} (hf : f k = some i) (hi : i < n) : (cntL f n k).set i ((cnt f i k : Int) + 1) = cntL f n (k + 1) := by
  apply List.ext_getElem?
  intro j
  rw [List.getElem?_set]
  by_cases hj : i = j
  · subst hj
    rw [if_pos rfl, if_pos (by rw [cntL_len]; exact hi), cntL_get f _ hi, cnt_succ, if_pos hf]
    rfl
  · rw [if_neg hj]
    by_cases hj2 : j < n
    · rw [cntL_get f _ hj2, cntL_get f _ hj2, cnt_succ, if_neg (fun h => hj (by rw [hf] at h; cases h; rfl))]
      rfl
    · rw [List.getElem?_eq_none (by rw [cntL_len]; omega), List.getElem?_eq_none (by rw [cntL_len]; omega)]
theorem cntL_same {f : Asg} {n k : Nat} (hf : ∀ i, i < n → f k ≠ some i) : cntL f n (k + 1) = cntL f n k := by
  apply List.ext_getElem?
  intro j
  by_cases hj2 : j < n
  · rw [cntL_get f _ hj2, cntL_get f _ hj2, cnt_succ, if_neg (hf j hj2)]; rfl
  · rw [List.getElem?_eq_none (by rw [cntL_len]; omega), List.getElem?_eq_none (by rw [cntL_len]; omega)]
theorem cntL_zero (f : Asg) (n : Nat) : cntL f n 0 = List.replicate n 0 := by
  apply List.ext_getElem?
  intro j
  by_cases hj2 : j < n
  · rw [cntL_get f _ hj2, List.getElem?_replicate, if_pos hj2]; rfl
  · rw [List.getElem?_eq_none (by rw [cntL_len]; omega), List.getElem?_eq_none (by simp; omega)]
theorem asgL_neg {l : List Int} {k : Nat} (h : k < l.length) (h0 : l[k] < 0) : asgL l k = none := by
  unfold asgL
  rw [List.getElem?_eq_getElem h]
  show (if 0 ≤ l[k] then _ else _) = _
  rw [if_neg (by omega)]
theorem asgL_pos {l : List Int} {k : Nat} (h : k < l.length) (h0 : 0 ≤ l[k]) : asgL l k = some l[k].toNat := by
  unfold asgL
  rw [List.getElem?_eq_getElem h]
  show (if 0 ≤ l[k] then _ else _) = _
  rw [if_pos h0]
theorem cntL_getI (f : Asg) {n k : Nat} (B : Nat) (h : k < n) (h2 : k < (cntL f n B).length) : (cntL f n B)[k] = (cnt f k B : Int) := by
  have := cntL_get f B h
  rw [List.getElem?_eq_getElem h2] at this
  exact Option.some.inj this
theorem counts_con (n : Nat) (to : List Int) (hn : n ≤ 32) (hl : to.length ≤ 100000) : Con Try.prog gl 11 [I n, LI to] (LI (cntL (asgL to) n to.length)) := by
  refine con_of Try.func11 rfl (by kernel_rfl) rfl ?_
  simp only [Try.ntmps11, Try.results11, argEnv, ofC, of1, List.map]
  repeat' (first
 | ((with_reducible apply r_make (enc := intC) (0 : Int) n); exact inferInstance; exact rfl; exact rfl; exact rfl; exact rfl; exact rfl; omega; omega; exact rfl)
 | ((with_reducible apply aw_seq))
 | ((with_reducible apply aw_region))
 | ((with_reducible apply aw_block))
 | ((with_reducible apply thn_normal))
 | ((with_reducible apply ao_nil))
 | ((with_reducible apply r_move); exact rfl; exact rfl)
 | ((with_reducible apply r_assign); exact rfl; exact rfl)
 )
  refine aw_loopG (G := Nat × List Int) (fun ((j, s) : Nat × List Int) => j ≤ to.length ∧ s = cntL (asgL to) n j) (fun ((j, s) : Nat × List Int) => to.length - j) (fun ((j, s) : Nat × List Int) => [(0, A n), (1, .c (LI to)), (5, .vec 0 n), (6, A j)]) (fun ((j, s) : Nat × List Int) => [(0, some (.vec 3 1 (s.flatMap intC)))]) 1 (0, List.replicate n 0) ?_ (by refine weak_mk rfl ?_ ?_ <;> repeat (first | exact envW_nil | exact heapW_nil | refine envW_cons rfl rfl ?_ | refine heapW_cons rfl rfl rfl ?_)) rfl ?_
  · exact ⟨Nat.zero_le _, (cntL_zero _ _).symm⟩
  rintro ⟨j, s⟩ hI
  try dsimp only at hI
  try dsimp only
  obtain ⟨hj, hs⟩ := hI
  have hsl : s.length = n := by rw [hs, cntL_len]
  by_cases hjl : j < to.length
  · by_cases hin : 0 ≤ to[j] ∧ to[j] < n
    · have hk : to[j].toNat < n := by omega
      have hv : s[to[j].toNat]'(by omega) = (cnt (asgL to) to[j].toNat j : Int) := by
        subst hs
        exact cntL_getI _ _ hk _
      have hcl := cnt_le (asgL to) to[j].toNat j
      have hset := cntL_set (asgL_pos hjl hin.1) hk (n := n)
      repeat' (first
 | ((with_reducible apply (r_store_v (enc := intC) (k := to[j].toNat) (l := s) ((cnt (asgL to) to[j].toNat j : Int) + 1))); exact rfl; exact rfl; exact inferInstance; exact hsl; exact (by omega); exact rfl; exact rfl; exact rfl; (rw [hv]; exact rfl))
 | ((with_reducible apply aw_seq))
 | ((with_reducible apply aw_region))
 | ((with_reducible apply aw_block))
 | ((with_reducible apply thn_normal))
 | ((with_reducible apply inb_normal))
 | ((with_reducible apply aw_skip))
 | ((with_reducible apply ao_nil))
 | ((with_reducible apply r_move); exact rfl; exact rfl)
 | ((with_reducible apply r_assign); exact rfl; exact rfl)
 | ((with_reducible apply r_lss); exact rfl; exact rfl; exact rfl)
 | ((with_reducible apply r_geq); exact rfl; exact rfl; exact rfl)
 | ((with_reducible apply r_add); exact rfl; exact rfl; exact (by first | assumption | (unfold fits; omega)); exact rfl)
 | ((with_reducible apply r_pick_t); exact rfl; exact rfl; exact rfl)
 | ((with_reducible apply r_len_f); exact rfl; exact inferInstance; exact rfl)
 | ((with_reducible apply r_index_f); exact rfl; exact inferInstance; exact rfl; exact rfl; (first | assumption | omega); exact rfl)
 | ((with_reducible apply r_load_f0); exact rfl; exact inferInstance; exact List.getElem?_eq_getElem (by first | assumption | omega); exact rfl; exact rfl)
 | ((with_reducible apply r_index_vf); exact rfl; exact rfl; exact inferInstance; (first | exact rfl | assumption | omega); exact rfl; exact (Int.toNat_of_nonneg (by omega)).symm; (first | assumption | omega); exact rfl)
 | ((with_reducible apply r_load_vf0); exact rfl; exact rfl; exact inferInstance; (first | exact rfl | assumption | omega); exact List.getElem?_eq_getElem (by first | assumption | omega); exact rfl; exact rfl)
 | (((with_reducible apply r_guard); exact rfl; exact rfl; exact rfl; exact rfl) <;> intro hg <;> (first | (exact absurd hg (by decide)) | ((try simp only [decide_eq_true_eq, decide_eq_false_iff_not, Bool.not_eq_true', Bool.not_eq_false', Bool.not_true, Bool.not_false, Bool.not_not, Int.not_lt, Int.not_le, Nat.not_lt, Nat.not_le, gt_iff_lt, ge_iff_le, List.cons.injEq, and_true] at hg); first | (exact absurd trivial hg) | (exfalso; omega) | (have hT : True := hg; clear hT hg) | skip)))
 | (((with_reducible apply aw_cond); exact rfl) <;> intro hg <;> (first | (exact absurd hg (by decide)) | ((try simp only [decide_eq_true_eq, decide_eq_false_iff_not, Bool.not_eq_true', Bool.not_eq_false', Bool.not_true, Bool.not_false, Bool.not_not, Int.not_lt, Int.not_le, Nat.not_lt, Nat.not_le, gt_iff_lt, ge_iff_le, List.cons.injEq, and_true] at hg); first | (exact absurd trivial hg) | (exfalso; omega) | (have hT : True := hg; clear hT hg) | skip)))
 )
      refine ⟨(j + 1, s.set to[j].toNat ((cnt (asgL to) to[j].toNat j : Int) + 1)), ?_, ?_, by refine weak_mk rfl ?_ ?_ <;> repeat (first | exact envW_nil | exact heapW_nil | refine envW_cons rfl rfl ?_ | refine heapW_cons rfl rfl rfl ?_)⟩
      · show to.length - (j + 1) < to.length - j; omega
      · exact ⟨by show j + 1 ≤ _; omega, by show List.set _ _ _ = _; rw [hs]; exact hset⟩
    · have hset : cntL (asgL to) n (j + 1) = cntL (asgL to) n j := cntL_same (fun i hi e => by
        by_cases h0 : 0 ≤ to[j]
        · rw [asgL_pos hjl h0] at e
          have := Option.some.inj e
          omega
        · rw [asgL_neg hjl (by omega)] at e; cases e)
      repeat' (first
 | ((with_reducible apply aw_seq))
 | ((with_reducible apply aw_region))
 | ((with_reducible apply aw_block))
 | ((with_reducible apply thn_normal))
 | ((with_reducible apply inb_normal))
 | ((with_reducible apply aw_skip))
 | ((with_reducible apply ao_nil))
 | ((with_reducible apply r_move); exact rfl; exact rfl)
 | ((with_reducible apply r_assign); exact rfl; exact rfl)
 | ((with_reducible apply r_lss); exact rfl; exact rfl; exact rfl)
 | ((with_reducible apply r_geq); exact rfl; exact rfl; exact rfl)
 | ((with_reducible apply r_add); exact rfl; exact rfl; exact (by first | assumption | (unfold fits; omega)); exact rfl)
 | ((with_reducible apply r_pick_t); exact rfl; exact rfl; exact rfl)
 | ((with_reducible apply r_pick_f); exact rfl; exact rfl; exact rfl)
 | ((with_reducible apply r_len_f); exact rfl; exact inferInstance; exact rfl)
 | ((with_reducible apply r_index_f); exact rfl; exact inferInstance; exact rfl; exact rfl; (first | assumption | omega); exact rfl)
 | ((with_reducible apply r_load_f0); exact rfl; exact inferInstance; exact List.getElem?_eq_getElem (by first | assumption | omega); exact rfl; exact rfl)
 | (((with_reducible apply r_guard); exact rfl; exact rfl; exact rfl; exact rfl) <;> intro hg <;> (first | (exact absurd hg (by decide)) | ((try simp only [decide_eq_true_eq, decide_eq_false_iff_not, Bool.not_eq_true', Bool.not_eq_false', Bool.not_true, Bool.not_false, Bool.not_not, Int.not_lt, Int.not_le, Nat.not_lt, Nat.not_le, gt_iff_lt, ge_iff_le, List.cons.injEq, and_true] at hg); first | (exact absurd trivial hg) | (exfalso; omega) | (have hT : True := hg; clear hT hg) | skip)))
 | (((with_reducible apply aw_cond); exact rfl) <;> intro hg <;> (first | (exact absurd hg (by decide)) | ((try simp only [decide_eq_true_eq, decide_eq_false_iff_not, Bool.not_eq_true', Bool.not_eq_false', Bool.not_true, Bool.not_false, Bool.not_not, Int.not_lt, Int.not_le, Nat.not_lt, Nat.not_le, gt_iff_lt, ge_iff_le, List.cons.injEq, and_true] at hg); first | (exact absurd trivial hg) | (exfalso; omega) | (have hT : True := hg; clear hT hg) | skip)))
 )
      all_goals
        refine ⟨(j + 1, s), ?_, ?_, by refine weak_mk rfl ?_ ?_ <;> repeat (first | exact envW_nil | exact heapW_nil | refine envW_cons rfl rfl ?_ | refine heapW_cons rfl rfl rfl ?_)⟩
        · show to.length - (j + 1) < to.length - j; omega
        · exact ⟨by show j + 1 ≤ _; omega, by show s = _; rw [hs]; exact hset.symm⟩
  obtain rfl : j = to.length := by omega
  repeat' (first
 | ((with_reducible apply aw_seq))
 | ((with_reducible apply aw_region))
 | ((with_reducible apply thn_normal))
 | ((with_reducible apply thn_exit))
 | ((with_reducible apply inb_exit))
 | ((with_reducible apply aw_exit))
 | ((with_reducible apply aw_ret))
 | ((with_reducible apply ao_nil))
 | ((with_reducible apply r_move); exact rfl; exact rfl)
 | ((with_reducible apply r_assign); exact rfl; exact rfl)
 | ((with_reducible apply r_lss); exact rfl; exact rfl; exact rfl)
 | ((with_reducible apply r_len_f); exact rfl; exact inferInstance; exact rfl)
 | (((with_reducible apply aw_cond); exact rfl) <;> intro hg <;> (first | (exact absurd hg (by decide)) | ((try simp only [decide_eq_true_eq, decide_eq_false_iff_not, Bool.not_eq_true', Bool.not_eq_false', Bool.not_true, Bool.not_false, Bool.not_not, Int.not_lt, Int.not_le, Nat.not_lt, Nat.not_le, gt_iff_lt, ge_iff_le, List.cons.injEq, and_true] at hg); first | (exact absurd trivial hg) | (exfalso; omega) | (have hT : True := hg; clear hT hg) | skip)))
 )
  rw [← hs]
  exact ret1 (.tmp rfl (cl_vec rfl (by rw [flat_len EncL.len, hsl])))
end Go.Proofs.Ytdndfncpglfdeaa.To
