/- GA: texts laid together. -/
import Derived.Test.YtdndfncpglfdeaaGreatDoorMrgI0
import Derived.Test.YtdndfncpglfdeaaGreatDoorMrgS
set_option maxRecDepth 100000
set_option maxHeartbeats 64000000

namespace Go.Proofs.YtdndfncpglfdeaaGreatDoor.Ge
set_option linter.unusedVariables false
set_option linter.unusedSimpArgs false
open Go.RowKit Go.Proofs.YtdndfncpglfdeaaGreatDoor.Ev
abbrev I (n:Int):CV:=.v (.int .i64 n)
abbrev A (n:Int):AV:=.c (.v (.int .i64 n))
abbrev T:CV:=.v (.bool true)
def ce (n:Int):List CV:=[I n]
instance:EncL ce 1:=⟨fun _=>rfl,by decide,fun _=>rfl⟩
abbrev LI (l:List Int):CV:=.lst 1 (l.flatMap ce)
abbrev an:=Int×Int
def gw (s:an):List CV:=[I s.1,I s.2]
instance:EncL gw 2:=⟨fun _=>rfl,by decide,fun _=>rfl⟩
abbrev LS (l:List an):CV:=.lst 2 (l.flatMap gw)
abbrev spV (s:an):CV:=.agg [I s.1,I s.2]
structure Sec where
 low:Int
 rows:List an
abbrev secC (s:Sec):CV:=.agg [I s.low,LS s.rows]
abbrev secB (s:Sec):AB:=.cells 121 [A s.low,.c (LS s.rows)]
def sec0:Sec:=⟨0,[]⟩
theorem fe {α:Type} {p:α→Bool} {l:List α} (h:∀ i (h:i < l.length),p l[i]=true):l.all p=true:=by
 rw [List.all_eq_true];intro x hx;obtain ⟨i,hi,rfl⟩:=List.mem_iff_getElem.1 hx;exact h i hi
theorem gJ {α:Type} {p:α→Bool} {l:List α} {i:Nat} (hi:i < l.length) (h:p l[i]=false):l.all p=false:=by
 rw [List.all_eq_false];exact ⟨l[i],List.getElem_mem _,by simp [h]⟩
theorem d9 {α:Type} {p:α→Bool} {l:List α} {j:Nat} (hj:j < l.length) (h:∀ i (h:i < l.length),i < j→p l[i]=true) (hp:p l[j]=true):∀ i (h:i < l.length),i < j+1→p l[i]=true:=by
 intro i hi hij
 by_cases he:i=j
 ·subst he;exact hp
 ·exact h i hi (by omega)
theorem bk {α:Type} (l:List α) (j:Nat) (h:j < l.length):l.drop j=l[j]::l.drop (j+1):=List.drop_eq_getElem_cons h
variable {gl:List (Nat×List CV)}
def aO (s:an):Bool:=decide (s.2≤s.1)
def dD (s:an):Bool:=decide (-600≤s.1∧-600≤s.2∧s.1≤600∧s.2≤600)
theorem gE (a b:Int):bm Tryz.prog gl 92 [.agg [I a,I b]] (.v (.bool (aO (a,b)))):=by
 refine ao Tryz.func92 rfl (by kernel_rfl) rfl ?_
 simp only [Tryz.ntmps92,Tryz.results92,am,ofC,aZ,List.map]
 repeat' (first
 | (refine zs ?_)
 | fail
 )
 exact aK rfl rfl
theorem empty_con (a b:Int):bm Tryz.prog gl 89 [.agg [I a,I b]] (.v (.bool (aO (a,b)))):=by
 refine ao Tryz.func89 rfl (by kernel_rfl) rfl ?_
 simp only [Tryz.ntmps89,Tryz.results89,am,ofC,aZ,List.map]
 repeat' (first
 | (refine zs ?_)
 | fail
 )
 exact aK rfl rfl
theorem inRange_con (a b:Int):bm Tryz.prog gl 132 [.agg [I a,I b]] (.v (.bool (dD (a,b)))):=by
 refine ao Tryz.func132 rfl (by kernel_rfl) rfl ?_
 simp only [Tryz.ntmps132,Tryz.results132,am,ofC,aZ,List.map]
 repeat' (first
 | (((with_reducible apply aj);iterate 4 exact rfl)<;>intro hg<;>(first|(exact absurd hg (by decide))|((try simp only [qz,ge_iff_le,List.cons.injEq,and_true] at hg);first|(exact absurd trivial hg)|(exfalso;omega)|(have hT:True:=hg;clear hT hg)|skip)))
 | (refine zs ?_)
 | fail
 )
 all_goals first
  | exact aK rfl (by unfold dD;rw [eq_comm,decide_eq_false_iff_not];dsimp only;omega)
  | exact aK rfl (decide_eq_decide.2 (by dsimp only;omega))
theorem beyond_con (a:Int):bm Tryz.prog gl 88 [I a] (.v (.bool (decide (a < -600∨600 < a)))):=by
 refine ao Tryz.func88 rfl (by kernel_rfl) rfl ?_
 simp only [Tryz.ntmps88,Tryz.results88,am,ofC,aZ,List.map]
 repeat' (first
 | (((with_reducible apply aj);iterate 4 exact rfl)<;>intro hg<;>(first|(exact absurd hg (by decide))|((try simp only [qz,ge_iff_le,List.cons.injEq,and_true] at hg);first|(exact absurd trivial hg)|(exfalso;omega)|(have hT:True:=hg;clear hT hg)|skip)))
 | (refine zs ?_)
 | fail
 )
 all_goals first
  | exact aK rfl (by rw [eq_comm,decide_eq_true_eq];omega)
  | exact aK rfl (decide_eq_decide.2 (by omega))
def gB (s:an):Bool:=!aO s || decide (s.1=0∧s.2=0)
def eo (l:List an):Prop:=∃ h:0 < l.length,aO (l[0]'h)=true∨aO (l[l.length - 1]'(by omega))=true
def fA (s:Sec):Prop:=-60≤s.low∧s.low+s.rows.length≤60
noncomputable def bq (s:Sec):Int :=
 open Classical in
 if 120 < s.rows.length then 4 else if ¬ fA s then 9 else if s.rows.all dD=false then 9
 else if s.rows.length=0 then (if s.low=0 then 0 else 19) else if eo s.rows then 19 else if s.rows.all gB=true then 0 else 19
theorem sc_long {s:Sec} (h:120 < s.rows.length):4=bq s:=by unfold bq;rw [if_pos h]
theorem sc_head {s:Sec} (h:¬ 120 < s.rows.length) (h2:¬ fA s):9=bq s:=by unfold bq;rw [if_neg h,if_pos h2]
theorem sc_range {s:Sec} (h:¬ 120 < s.rows.length) (h2:fA s) {j:Nat} (hj:j < s.rows.length) (h3:dD s.rows[j]=false):9=bq s:=by unfold bq;rw [if_neg h,if_neg (fun hh=>hh h2),if_pos (gJ hj h3)]
structure SecR (s:Sec):Prop where
 len:¬ 120 < s.rows.length
 head:fA s
 range:∀ i (h:i < s.rows.length),dD s.rows[i]=true
theorem sc_none {s:Sec} (r:SecR s) (h:s.rows.length=0):bq s=if s.low=0 then 0 else 19:=by
 unfold bq;rw [if_neg r.len,if_neg (fun hh=>hh r.head),if_neg (by rw [fe r.range];simp),if_pos h]
theorem sc_ends {s:Sec} (r:SecR s) (h:¬ s.rows.length=0) (h2:eo s.rows):19=bq s:=by
 unfold bq;rw [if_neg r.len,if_neg (fun hh=>hh r.head),if_neg (by rw [fe r.range];simp),if_neg h,if_pos h2]
theorem sc_row {s:Sec} (r:SecR s) (h:¬ s.rows.length=0) (h2:¬ eo s.rows) {j:Nat} (hj:j < s.rows.length) (h3:gB s.rows[j]=false):19=bq s:=by
 unfold bq;rw [if_neg r.len,if_neg (fun hh=>hh r.head),if_neg (by rw [fe r.range];simp),if_neg h,if_neg h2,if_neg (by rw [gJ hj h3];simp)]
theorem sc_ok {s:Sec} (r:SecR s) (h:¬ s.rows.length=0) (h2:¬ eo s.rows) (h3:∀ i (h:i < s.rows.length),gB s.rows[i]=true):0=bq s:=by
 unfold bq;rw [if_neg r.len,if_neg (fun hh=>hh r.head),if_neg (by rw [fe r.range];simp),if_neg h,if_neg h2,if_pos (fe h3)]
theorem range_get {a:an} (h:dD a=true):-600≤a.1∧-600≤a.2∧a.1≤600∧a.2≤600:=by unfold dD at h;simpa using h
theorem range_not {a:an} (h:¬ (-600≤a.1∧-600≤a.2∧a.1≤600∧a.2≤600)):dD a=false:=by unfold dD;exact decide_eq_false h
theorem range_is {a:an} (h:-600≤a.1∧-600≤a.2∧a.1≤600∧a.2≤600):dD a=true:=by unfold dD;exact decide_eq_true h
theorem iq (s:Sec):bm Tryz.prog gl 94 [secC s] (I (bq s)):=by
 refine ao Tryz.func94 rfl (by kernel_rfl) rfl ?_
 simp only [Tryz.ntmps94,Tryz.results94,am,ofC,aZ,List.map]
 by_cases hl:120 < s.rows.length
 ·skip
  repeat' (first
 | (((with_reducible apply aa);exact rfl)<;>intro hg<;>(first|(exact absurd hg (by decide))|((try simp only [qz,ge_iff_le,List.cons.injEq,and_true] at hg);first|(exact absurd trivial hg)|(exfalso;omega)|(have hT:True:=hg;clear hT hg)|skip)))
 | (refine zs ?_)
 | fail
 )
  exact aB rfl (sc_long hl)
 by_cases hh:fA s
 rotate_left
 ·have hh':=hh
  unfold fA at hh'
  repeat' (first
 | ((first|((with_reducible apply aj);iterate 4 exact rfl)|((with_reducible apply aa);exact rfl))<;>intro hg<;>(first|(exact absurd hg (by decide))|((try simp only [qz,ge_iff_le,List.cons.injEq,and_true] at hg);first|(exact absurd trivial hg)|(exfalso;omega)|(have hT:True:=hg;clear hT hg)|skip)))
 | (refine zs ?_)
 | fail
 )
  all_goals exact aB rfl (sc_head hl hh)
 have hh':=hh
 unfold fA at hh'
 repeat' (first
 | ((first|((with_reducible apply aj);iterate 4 exact rfl)|((with_reducible apply aa);exact rfl))<;>intro hg<;>(first|(exact absurd hg (by decide))|((try simp only [qz,ge_iff_le,List.cons.injEq,and_true] at hg);first|(exact absurd trivial hg)|(exfalso;omega)|(have hT:True:=hg;clear hT hg)|skip)))
 | (refine zs ?_)
 | fail
 )
 refine au (G:=Nat) (fun (j:Nat)=>j≤s.rows.length∧∀ i (h:i < s.rows.length),i < j→dD s.rows[i]=true) (fun (j:Nat)=>s.rows.length - j) (fun (j:Nat)=>[(1,.ptr 0 0),(3,A s.rows.length),(24,.c (LS s.rows)),(25,A s.rows.length),(26,A j)]) (fun (j:Nat)=>[(0,some (secB s))]) 1 0 ?_ (by refine ak rfl ?_ ?_<;>repeat (first|exact ai|exact ac|refine ae rfl rfl ?_|refine ab rfl rfl rfl ?_)) rfl ?_
 ·exact ⟨Nat.zero_le _,fun _ _ h=>absurd h (Nat.not_lt_zero _)⟩
 rintro j hI
 try dsimp only at hI
 try dsimp only
 obtain ⟨hj,hall⟩:=hI
 by_cases hjl:j < s.rows.length
 ·cases hr:dD s.rows[j] with
  | false =>
   have hc:=inRange_con (gl:=gl) s.rows[j].1 s.rows[j].2
   rw [show dD (s.rows[j].1,s.rows[j].2)=false from hr] at hc
   repeat' (first
 | ((with_reducible apply ah);exact rfl;exact rfl;exact hc;exact rfl;exact rfl)
 | (((with_reducible apply aa);exact rfl)<;>intro hg<;>(first|(exact absurd hg (by decide))|((try simp only [qz,ge_iff_le,List.cons.injEq,and_true] at hg);first|(exact absurd trivial hg)|(exfalso;omega)|(have hT:True:=hg;clear hT hg)|skip)))
 | (refine zs ?_)
 | fail
 )
   exact aB rfl (sc_range hl hh hjl hr)
  | true =>
   have hc:=inRange_con (gl:=gl) s.rows[j].1 s.rows[j].2
   rw [show dD (s.rows[j].1,s.rows[j].2)=true from hr] at hc
   repeat' (first
 | ((with_reducible apply ah);exact rfl;exact rfl;exact hc;exact rfl;exact rfl)
 | (((with_reducible apply aa);exact rfl)<;>intro hg<;>(first|(exact absurd hg (by decide))|((try simp only [qz,ge_iff_le,List.cons.injEq,and_true] at hg);first|(exact absurd trivial hg)|(exfalso;omega)|(have hT:True:=hg;clear hT hg)|skip)))
 | (refine zs ?_)
 | fail
 )
   refine ⟨j+1,?_,?_,by refine ak rfl ?_ ?_<;>repeat (first|exact ai|exact ac|refine ae rfl rfl ?_|refine ab rfl rfl rfl ?_)⟩
   ·show _ - (j+1) < _ - j;omega
   ·exact ⟨by show j+1≤_;omega,d9 hjl hall hr⟩
 have r:SecR s:=⟨hl,hh,fun i hi=>hall i hi (by omega)⟩
 by_cases h0:s.rows.length=0
 ·have hn:=(sc_none r h0).symm
  by_cases hlow:s.low=0
  ·rw [if_pos hlow] at hn
   repeat' (first
 | (((with_reducible apply aa);exact rfl)<;>intro hg<;>(first|(exact absurd hg (by decide))|((try simp only [qz,ge_iff_le,List.cons.injEq,and_true] at hg);first|(exact absurd trivial hg)|(exfalso;omega)|(have hT:True:=hg;clear hT hg)|skip)))
 | (refine zs ?_)
 | fail
 )
   exact aB rfl hn
  ·rw [if_neg hlow] at hn
   repeat' (first
 | (((with_reducible apply aa);exact rfl)<;>intro hg<;>(first|(exact absurd hg (by decide))|((try simp only [qz,ge_iff_le,List.cons.injEq,and_true] at hg);first|(exact absurd trivial hg)|(exfalso;omega)|(have hT:True:=hg;clear hT hg)|skip)))
 | (refine zs ?_)
 | fail
 )
   exact aB rfl hn
 have hc0:=gE (gl:=gl) (s.rows[0]'(by omega)).1 (s.rows[0]'(by omega)).2
 have hc1:=gE (gl:=gl) (s.rows[((s.rows.length:Int) - 1).toNat]'(by omega)).1 (s.rows[((s.rows.length:Int) - 1).toNat]'(by omega)).2
 have hbad:eo s.rows↔(aO (s.rows[0]'(by omega))=true∨aO (s.rows[((s.rows.length:Int) - 1).toNat]'(by omega))=true):=by
  have e:((s.rows.length:Int) - 1).toNat=s.rows.length - 1:=by omega
  unfold eo
  simp only [e]
  exact ⟨fun ⟨_,h⟩=>h,fun h=>⟨by omega,h⟩⟩
 cases he0:aO (s.rows[0]'(by omega)) with
 | true =>
  rw [show aO ((s.rows[0]'(by omega)).1,(s.rows[0]'(by omega)).2)=true from he0] at hc0
  repeat' (first
 | ((with_reducible apply (bD (k:=0)));exact rfl;exact inferInstance;exact rfl;exact rfl;(omega);exact rfl)
 | ((with_reducible apply ah);exact rfl;exact rfl;exact hc0;exact rfl;exact rfl)
 | ((first|((with_reducible apply aj);iterate 4 exact rfl)|((with_reducible apply aa);exact rfl))<;>intro hg<;>(first|(exact absurd hg (by decide))|((try simp only [qz,ge_iff_le,List.cons.injEq,and_true] at hg);first|(exact absurd trivial hg)|(exfalso;omega)|(have hT:True:=hg;clear hT hg)|skip)))
 | (refine zs ?_)
 | fail
 )
  exact aB rfl (sc_ends r h0 (hbad.2 (.inl he0)))
 | false =>
 rw [show aO ((s.rows[0]'(by omega)).1,(s.rows[0]'(by omega)).2)=false from he0] at hc0
 cases he1:aO (s.rows[((s.rows.length:Int) - 1).toNat]'(by omega)) with
 | true =>
  rw [show aO ((s.rows[((s.rows.length:Int) - 1).toNat]'(by omega)).1,(s.rows[((s.rows.length:Int) - 1).toNat]'(by omega)).2)=true from he1] at hc1
  repeat' (first
 | ((with_reducible apply (bD (k:=0)));exact rfl;exact inferInstance;exact rfl;exact rfl;(omega);exact rfl)
 | ((with_reducible apply ah);exact rfl;exact rfl;(first|exact hc0|exact hc1);exact rfl;exact rfl)
 | ((first|((with_reducible apply aj);iterate 4 exact rfl)|((with_reducible apply aa);exact rfl))<;>intro hg<;>(first|(exact absurd hg (by decide))|((try simp only [qz,ge_iff_le,List.cons.injEq,and_true] at hg);first|(exact absurd trivial hg)|(exfalso;omega)|(have hT:True:=hg;clear hT hg)|skip)))
 | (refine zs ?_)
 | fail
 )
  exact aB rfl (sc_ends r h0 (hbad.2 (.inr he1)))
 | false =>
 rw [show aO ((s.rows[((s.rows.length:Int) - 1).toNat]'(by omega)).1,(s.rows[((s.rows.length:Int) - 1).toNat]'(by omega)).2)=false from he1] at hc1
 have hnb:¬ eo s.rows:=fun hh=>by rcases hbad.1 hh with h|h<;>simp_all
 repeat' (first
 | ((with_reducible apply (bD (k:=0)));exact rfl;exact inferInstance;exact rfl;exact rfl;(omega);exact rfl)
 | ((with_reducible apply ah);exact rfl;exact rfl;(first|exact hc0|exact hc1);exact rfl;exact rfl)
 | ((first|((with_reducible apply aj);iterate 4 exact rfl)|((with_reducible apply aa);exact rfl))<;>intro hg<;>(first|(exact absurd hg (by decide))|((try simp only [qz,ge_iff_le,List.cons.injEq,and_true] at hg);first|(exact absurd trivial hg)|(exfalso;omega)|(have hT:True:=hg;clear hT hg)|skip)))
 | (refine zs ?_)
 | fail
 )
 clear hall
 refine au (G:=Nat) (fun (q:Nat)=>q≤s.rows.length∧∀ i (h:i < s.rows.length),i < q→gB s.rows[i]=true) (fun (q:Nat)=>s.rows.length - q) (fun (q:Nat)=>[(54,.c (LS s.rows)),(55,A s.rows.length),(56,A q)]) (fun (q:Nat)=>[(0,some (secB s))]) 1 0 ?_ (by refine ak rfl ?_ ?_<;>repeat (first|exact ai|exact ac|refine ae rfl rfl ?_|refine ab rfl rfl rfl ?_)) rfl ?_
 ·exact ⟨Nat.zero_le _,fun _ _ h=>absurd h (Nat.not_lt_zero _)⟩
 rintro q hI
 try dsimp only at hI
 try dsimp only
 obtain ⟨hq,hall⟩:=hI
 by_cases hql:q < s.rows.length
 ·have hc:=gE (gl:=gl) s.rows[q].1 s.rows[q].2
  cases he:aO s.rows[q] with
  | false =>
   rw [show aO (s.rows[q].1,s.rows[q].2)=false from he] at hc
   repeat' (first
 | ((with_reducible apply ah);exact rfl;exact rfl;exact hc;exact rfl;exact rfl)
 | ((first|((with_reducible apply aj);iterate 4 exact rfl)|((with_reducible apply aa);exact rfl))<;>intro hg<;>(first|(exact absurd hg (by decide))|((try simp only [qz,ge_iff_le,List.cons.injEq,and_true] at hg);first|(exact absurd trivial hg)|(exfalso;omega)|(have hT:True:=hg;clear hT hg)|skip)))
 | (refine zs ?_)
 | fail
 )
   refine ⟨q+1,?_,?_,by refine ak rfl ?_ ?_<;>repeat (first|exact ai|exact ac|refine ae rfl rfl ?_|refine ab rfl rfl rfl ?_)⟩
   ·show _ - (q+1) < _ - q;omega
   ·exact ⟨by show q+1≤_;omega,d9 hql hall (by unfold gB;rw [he];rfl)⟩
  | true =>
   rw [show aO (s.rows[q].1,s.rows[q].2)=true from he] at hc
   by_cases hz:s.rows[q].1=0∧s.rows[q].2=0
   ·obtain ⟨z1,z2⟩:=hz
    repeat' (first
 | ((with_reducible apply ah);exact rfl;exact rfl;exact hc;exact rfl;exact rfl)
 | ((first|((with_reducible apply aj);iterate 4 exact rfl)|((with_reducible apply aa);exact rfl))<;>intro hg<;>(first|(exact absurd hg (by decide))|((try simp only [qz,ge_iff_le,List.cons.injEq,and_true] at hg);first|(exact absurd trivial hg)|(exfalso;omega)|(have hT:True:=hg;clear hT hg)|skip)))
 | (refine zs ?_)
 | fail
 )
    refine ⟨q+1,?_,?_,by refine ak rfl ?_ ?_<;>repeat (first|exact ai|exact ac|refine ae rfl rfl ?_|refine ab rfl rfl rfl ?_)⟩
    ·show _ - (q+1) < _ - q;omega
    ·exact ⟨by show q+1≤_;omega,d9 hql hall (by unfold gB;rw [he,decide_eq_true ⟨z1,z2⟩];rfl)⟩
   ·skip
    repeat' (first
 | ((with_reducible apply ah);exact rfl;exact rfl;exact hc;exact rfl;exact rfl)
 | ((first|((with_reducible apply aj);iterate 4 exact rfl)|((with_reducible apply aa);exact rfl))<;>intro hg<;>(first|(exact absurd hg (by decide))|((try simp only [qz,ge_iff_le,List.cons.injEq,and_true] at hg);first|(exact absurd trivial hg)|(exfalso;omega)|(have hT:True:=hg;clear hT hg)|skip)))
 | (refine zs ?_)
 | fail
 )
    exact aB rfl (sc_row r h0 hnb hql (by unfold gB;rw [he,decide_eq_false hz];rfl))
 ·skip
  repeat' (first
 | (((with_reducible apply aa);exact rfl)<;>intro hg<;>(first|(exact absurd hg (by decide))|((try simp only [qz,ge_iff_le,List.cons.injEq,and_true] at hg);first|(exact absurd trivial hg)|(exfalso;omega)|(have hT:True:=hg;clear hT hg)|skip)))
 | (refine zs ?_)
 | fail
 )
  exact aB rfl (sc_ok r h0 hnb (fun i hi=>hall i hi (by omega)))
theorem rcheck_con (s:Sec):bm Tryz.prog gl 44 [secC s] (I (bq s)):=by
 refine ao Tryz.func44 rfl (by kernel_rfl) rfl ?_
 simp only [Tryz.ntmps44,Tryz.results44,am,ofC,aZ,List.map]
 by_cases hl:120 < s.rows.length
 ·skip
  repeat' (first
 | (((with_reducible apply aa);exact rfl)<;>intro hg<;>(first|(exact absurd hg (by decide))|((try simp only [qz,ge_iff_le,List.cons.injEq,and_true] at hg);first|(exact absurd trivial hg)|(exfalso;omega)|(have hT:True:=hg;clear hT hg)|skip)))
 | (refine zs ?_)
 | fail
 )
  exact aB rfl (sc_long hl)
 by_cases hh:fA s
 rotate_left
 ·have hh':=hh
  unfold fA at hh'
  repeat' (first
 | ((first|((with_reducible apply aj);iterate 4 exact rfl)|((with_reducible apply aa);exact rfl))<;>intro hg<;>(first|(exact absurd hg (by decide))|((try simp only [qz,ge_iff_le,List.cons.injEq,and_true] at hg);first|(exact absurd trivial hg)|(exfalso;omega)|(have hT:True:=hg;clear hT hg)|skip)))
 | (refine zs ?_)
 | fail
 )
  all_goals exact aB rfl (sc_head hl hh)
 have hh':=hh
 unfold fA at hh'
 repeat' (first
 | ((first|((with_reducible apply aj);iterate 4 exact rfl)|((with_reducible apply aa);exact rfl))<;>intro hg<;>(first|(exact absurd hg (by decide))|((try simp only [qz,ge_iff_le,List.cons.injEq,and_true] at hg);first|(exact absurd trivial hg)|(exfalso;omega)|(have hT:True:=hg;clear hT hg)|skip)))
 | (refine zs ?_)
 | fail
 )
 refine au (G:=Nat) (fun (j:Nat)=>j≤s.rows.length∧∀ i (h:i < s.rows.length),i < j→dD s.rows[i]=true) (fun (j:Nat)=>s.rows.length - j) (fun (j:Nat)=>[(1,.ptr 0 0),(3,A s.rows.length),(4,A j)]) (fun (j:Nat)=>[(0,some (secB s))]) 1 0 ?_ (by refine ak rfl ?_ ?_<;>repeat (first|exact ai|exact ac|refine ae rfl rfl ?_|refine ab rfl rfl rfl ?_)) rfl ?_
 ·exact ⟨Nat.zero_le _,fun _ _ h=>absurd h (Nat.not_lt_zero _)⟩
 rintro j hI
 try dsimp only at hI
 try dsimp only
 obtain ⟨hj,hall⟩:=hI
 by_cases hjl:j < s.rows.length
 ·have hc:=beyond_con (gl:=gl) s.rows[j].1
  have hd:=beyond_con (gl:=gl) s.rows[j].2
  repeat' (first
 | ((with_reducible apply ah);exact rfl;exact rfl;(first|exact hc|exact hd);exact rfl;exact rfl)
 | ((first|((with_reducible apply aj);iterate 4 exact rfl)|((with_reducible apply aa);exact rfl))<;>intro hg<;>(first|(exact absurd hg (by decide))|((try simp only [qz,ge_iff_le,List.cons.injEq,and_true] at hg);first|(exact absurd trivial hg)|(exfalso;omega)|(have hT:True:=hg;clear hT hg)|skip)))
 | (refine zs ?_)
 | fail
 )
  all_goals first|exact aB rfl (sc_range hl hh hjl (range_not (by omega)))|skip
  refine ⟨j+1,?_,?_,by refine ak rfl ?_ ?_<;>repeat (first|exact ai|exact ac|refine ae rfl rfl ?_|refine ab rfl rfl rfl ?_)⟩
  ·show _ - (j+1) < _ - j;omega
  ·exact ⟨by show j+1≤_;omega,d9 hjl hall (range_is (by omega))⟩
 have r:SecR s:=⟨hl,hh,fun i hi=>hall i hi (by omega)⟩
 by_cases h0:s.rows.length=0
 ·have hn:=(sc_none r h0).symm
  by_cases hlow:s.low=0
  ·rw [if_pos hlow] at hn
   repeat' (first
 | (((with_reducible apply aa);exact rfl)<;>intro hg<;>(first|(exact absurd hg (by decide))|((try simp only [qz,ge_iff_le,List.cons.injEq,and_true] at hg);first|(exact absurd trivial hg)|(exfalso;omega)|(have hT:True:=hg;clear hT hg)|skip)))
 | (refine zs ?_)
 | fail
 )
   exact aB rfl hn
  ·rw [if_neg hlow] at hn
   repeat' (first
 | (((with_reducible apply aa);exact rfl)<;>intro hg<;>(first|(exact absurd hg (by decide))|((try simp only [qz,ge_iff_le,List.cons.injEq,and_true] at hg);first|(exact absurd trivial hg)|(exfalso;omega)|(have hT:True:=hg;clear hT hg)|skip)))
 | (refine zs ?_)
 | fail
 )
   exact aB rfl hn
 have hc0:=empty_con (gl:=gl) (s.rows[0]'(by omega)).1 (s.rows[0]'(by omega)).2
 have hc1:=empty_con (gl:=gl) (s.rows[((s.rows.length:Int) - 1).toNat]'(by omega)).1 (s.rows[((s.rows.length:Int) - 1).toNat]'(by omega)).2
 have hbad:eo s.rows↔(aO (s.rows[0]'(by omega))=true∨aO (s.rows[((s.rows.length:Int) - 1).toNat]'(by omega))=true):=by
  have e:((s.rows.length:Int) - 1).toNat=s.rows.length - 1:=by omega
  unfold eo
  simp only [e]
  exact ⟨fun ⟨_,h⟩=>h,fun h=>⟨by omega,h⟩⟩
 cases he0:aO (s.rows[0]'(by omega)) with
 | true =>
  rw [show aO ((s.rows[0]'(by omega)).1,(s.rows[0]'(by omega)).2)=true from he0] at hc0
  repeat' (first
 | ((with_reducible apply (bD (k:=0)));exact rfl;exact inferInstance;exact rfl;exact rfl;(omega);exact rfl)
 | ((with_reducible apply ah);exact rfl;exact rfl;exact hc0;exact rfl;exact rfl)
 | ((first|((with_reducible apply aj);iterate 4 exact rfl)|((with_reducible apply aa);exact rfl))<;>intro hg<;>(first|(exact absurd hg (by decide))|((try simp only [qz,ge_iff_le,List.cons.injEq,and_true] at hg);first|(exact absurd trivial hg)|(exfalso;omega)|(have hT:True:=hg;clear hT hg)|skip)))
 | (refine zs ?_)
 | fail
 )
  exact aB rfl (sc_ends r h0 (hbad.2 (.inl he0)))
 | false =>
 rw [show aO ((s.rows[0]'(by omega)).1,(s.rows[0]'(by omega)).2)=false from he0] at hc0
 cases he1:aO (s.rows[((s.rows.length:Int) - 1).toNat]'(by omega)) with
 | true =>
  rw [show aO ((s.rows[((s.rows.length:Int) - 1).toNat]'(by omega)).1,(s.rows[((s.rows.length:Int) - 1).toNat]'(by omega)).2)=true from he1] at hc1
  repeat' (first
 | ((with_reducible apply (bD (k:=0)));exact rfl;exact inferInstance;exact rfl;exact rfl;(omega);exact rfl)
 | ((with_reducible apply ah);exact rfl;exact rfl;(first|exact hc0|exact hc1);exact rfl;exact rfl)
 | ((first|((with_reducible apply aj);iterate 4 exact rfl)|((with_reducible apply aa);exact rfl))<;>intro hg<;>(first|(exact absurd hg (by decide))|((try simp only [qz,ge_iff_le,List.cons.injEq,and_true] at hg);first|(exact absurd trivial hg)|(exfalso;omega)|(have hT:True:=hg;clear hT hg)|skip)))
 | (refine zs ?_)
 | fail
 )
  exact aB rfl (sc_ends r h0 (hbad.2 (.inr he1)))
 | false =>
 rw [show aO ((s.rows[((s.rows.length:Int) - 1).toNat]'(by omega)).1,(s.rows[((s.rows.length:Int) - 1).toNat]'(by omega)).2)=false from he1] at hc1
 have hnb:¬ eo s.rows:=fun hh=>by rcases hbad.1 hh with h|h<;>simp_all
 repeat' (first
 | ((with_reducible apply (bD (k:=0)));exact rfl;exact inferInstance;exact rfl;exact rfl;(omega);exact rfl)
 | ((with_reducible apply ah);exact rfl;exact rfl;(first|exact hc0|exact hc1);exact rfl;exact rfl)
 | ((first|((with_reducible apply aj);iterate 4 exact rfl)|((with_reducible apply aa);exact rfl))<;>intro hg<;>(first|(exact absurd hg (by decide))|((try simp only [qz,ge_iff_le,List.cons.injEq,and_true] at hg);first|(exact absurd trivial hg)|(exfalso;omega)|(have hT:True:=hg;clear hT hg)|skip)))
 | (refine zs ?_)
 | fail
 )
 clear hall
 refine au (G:=Nat) (fun (q:Nat)=>q≤s.rows.length∧∀ i (h:i < s.rows.length),i < q→gB s.rows[i]=true) (fun (q:Nat)=>s.rows.length - q) (fun (q:Nat)=>[(1,.ptr 0 0),(3,A s.rows.length),(5,A q)]) (fun (q:Nat)=>[(0,some (secB s))]) 1 0 ?_ (by refine ak rfl ?_ ?_<;>repeat (first|exact ai|exact ac|refine ae rfl rfl ?_|refine ab rfl rfl rfl ?_)) rfl ?_
 ·exact ⟨Nat.zero_le _,fun _ _ h=>absurd h (Nat.not_lt_zero _)⟩
 rintro q hI
 try dsimp only at hI
 try dsimp only
 obtain ⟨hq,hall⟩:=hI
 by_cases hql:q < s.rows.length
 ·have hc:=empty_con (gl:=gl) s.rows[q].1 s.rows[q].2
  cases he:aO s.rows[q] with
  | false =>
   rw [show aO (s.rows[q].1,s.rows[q].2)=false from he] at hc
   repeat' (first
 | ((with_reducible apply ah);exact rfl;exact rfl;exact hc;exact rfl;exact rfl)
 | ((first|((with_reducible apply aj);iterate 4 exact rfl)|((with_reducible apply aa);exact rfl))<;>intro hg<;>(first|(exact absurd hg (by decide))|((try simp only [qz,ge_iff_le,List.cons.injEq,and_true] at hg);first|(exact absurd trivial hg)|(exfalso;omega)|(have hT:True:=hg;clear hT hg)|skip)))
 | (refine zs ?_)
 | fail
 )
   refine ⟨q+1,?_,?_,by refine ak rfl ?_ ?_<;>repeat (first|exact ai|exact ac|refine ae rfl rfl ?_|refine ab rfl rfl rfl ?_)⟩
   ·show _ - (q+1) < _ - q;omega
   ·exact ⟨by show q+1≤_;omega,d9 hql hall (by unfold gB;rw [he];rfl)⟩
  | true =>
   rw [show aO (s.rows[q].1,s.rows[q].2)=true from he] at hc
   by_cases hz:s.rows[q].1=0∧s.rows[q].2=0
   ·obtain ⟨z1,z2⟩:=hz
    repeat' (first
 | ((with_reducible apply ah);exact rfl;exact rfl;exact hc;exact rfl;exact rfl)
 | ((first|((with_reducible apply aj);iterate 4 exact rfl)|((with_reducible apply aa);exact rfl))<;>intro hg<;>(first|(exact absurd hg (by decide))|((try simp only [qz,ge_iff_le,List.cons.injEq,and_true] at hg);first|(exact absurd trivial hg)|(exfalso;omega)|(have hT:True:=hg;clear hT hg)|skip)))
 | (refine zs ?_)
 | fail
 )
    refine ⟨q+1,?_,?_,by refine ak rfl ?_ ?_<;>repeat (first|exact ai|exact ac|refine ae rfl rfl ?_|refine ab rfl rfl rfl ?_)⟩
    ·show _ - (q+1) < _ - q;omega
    ·exact ⟨by show q+1≤_;omega,d9 hql hall (by unfold gB;rw [he,decide_eq_true ⟨z1,z2⟩];rfl)⟩
   ·skip
    repeat' (first
 | ((with_reducible apply ah);exact rfl;exact rfl;exact hc;exact rfl;exact rfl)
 | ((first|((with_reducible apply aj);iterate 4 exact rfl)|((with_reducible apply aa);exact rfl))<;>intro hg<;>(first|(exact absurd hg (by decide))|((try simp only [qz,ge_iff_le,List.cons.injEq,and_true] at hg);first|(exact absurd trivial hg)|(exfalso;omega)|(have hT:True:=hg;clear hT hg)|skip)))
 | (refine zs ?_)
 | fail
 )
    exact aB rfl (sc_row r h0 hnb hql (by unfold gB;rw [he,decide_eq_false hz];rfl))
 ·skip
  repeat' (first
 | (((with_reducible apply aa);exact rfl)<;>intro hg<;>(first|(exact absurd hg (by decide))|((try simp only [qz,ge_iff_le,List.cons.injEq,and_true] at hg);first|(exact absurd trivial hg)|(exfalso;omega)|(have hT:True:=hg;clear hT hg)|skip)))
 | (refine zs ?_)
 | fail
 )
  exact aB rfl (sc_ok r h0 hnb (fun i hi=>hall i hi (by omega)))
end Go.Proofs.YtdndfncpglfdeaaGreatDoor.Ge
