/- UC: texts laid together. -/
import Derived.Test.YtdndfncpglfdeaaGreatDoorMrgX10
import Derived.Test.YtdndfncpglfdeaaGreatDoorMrgG2
import Derived.Test.YtdndfncpglfdeaaGreatDoorMrgS
set_option maxRecDepth 100000
set_option maxHeartbeats 64000000

namespace Go.Proofs.YtdndfncpglfdeaaGreatDoor.Tp
set_option linter.unusedVariables false
set_option linter.unusedSimpArgs false
open Go.RowKit Go.Proofs.YtdndfncpglfdeaaGreatDoor.Ev
open Go.Proofs.YtdndfncpglfdeaaGreatDoor.Cu (I LI LS gw ce)
open Go.Proofs.YtdndfncpglfdeaaGreatDoor.Ge (an aG Slc Dfc dfC LL LD slcC aw aX ey Sec SecV SolV bxN bdS bdV valS sbN sbS cZ iy dH aO fE ir)
variable {gl:List (Nat×List CV)}
theorem bx_bd {s:Sec} (v:SecV s):∀ j,j≤s.rows.length→-600≤(bxN s j).1∧(bxN s j).1≤600∧-600≤(bxN s j).2∧(bxN s j).2≤600
 | 0,_=>by
  by_cases h:0 < s.rows.length
  ·have:=v.row 0 h
   rw [show bxN s 0=dH s 0 from rfl,Ge.dP h];omega
  ·have:s.rows=[]:=List.eq_nil_of_length_eq_zero (by omega)
   show -600≤(dH s 0).1∧_
   rw [show bxN s 0=dH s 0 from rfl]
   unfold dH;rw [this];decide
 | j+1,hj=>by
  have ih:=bx_bd v j (by omega)
  have:=v.row j (by omega)
  unfold bxN
  split
  ·exact ih
  ·rw [Ge.dP (by omega)];unfold fE;dsimp only;omega
theorem bdS_acr {s:Sec} (h:Ge.bq s=0) (h0:¬ s.rows.length=0):aJ (bdS s).1∧aJ (bdS s).2:=by
 have v:=Ge.valS_V s
 unfold bdS bdV
 rw [Ge.gL h] at v ⊢
 rw [if_neg h0]
 have h1:=bx_bd v _ (Nat.le_refl _)
 have h2:=v.low
 have h3:=v.high
 have h4:=(v.ends (by omega)).1
 have h5:=Ge.bx_has (s:=s) s.rows.length 0 (by omega) (by omega) h4
 dsimp only
 refine ⟨⟨by omega,by omega,by omega⟩,⟨by dsimp only;omega,by dsimp only;omega,by dsimp only;omega⟩⟩
theorem join_acr {a b:an} (ha:aJ a) (hb:aJ b):aJ (fE a b):=by
 obtain ⟨a1,a2,a3⟩:=ha
 obtain ⟨b1,b2,b3⟩:=hb
 unfold fE
 exact ⟨by dsimp only;omega,by dsimp only;omega,by dsimp only;omega⟩
theorem sbN_acr {l:List Slc} (v:SolV l):∀ j,j < l.length→aJ (sbN l (j+1)).1∧aJ (sbN l (j+1)).2
 | j,hj=>by
  have hb:∀ i,i < l.length→aJ (bdS (cZ l i)).1∧aJ (bdS (cZ l i)).2:=fun i hi=>by
   rw [Ge.eL hi];exact bdS_acr (v.chk i hi) (v.some i hi)
  have hj2:=hb j hj
  unfold sbN ir
  dsimp only
  cases j with
  | zero=>rw [if_pos rfl];exact ⟨join_acr hj2.1 hj2.1,join_acr hj2.2 hj2.2⟩
  | succ i =>
   rw [if_neg (by omega)]
   have ih:=sbN_acr v i (by omega)
   exact ⟨join_acr ih.1 hj2.1,join_acr ih.2 hj2.2⟩
theorem sb_acr {l:List Slc} (h:aX l=0):aJ (sbS l).1∧aJ (sbS l).2:=by
 have v:=Ge.sol_V h
 have h0:¬ l.length=0:=fun hh=>by rw [← Ge.sol_0 hh] at h;cases h
 unfold sbS
 rw [Ge.gC h]
 obtain ⟨n,hn⟩:∃ n,l.length=n+1:=⟨l.length - 1,by omega⟩
 rw [hn]
 exact sbN_acr v n (by omega)
theorem frame_con (l:List Slc) (hl:l.length≤maxLen):bm Tryz.prog gl 6 [LL l] (.agg (cQ (sbS l).1 (sbS l).2)):=by
 have c1:=Ge.sbounds_con (gl:=gl) l hl
 unfold cQ
 generalize sbS l=R at *
 refine ao Tryz.func6 rfl (by kernel_rfl) rfl ?_
 simp only [Tryz.ntmps6,Tryz.results6,am,ofC,aZ,List.map]
 repeat' (first
 | ((with_reducible apply (ah (f:=19)));exact rfl;exact rfl;exact c1;exact rfl;exact rfl)
 | (refine zs ?_)
 | fail
 )
 all_goals exact cL (.cell_a inferInstance rfl rfl rfl rfl (al ap (al ap (al ap (al ap bj)))))
def LightOk (l:List Slc) (d:List Dfc) (c:List Pr) (s:Sw):Prop :=
 l.length≤6∧d.length≤70∧c.length≤3∧(s.pitch≤0∨10≤s.pitch)∧(aX l=0→(sbS l).1.2 - (sbS l).1.1≤160∧(sbS l).2.2 - (sbS l).2.1≤160)
theorem light_con (l:List Slc) (d:List Dfc) (c:List Pr) (s:Sw) (r:Rt) (hl:l.length≤maxLen):ConE Tryz.prog gl 4 [wdC l d c s r] (fun γ:{b:Bool // b=true→LightOk l d c s}=>BO γ.1):=by
 have c1:=given_con (gl:=gl) l d c s r
 have c2:=small_con (gl:=gl) l d c s r
 have c3:=Ge.rscheck_con (gl:=gl) l hl
 have c4:=Ge.rsbounds_con (gl:=gl) l hl
 have c5:=Ge.rslength_con (gl:=gl) l hl
 have hac:=sb_acr (l:=l)
 unfold LightOk
 refine conE_of Tryz.func4 rfl (by kernel_rfl) rfl ?_
 simp only [Tryz.ntmps4,Tryz.results4,am,ofC,aZ,List.map,wdL]
 repeat' (first
 | ((with_reducible apply (ah (f:=13)));exact rfl;exact rfl;exact c1;exact rfl;exact rfl)
 | (refine zs ?_)
 | fail
 )
 refine r_callE (f:=12) c2 rfl rfl rfl ?_
 rintro ⟨b,hb⟩
 dsimp only
 cases b with
 | false =>
  repeat' (first
 | ((first|((with_reducible apply aj);iterate 4 exact rfl)|((with_reducible apply aa);exact rfl))<;>intro hg<;>(first|(exact absurd hg (by decide))|((try simp only [qz,ge_iff_le,List.cons.injEq,and_true] at hg);first|(exact absurd trivial hg)|(exfalso;omega)|(have hT:True:=hg;clear hT hg)|skip)))
 | (refine zs ?_)
 | fail
 )
  all_goals exact ⟨⟨false,fun h=>by cases h⟩,aK rfl rfl⟩
 | true =>
  obtain ⟨b1,b2,b3⟩:=hb rfl
  by_cases h1:l.length≤6
  rotate_left
  ·skip
   repeat' (first
 | ((first|((with_reducible apply aj);iterate 4 exact rfl)|((with_reducible apply aa);exact rfl))<;>intro hg<;>(first|(exact absurd hg (by decide))|((try simp only [qz,ge_iff_le,List.cons.injEq,and_true] at hg);first|(exact absurd trivial hg)|(exfalso;omega)|(have hT:True:=hg;clear hT hg)|skip)))
 | (refine zs ?_)
 | fail
 )
   all_goals exact ⟨⟨false,fun h=>by cases h⟩,aK rfl rfl⟩
  by_cases h2:c.length≤3
  rotate_left
  ·skip
   repeat' (first
 | ((first|((with_reducible apply aj);iterate 4 exact rfl)|((with_reducible apply aa);exact rfl))<;>intro hg<;>(first|(exact absurd hg (by decide))|((try simp only [qz,ge_iff_le,List.cons.injEq,and_true] at hg);first|(exact absurd trivial hg)|(exfalso;omega)|(have hT:True:=hg;clear hT hg)|skip)))
 | (refine zs ?_)
 | fail
 )
   all_goals exact ⟨⟨false,fun h=>by cases h⟩,aK rfl rfl⟩
  by_cases h3:s.pitch≤0∨10≤s.pitch
  rotate_left
  ·skip
   repeat' (first
 | ((first|((with_reducible apply aj);iterate 4 exact rfl)|((with_reducible apply aa);exact rfl))<;>intro hg<;>(first|(exact absurd hg (by decide))|((try simp only [qz,ge_iff_le,List.cons.injEq,and_true] at hg);first|(exact absurd trivial hg)|(exfalso;omega)|(have hT:True:=hg;clear hT hg)|skip)))
 | (refine zs ?_)
 | fail
 )
   all_goals exact ⟨⟨false,fun h=>by cases h⟩,aK rfl rfl⟩
  by_cases h4:s.step≤0∨200≤s.step
  rotate_left
  ·rcases h3 with h3|h3
   ·skip
    repeat' (first
 | ((first|((with_reducible apply aj);iterate 4 exact rfl)|((with_reducible apply aa);exact rfl))<;>intro hg<;>(first|(exact absurd hg (by decide))|((try simp only [qz,ge_iff_le,List.cons.injEq,and_true] at hg);first|(exact absurd trivial hg)|(exfalso;omega)|(have hT:True:=hg;clear hT hg)|skip)))
 | (refine zs ?_)
 | fail
 )
    all_goals exact ⟨⟨false,fun h=>by cases h⟩,aK rfl rfl⟩
   ·by_cases h5:0 < s.pitch
    ·skip
     repeat' (first
 | ((first|((with_reducible apply aj);iterate 4 exact rfl)|((with_reducible apply aa);exact rfl))<;>intro hg<;>(first|(exact absurd hg (by decide))|((try simp only [qz,ge_iff_le,List.cons.injEq,and_true] at hg);first|(exact absurd trivial hg)|(exfalso;omega)|(have hT:True:=hg;clear hT hg)|skip)))
 | (refine zs ?_)
 | fail
 )
     all_goals exact ⟨⟨false,fun h=>by cases h⟩,aK rfl rfl⟩
    ·omega
  have hp:(s.pitch≤0)∨(0 < s.pitch∧10≤s.pitch):=by omega
  have hq:(s.step≤0)∨(0 < s.step∧200≤s.step):=by omega
  rcases hp with hp|⟨hp,hp2⟩<;>rcases hq with hq|⟨hq,hq2⟩
  all_goals
   repeat' (first
 | ((first|((with_reducible apply aj);iterate 4 exact rfl)|((with_reducible apply aa);exact rfl))<;>intro hg<;>(first|(exact absurd hg (by decide))|((try simp only [qz,ge_iff_le,List.cons.injEq,and_true] at hg);first|(exact absurd trivial hg)|(exfalso;omega)|(have hT:True:=hg;clear hT hg)|skip)))
 | (refine zs ?_)
 | fail
 )
   refine au (G:=Nat) (fun (j:Nat)=>j≤c.length) (fun (j:Nat)=>c.length - j) (fun (j:Nat)=>[(1,.ptr 0 0),(3,A j)]) (fun (j:Nat)=>[(0,some (.cells 30 [.c (LL l),.c (LD d),.c (fj c),A s.kerf,A s.trim,A s.pitch,A s.step,A r.chip,A r.dust,A r.fine]))]) 1 0 ?_ (by refine ak rfl ?_ ?_<;>repeat (first|exact ai|exact ac|refine ae rfl rfl ?_|refine ab rfl rfl rfl ?_)) rfl ?_
   ·exact Nat.zero_le _
   rintro j hI
   try dsimp only at hI
   try dsimp only
   by_cases hj:j < c.length
   ·by_cases h6:(c[j].lens.length:Int)≤4
    ·skip
     repeat' (first
 | (((with_reducible apply aa);exact rfl)<;>intro hg<;>(first|(exact absurd hg (by decide))|((try simp only [qz,ge_iff_le,List.cons.injEq,and_true] at hg);first|(exact absurd trivial hg)|(exfalso;omega)|(have hT:True:=hg;clear hT hg)|skip)))
 | (refine zs ?_)
 | fail
 )
     refine ⟨j+1,?_,?_,by refine ak rfl ?_ ?_<;>repeat (first|exact ai|exact ac|refine ae rfl rfl ?_|refine ab rfl rfl rfl ?_)⟩
     ·show c.length - (j+1) < c.length - j;omega
     ·show j+1≤c.length;omega
    ·skip
     repeat' (first
 | (((with_reducible apply aa);exact rfl)<;>intro hg<;>(first|(exact absurd hg (by decide))|((try simp only [qz,ge_iff_le,List.cons.injEq,and_true] at hg);first|(exact absurd trivial hg)|(exfalso;omega)|(have hT:True:=hg;clear hT hg)|skip)))
 | (refine zs ?_)
 | fail
 )
     all_goals exact ⟨⟨false,fun h=>by cases h⟩,aK rfl rfl⟩
   by_cases hs:aX l=0
   rotate_left
   ·skip
    repeat' (first
 | ((with_reducible apply (ah (f:=14)));exact rfl;exact rfl;exact c3;exact rfl;exact rfl)
 | (((with_reducible apply aa);exact rfl)<;>intro hg<;>(first|(exact absurd hg (by decide))|((try simp only [qz,ge_iff_le,List.cons.injEq,and_true] at hg);first|(exact absurd trivial hg)|(exfalso;omega)|(have hT:True:=hg;clear hT hg)|skip)))
 | (refine zs ?_)
 | fail
 )
    all_goals exact ⟨⟨true,fun _=>⟨h1,b2,h2,h3,fun h=>absurd h hs⟩⟩,aK rfl rfl⟩
   obtain ⟨⟨x1,x2,x3⟩,⟨y1,y2,y3⟩⟩:=hac hs
   rw [hs] at c3
   unfold Ge.dx at c4
   by_cases h7:(sbS l).1.2 - (sbS l).1.1≤160
   ·by_cases h8:(sbS l).2.2 - (sbS l).2.1≤160
    ·skip
     repeat' (first
 | ((with_reducible apply (ah (f:=14)));exact rfl;exact rfl;exact c3;exact rfl;exact rfl)
 | ((with_reducible apply (ah (f:=15)));exact rfl;exact rfl;exact c4;exact rfl;exact rfl)
 | ((with_reducible apply (ah (f:=16)));exact rfl;exact rfl;exact c5;exact rfl;exact rfl)
 | ((first|((with_reducible apply aj);iterate 4 exact rfl)|((with_reducible apply aa);exact rfl))<;>intro hg<;>(first|(exact absurd hg (by decide))|((try simp only [qz,ge_iff_le,List.cons.injEq,and_true] at hg);first|(exact absurd trivial hg)|(exfalso;omega)|(have hT:True:=hg;clear hT hg)|skip)))
 | (refine zs ?_)
 | fail
 )
     all_goals exact ⟨⟨_,fun _=>⟨h1,b2,h2,h3,fun _=>⟨h7,h8⟩⟩⟩,aK rfl rfl⟩
    ·skip
     repeat' (first
 | ((with_reducible apply (ah (f:=14)));exact rfl;exact rfl;exact c3;exact rfl;exact rfl)
 | ((with_reducible apply (ah (f:=15)));exact rfl;exact rfl;exact c4;exact rfl;exact rfl)
 | ((with_reducible apply (ah (f:=16)));exact rfl;exact rfl;exact c5;exact rfl;exact rfl)
 | ((first|((with_reducible apply aj);iterate 4 exact rfl)|((with_reducible apply aa);exact rfl))<;>intro hg<;>(first|(exact absurd hg (by decide))|((try simp only [qz,ge_iff_le,List.cons.injEq,and_true] at hg);first|(exact absurd trivial hg)|(exfalso;omega)|(have hT:True:=hg;clear hT hg)|skip)))
 | (refine zs ?_)
 | fail
 )
     all_goals exact ⟨⟨false,fun h=>by cases h⟩,aK rfl rfl⟩
   ·skip
    repeat' (first
 | ((with_reducible apply (ah (f:=14)));exact rfl;exact rfl;exact c3;exact rfl;exact rfl)
 | ((with_reducible apply (ah (f:=15)));exact rfl;exact rfl;exact c4;exact rfl;exact rfl)
 | ((with_reducible apply (ah (f:=16)));exact rfl;exact rfl;exact c5;exact rfl;exact rfl)
 | ((first|((with_reducible apply aj);iterate 4 exact rfl)|((with_reducible apply aa);exact rfl))<;>intro hg<;>(first|(exact absurd hg (by decide))|((try simp only [qz,ge_iff_le,List.cons.injEq,and_true] at hg);first|(exact absurd trivial hg)|(exfalso;omega)|(have hT:True:=hg;clear hT hg)|skip)))
 | (refine zs ?_)
 | fail
 )
    all_goals exact ⟨⟨false,fun h=>by cases h⟩,aK rfl rfl⟩
end Go.Proofs.YtdndfncpglfdeaaGreatDoor.Tp
