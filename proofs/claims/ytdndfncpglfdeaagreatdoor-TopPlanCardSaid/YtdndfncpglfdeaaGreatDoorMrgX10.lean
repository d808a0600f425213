/- UA UB: texts laid together. -/
import Derived.Test.YtdndfncpglfdeaaGreatDoorMrgX8
import Derived.Test.YtdndfncpglfdeaaGreatDoorMrgX9
import Derived.Test.YtdndfncpglfdeaaGreatDoorMrgG2
import Derived.Test.YtdndfncpglfdeaaGreatDoorMrgS
set_option maxRecDepth 100000
set_option maxHeartbeats 64000000

namespace Go.Proofs.YtdndfncpglfdeaaGreatDoor.Tp
set_option linter.unusedVariables false
set_option linter.unusedSimpArgs false
open Go.RowKit Go.Proofs.YtdndfncpglfdeaaGreatDoor.Ev
open Go.Proofs.YtdndfncpglfdeaaGreatDoor.Cu (I LI LS gw ce)
open Go.Proofs.YtdndfncpglfdeaaGreatDoor.Ge (an aG Slc Dfc dfC LL LD slcC aw aX ey Sec)
variable {gl:List (Nat×List CV)}
def wdL (l:List Slc) (d:List Dfc) (c:List Pr) (s:Sw) (r:Rt):List CV:=[LL l,LD d,fj c,I s.kerf,I s.trim,I s.pitch,I s.step,I r.chip,I r.dust,I r.fine]
abbrev wdC (l:List Slc) (d:List Dfc) (c:List Pr) (s:Sw) (r:Rt):CV:=.agg (wdL l d c s r)
abbrev nilV:CV:=.v (.slice none 0 0)
def gvL (l:List Slc) (d:List Dfc) (c:List Pr) (s:Sw) (r:Rt):List CV:=[LL l,LD d,fj c,I 0,I 0,I 0,I 0,nilV,I s.kerf,I s.trim,I s.pitch,I s.step,I r.chip,I r.dust,I r.fine]
abbrev gvC (l:List Slc) (d:List Dfc) (c:List Pr) (s:Sw) (r:Rt):CV:=.agg (gvL l d c s r)
theorem given_con (l:List Slc) (d:List Dfc) (c:List Pr) (s:Sw) (r:Rt):bm Tryz.prog gl 13 [wdC l d c s r,.agg [I 0,I 0,I 0,I 0,nilV]] (gvC l d c s r):=by
 refine ao Tryz.func13 rfl (by kernel_rfl) rfl ?_
 simp only [Tryz.ntmps13,Tryz.results13,am,ofC,aZ,List.map,wdL]
 repeat' (first
 | (refine zs ?_)
 | fail
 )
 all_goals exact cL (.cell_a inferInstance rfl rfl rfl rfl (al ap (al ap (al ap (al ap (al ap (al ap (al ap (al ap (al ap (al ap (al ap (al ap (al ap (al ap (al ap bj))))))))))))))))
theorem value_con {l:List Slc} {d:List Dfc} {c:List Pr} {s:Sw} {r:Rt} (h:Hy l d c s r) {X Y:an} {T:Tr} (hX:aJ X) (hY:aJ Y) (hT:OkG s.kerf (szB c) (X,Y) T) (hN:(aq T).length≤127) :
  bm Tryz.prog gl 8 [wdC l d c s r,fI X Y (aq T)] (.tup [I (yVal l s r (cG s.kerf (X,Y) T) (bdN l d c s r.fine (aC s.kerf (X,Y) T) (aC s.kerf (X,Y) T).length)),I 0]):=by
 have c1:=of_con (gl:=gl) h hX hY hT hN
 unfold yC at c1
 generalize yVal l s r (cG s.kerf (X,Y) T) (bdN l d c s r.fine (aC s.kerf (X,Y) T) (aC s.kerf (X,Y) T).length)=v at *
 generalize yChips l s (cG s.kerf (X,Y) T) (bdN l d c s r.fine (aC s.kerf (X,Y) T) (aC s.kerf (X,Y) T).length)=v1 at *
 generalize yDust l s (cG s.kerf (X,Y) T) (bdN l d c s r.fine (aC s.kerf (X,Y) T) (aC s.kerf (X,Y) T).length)=v2 at *
 generalize cz (brdB l) (bdN l d c s r.fine (aC s.kerf (X,Y) T) (aC s.kerf (X,Y) T).length)=v3 at *
 generalize ey l=v4 at *
 generalize aq T=N at *
 refine ao Tryz.func8 rfl (by kernel_rfl) rfl ?_
 simp only [Tryz.ntmps8,Tryz.results8,am,ofC,aZ,List.map,wdL]
 repeat' (first
 | ((with_reducible apply (ah (f:=28)));exact rfl;exact rfl;exact c1;exact rfl;exact rfl)
 | (refine zs ?_)
 | fail
 )
 all_goals exact bJ (.cons (.tmp rfl ap) (.cons (.tmp rfl ap) .nil))
theorem work_con (l:List Slc) (d:List Dfc) (c:List Pr) (s:Sw) (r:Rt) (hll:l.length≤30) (hcl:c.length≤20):ConE Tryz.prog gl 43 [gvC l d c s r] (fun γ:{n:Int // 0≤n∧n≤1000000000}=>I γ.1):=by
 refine conE_of Tryz.func43 rfl (by kernel_rfl) rfl ?_
 simp only [Tryz.ntmps43,Tryz.results43,am,ofC,aZ,List.map,gvL]
 repeat' (first
 | (refine zs ?_)
 | fail
 )
 refine au (G:=Nat×Int) (fun ((j,L):Nat×Int)=>j≤l.length∧0≤L∧L≤20000) (fun ((j,L):Nat×Int)=>l.length - j) (fun ((j,L):Nat×Int)=>[(1,.ptr 0 0),(3,A L),(4,A 1),(5,A j)]) (fun ((j,L):Nat×Int)=>[(0,some (.cells 56 [.c (LL l),.c (LD d),.c (fj c),A 0,A 0,A 0,A 0,.c nilV,A s.kerf,A s.trim,A s.pitch,A s.step,A r.chip,A r.dust,A r.fine]))]) 1 (0,0) ?_ (by refine ak rfl ?_ ?_<;>repeat (first|exact ai|exact ac|refine ae rfl rfl ?_|refine ab rfl rfl rfl ?_)) rfl ?_
 ·exact ⟨Nat.zero_le _,by decide,by decide⟩
 rintro ⟨j,L⟩ hI
 try dsimp only at hI
 try dsimp only
 obtain ⟨hj,hL0,hL1⟩:=hI
 by_cases hjl:j < l.length
 ·skip
  repeat' (first
 | ((first|((with_reducible apply aj);iterate 4 exact rfl)|((with_reducible apply aa);exact rfl))<;>intro hg<;>(first|(exact absurd hg (by decide))|((try simp only [qz,ge_iff_le,List.cons.injEq,and_true] at hg);first|(exact absurd trivial hg)|(exfalso;omega)|(have hT:True:=hg;clear hT hg)|skip)))
 | (refine zs ?_)
 | fail
 )
  refine ⟨(j+1,min 20000 (L+max 0 (min 20000 l[j].len))),?_,?_,by refine ak rfl ?_ ?_<;>repeat (first|exact ai|exact ac|refine ae rfl rfl ?_|refine ab rfl rfl rfl ?_)⟩
  ·show l.length - (j+1) < l.length - j;omega
  ·exact ⟨by show j+1≤_;omega,by dsimp only;omega,by dsimp only;omega⟩
 repeat' (first
 | ((first|((with_reducible apply aj);iterate 4 exact rfl)|((with_reducible apply aa);exact rfl))<;>intro hg<;>(first|(exact absurd hg (by decide))|((try simp only [qz,ge_iff_le,List.cons.injEq,and_true] at hg);first|(exact absurd trivial hg)|(exfalso;omega)|(have hT:True:=hg;clear hT hg)|skip)))
 | (refine zs ?_)
 | fail
 )
 refine au (G:=Nat×Int) (fun ((i,m):Nat×Int)=>i≤c.length∧1≤m∧m≤10) (fun ((i,m):Nat×Int)=>c.length - i) (fun ((i,m):Nat×Int)=>[(1,.ptr 0 0),(3,A L),(4,A m),(6,A i)]) (fun ((i,m):Nat×Int)=>[(0,some (.cells 56 [.c (LL l),.c (LD d),.c (fj c),A 0,A 0,A 0,A 0,.c nilV,A s.kerf,A s.trim,A s.pitch,A s.step,A r.chip,A r.dust,A r.fine]))]) 1 (0,1) ?_ (by refine ak rfl ?_ ?_<;>repeat (first|exact ai|exact ac|refine ae rfl rfl ?_|refine ab rfl rfl rfl ?_)) rfl ?_
 ·exact ⟨Nat.zero_le _,by decide,by decide⟩
 rintro ⟨i,m⟩ hI
 try dsimp only at hI
 try dsimp only
 obtain ⟨hi,hm0,hm1⟩:=hI
 by_cases hil:i < c.length
 ·skip
  repeat' (first
 | (((with_reducible apply aa);exact rfl)<;>intro hg<;>(first|(exact absurd hg (by decide))|((try simp only [qz,ge_iff_le,List.cons.injEq,and_true] at hg);first|(exact absurd trivial hg)|(exfalso;omega)|(have hT:True:=hg;clear hT hg)|skip)))
 | (refine zs ?_)
 | fail
 )
  refine ⟨(i+1,max m (min 10 (c[i].lens.length:Int))),?_,?_,by refine ak rfl ?_ ?_<;>repeat (first|exact ai|exact ac|refine ae rfl rfl ?_|refine ab rfl rfl rfl ?_)⟩
  ·show c.length - (i+1) < c.length - i;omega
  ·exact ⟨by show i+1≤_;omega,by dsimp only;omega,by dsimp only;omega⟩
 by_cases hs:0 < s.step
 ·have hq:=Int.tdiv_eq_ediv_of_nonneg (a:=L) (b:=s.step) hL0
  have hq0:0≤L / s.step:=Int.ediv_nonneg hL0 (by omega)
  have hq1:L / s.step≤20000:=Int.le_trans (Int.ediv_le_self _ hL0) hL1
  have hf:aQ (L.tdiv s.step):=by rw [hq];unfold aQ;omega
  obtain ⟨u,eu⟩:∃ u,u=L.tdiv s.step:=⟨_,rfl⟩
  rw [← hq,← eu] at hq0 hq1
  have m1:=d8 (a:=1+u) (b:=m) (k:=20001) (m:=10) ⟨by omega,by omega⟩ ⟨by omega,hm1⟩
  have m2:=d8 (a:=(1+u) * m) (b:=1+min 30 (l.length:Int)) (k:=200010) (m:=31) ⟨m1.1,by omega⟩ ⟨by omega,by omega⟩
  have m3:=d8 (a:=(1+u) * m * (1+min 30 (l.length:Int))) (b:=1+min 140 (0:Int)) (k:=6200310) (m:=141) ⟨m2.1,by omega⟩ ⟨by omega,by omega⟩
  have f1:aQ ((1+u) * m):=by unfold aQ;omega
  have f2:aQ ((1+u) * m * (1+min 30 (l.length:Int))):=by unfold aQ;omega
  have f3:aQ ((1+u) * m * (1+min 30 (l.length:Int)) * (1+min 140 (0:Int))):=by unfold aQ;omega
  repeat' (first
 | ((with_reducible apply r_quo);exact rfl;exact rfl;exact (by omega);exact hf;exact rfl;rw [← eu])
 | (((with_reducible apply aa);exact rfl)<;>intro hg<;>(first|(exact absurd hg (by decide))|((try simp only [qz,ge_iff_le,List.cons.injEq,and_true] at hg);first|(exact absurd trivial hg)|(exfalso;omega)|(have hT:True:=hg;clear hT hg)|skip)))
 | (refine zs ?_)
 | fail
 )
  all_goals exact ⟨⟨_,m3.1,by omega⟩,aB rfl rfl⟩
 ·have m1:=d8 (a:=1) (b:=m) (k:=20001) (m:=10) ⟨by omega,by omega⟩ ⟨by omega,hm1⟩
  have m2:=d8 (a:=1 * m) (b:=1+min 30 (l.length:Int)) (k:=200010) (m:=31) ⟨m1.1,by omega⟩ ⟨by omega,by omega⟩
  have m3:=d8 (a:=1 * m * (1+min 30 (l.length:Int))) (b:=1+min 140 (0:Int)) (k:=6200310) (m:=141) ⟨m2.1,by omega⟩ ⟨by omega,by omega⟩
  have f1:aQ (1 * m):=by unfold aQ;omega
  have f2:aQ (1 * m * (1+min 30 (l.length:Int))):=by unfold aQ;omega
  have f3:aQ (1 * m * (1+min 30 (l.length:Int)) * (1+min 140 (0:Int))):=by unfold aQ;omega
  repeat' (first
 | (((with_reducible apply aa);exact rfl)<;>intro hg<;>(first|(exact absurd hg (by decide))|((try simp only [qz,ge_iff_le,List.cons.injEq,and_true] at hg);first|(exact absurd trivial hg)|(exfalso;omega)|(have hT:True:=hg;clear hT hg)|skip)))
 | (refine zs ?_)
 | fail
 )
  all_goals exact ⟨⟨_,m3.1,by omega⟩,aB rfl rfl⟩
end Go.Proofs.YtdndfncpglfdeaaGreatDoor.Tp

namespace Go.Proofs.YtdndfncpglfdeaaGreatDoor.Tp
set_option linter.unusedVariables false
set_option linter.unusedSimpArgs false
open Go.RowKit Go.Proofs.YtdndfncpglfdeaaGreatDoor.Ev
open Go.Proofs.YtdndfncpglfdeaaGreatDoor.Cu (I LI LS gw ce)
open Go.Proofs.YtdndfncpglfdeaaGreatDoor.Ge (an aG Slc Dfc dfC LL LD slcC aw aX ey Sec)
variable {gl:List (Nat×List CV)}
theorem small_con (l:List Slc) (d:List Dfc) (c:List Pr) (s:Sw) (r:Rt):ConE Tryz.prog gl 12 [gvC l d c s r] (fun γ:{b:Bool // b=true→l.length≤30∧d.length≤70∧c.length≤20}=>BO γ.1):=by
 refine conE_of Tryz.func12 rfl (by kernel_rfl) rfl ?_
 simp only [Tryz.ntmps12,Tryz.results12,am,ofC,aZ,List.map,gvL]
 by_cases h1:l.length≤30
 rotate_left
 ·skip
  repeat' (first
 | ((first|((with_reducible apply aj);iterate 4 exact rfl)|((with_reducible apply aa);exact rfl))<;>intro hg<;>(first|(exact absurd hg (by decide))|((try simp only [qz,ge_iff_le,List.cons.injEq,and_true] at hg);first|(exact absurd trivial hg)|(exfalso;omega)|(have hT:True:=hg;clear hT hg)|skip)))
 | (refine zs ?_)
 | fail
 )
  all_goals exact ⟨⟨false,fun h=>by cases h⟩,aK rfl rfl⟩
 by_cases h2:d.length≤70
 rotate_left
 ·skip
  repeat' (first
 | ((first|((with_reducible apply aj);iterate 4 exact rfl)|((with_reducible apply aa);exact rfl))<;>intro hg<;>(first|(exact absurd hg (by decide))|((try simp only [qz,ge_iff_le,List.cons.injEq,and_true] at hg);first|(exact absurd trivial hg)|(exfalso;omega)|(have hT:True:=hg;clear hT hg)|skip)))
 | (refine zs ?_)
 | fail
 )
  all_goals exact ⟨⟨false,fun h=>by cases h⟩,aK rfl rfl⟩
 by_cases h3:c.length≤20
 rotate_left
 ·skip
  repeat' (first
 | ((first|((with_reducible apply aj);iterate 4 exact rfl)|((with_reducible apply aa);exact rfl))<;>intro hg<;>(first|(exact absurd hg (by decide))|((try simp only [qz,ge_iff_le,List.cons.injEq,and_true] at hg);first|(exact absurd trivial hg)|(exfalso;omega)|(have hT:True:=hg;clear hT hg)|skip)))
 | (refine zs ?_)
 | fail
 )
  all_goals exact ⟨⟨false,fun h=>by cases h⟩,aK rfl rfl⟩
 have cw:=work_con (gl:=gl) l d c s r h1 h3
 repeat' (first
 | (((with_reducible apply aj);iterate 4 exact rfl)<;>intro hg<;>(first|(exact absurd hg (by decide))|((try simp only [qz,ge_iff_le,List.cons.injEq,and_true] at hg);first|(exact absurd trivial hg)|(exfalso;omega)|(have hT:True:=hg;clear hT hg)|skip)))
 | (refine zs ?_)
 | fail
 )
 refine r_callE (f:=43) cw rfl rfl rfl ?_
 rintro ⟨wk,w1,w2⟩
 dsimp only
 by_cases hw:wk≤200000
 rotate_left
 ·skip
  repeat' (first
 | ((first|((with_reducible apply aj);iterate 4 exact rfl)|((with_reducible apply aa);exact rfl))<;>intro hg<;>(first|(exact absurd hg (by decide))|((try simp only [qz,ge_iff_le,List.cons.injEq,and_true] at hg);first|(exact absurd trivial hg)|(exfalso;omega)|(have hT:True:=hg;clear hT hg)|skip)))
 | (refine zs ?_)
 | fail
 )
  all_goals exact ⟨⟨false,fun h=>by cases h⟩,aK rfl rfl⟩
 repeat' (first
 | ((first|((with_reducible apply aj);iterate 4 exact rfl)|((with_reducible apply aa);exact rfl))<;>intro hg<;>(first|(exact absurd hg (by decide))|((try simp only [qz,ge_iff_le,List.cons.injEq,and_true] at hg);first|(exact absurd trivial hg)|(exfalso;omega)|(have hT:True:=hg;clear hT hg)|skip)))
 | (refine zs ?_)
 | fail
 )
 refine au (G:=Nat) (fun (j:Nat)=>j≤l.length) (fun (j:Nat)=>l.length - j) (fun (j:Nat)=>[(1,.ptr 0 0),(3,A j)]) (fun (j:Nat)=>[(0,some (.cells 56 [.c (LL l),.c (LD d),.c (fj c),A 0,A 0,A 0,A 0,.c nilV,A s.kerf,A s.trim,A s.pitch,A s.step,A r.chip,A r.dust,A r.fine]))]) 1 0 ?_ (by refine ak rfl ?_ ?_<;>repeat (first|exact ai|exact ac|refine ae rfl rfl ?_|refine ab rfl rfl rfl ?_)) rfl ?_
 ·exact Nat.zero_le _
 rintro j hI
 try dsimp only at hI
 try dsimp only
 by_cases hj:j < l.length
 ·by_cases h4:(l[j].sec.rows.length:Int)≤130
  ·skip
   repeat' (first
 | ((with_reducible apply (r_load_f (enc:=slcC) (l:=l) (k:=j) (j:=2) (size:=3)));exact rfl;exact inferInstance;exact List.getElem?_eq_getElem hj;iterate 3 exact rfl)
 | (((with_reducible apply aa);exact rfl)<;>intro hg<;>(first|(exact absurd hg (by decide))|((try simp only [qz,ge_iff_le,List.cons.injEq,and_true] at hg);first|(exact absurd trivial hg)|(exfalso;omega)|(have hT:True:=hg;clear hT hg)|skip)))
 | (refine zs ?_)
 | fail
 )
   refine ⟨j+1,?_,?_,by refine ak rfl ?_ ?_<;>repeat (first|exact ai|exact ac|refine ae rfl rfl ?_|refine ab rfl rfl rfl ?_)⟩
   ·show l.length - (j+1) < l.length - j;omega
   ·show j+1≤l.length;omega
  ·skip
   repeat' (first
 | ((with_reducible apply (r_load_f (enc:=slcC) (l:=l) (k:=j) (j:=2) (size:=3)));exact rfl;exact inferInstance;exact List.getElem?_eq_getElem hj;iterate 3 exact rfl)
 | (((with_reducible apply aa);exact rfl)<;>intro hg<;>(first|(exact absurd hg (by decide))|((try simp only [qz,ge_iff_le,List.cons.injEq,and_true] at hg);first|(exact absurd trivial hg)|(exfalso;omega)|(have hT:True:=hg;clear hT hg)|skip)))
 | (refine zs ?_)
 | fail
 )
   all_goals exact ⟨⟨false,fun h=>by cases h⟩,aK rfl rfl⟩
 repeat' (first
 | (((with_reducible apply aa);exact rfl)<;>intro hg<;>(first|(exact absurd hg (by decide))|((try simp only [qz,ge_iff_le,List.cons.injEq,and_true] at hg);first|(exact absurd trivial hg)|(exfalso;omega)|(have hT:True:=hg;clear hT hg)|skip)))
 | (refine zs ?_)
 | fail
 )
 refine au (G:=Nat) (fun (i:Nat)=>i≤c.length) (fun (i:Nat)=>c.length - i) (fun (i:Nat)=>[(1,.ptr 0 0),(4,A i)]) (fun (i:Nat)=>[(0,some (.cells 56 [.c (LL l),.c (LD d),.c (fj c),A 0,A 0,A 0,A 0,.c nilV,A s.kerf,A s.trim,A s.pitch,A s.step,A r.chip,A r.dust,A r.fine]))]) 1 0 ?_ (by refine ak rfl ?_ ?_<;>repeat (first|exact ai|exact ac|refine ae rfl rfl ?_|refine ab rfl rfl rfl ?_)) rfl ?_
 ·exact Nat.zero_le _
 rintro i hI
 try dsimp only at hI
 try dsimp only
 by_cases hi:i < c.length
 ·by_cases h4:(c[i].lens.length:Int)≤10
  ·by_cases h5:(c[i].prices.length:Int)≤10
   ·by_cases h6:(c[i].name.size:Int)≤100
    ·skip
     repeat' (first
 | ((with_reducible apply dm);exact rfl;exact rfl)
 | ((first|((with_reducible apply aj);iterate 4 exact rfl)|((with_reducible apply aa);exact rfl))<;>intro hg<;>(first|(exact absurd hg (by decide))|((try simp only [qz,ge_iff_le,List.cons.injEq,and_true] at hg);first|(exact absurd trivial hg)|(exfalso;omega)|(have hT:True:=hg;clear hT hg)|skip)))
 | (refine zs ?_)
 | fail
 )
     refine ⟨i+1,?_,?_,by refine ak rfl ?_ ?_<;>repeat (first|exact ai|exact ac|refine ae rfl rfl ?_|refine ab rfl rfl rfl ?_)⟩
     ·show c.length - (i+1) < c.length - i;omega
     ·show i+1≤c.length;omega
    ·skip
     repeat' (first
 | ((with_reducible apply dm);exact rfl;exact rfl)
 | ((first|((with_reducible apply aj);iterate 4 exact rfl)|((with_reducible apply aa);exact rfl))<;>intro hg<;>(first|(exact absurd hg (by decide))|((try simp only [qz,ge_iff_le,List.cons.injEq,and_true] at hg);first|(exact absurd trivial hg)|(exfalso;omega)|(have hT:True:=hg;clear hT hg)|skip)))
 | (refine zs ?_)
 | fail
 )
     all_goals exact ⟨⟨false,fun h=>by cases h⟩,aK rfl rfl⟩
   ·skip
    repeat' (first
 | ((with_reducible apply dm);exact rfl;exact rfl)
 | ((first|((with_reducible apply aj);iterate 4 exact rfl)|((with_reducible apply aa);exact rfl))<;>intro hg<;>(first|(exact absurd hg (by decide))|((try simp only [qz,ge_iff_le,List.cons.injEq,and_true] at hg);first|(exact absurd trivial hg)|(exfalso;omega)|(have hT:True:=hg;clear hT hg)|skip)))
 | (refine zs ?_)
 | fail
 )
    all_goals exact ⟨⟨false,fun h=>by cases h⟩,aK rfl rfl⟩
  ·skip
   repeat' (first
 | ((with_reducible apply dm);exact rfl;exact rfl)
 | ((first|((with_reducible apply aj);iterate 4 exact rfl)|((with_reducible apply aa);exact rfl))<;>intro hg<;>(first|(exact absurd hg (by decide))|((try simp only [qz,ge_iff_le,List.cons.injEq,and_true] at hg);first|(exact absurd trivial hg)|(exfalso;omega)|(have hT:True:=hg;clear hT hg)|skip)))
 | (refine zs ?_)
 | fail
 )
   all_goals exact ⟨⟨false,fun h=>by cases h⟩,aK rfl rfl⟩
 repeat' (first
 | (((with_reducible apply aa);exact rfl)<;>intro hg<;>(first|(exact absurd hg (by decide))|((try simp only [qz,ge_iff_le,List.cons.injEq,and_true] at hg);first|(exact absurd trivial hg)|(exfalso;omega)|(have hT:True:=hg;clear hT hg)|skip)))
 | (refine zs ?_)
 | fail
 )
 all_goals exact ⟨⟨true,fun _=>⟨h1,h2,h3⟩⟩,aK rfl rfl⟩
end Go.Proofs.YtdndfncpglfdeaaGreatDoor.Tp
