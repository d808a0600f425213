/- GE GF GL GM GN GS GU GV GP: texts laid together. -/
import Derived.Test.YtdndfncpglfdeaaGreatDoorMrgG1
import Derived.Test.YtdndfncpglfdeaaGreatDoorMrgE3
import Derived.Test.YtdndfncpglfdeaaGreatDoorMrgS
set_option maxRecDepth 100000
set_option maxHeartbeats 64000000

namespace Go.Proofs.YtdndfncpglfdeaaGreatDoor.Ge
set_option linter.unusedVariables false
set_option linter.unusedSimpArgs false
open Go.RowKit Go.Proofs.YtdndfncpglfdeaaGreatDoor.Ev
variable {gl:List (Nat×List CV)}
def atR (s:Sec) (r:Int):an:=if r < s.low∨s.low+s.rows.length≤r then (0,0) else dH s (r - s.low).toNat
end Go.Proofs.YtdndfncpglfdeaaGreatDoor.Ge

namespace Go.Proofs.YtdndfncpglfdeaaGreatDoor.Ge
set_option linter.unusedVariables false
set_option linter.unusedSimpArgs false
open Go.RowKit Go.Proofs.YtdndfncpglfdeaaGreatDoor.Ev
variable {gl:List (Nat×List CV)}
abbrev aG:=an×an
abbrev dx (r:aG):CV:=.agg [I r.1.1,I r.1.2,I r.2.1,I r.2.2]
def fE (a b:an):an:=(min a.1 b.1,max a.2 b.2)
def bxN (s:Sec):Nat→an
 | 0=>dH s 0
 | j+1=>if aO (dH s j)=true then bxN s j else fE (bxN s j) (dH s j)
def bdV (s:Sec):aG:=if s.rows.length=0 then ((0,0),(0,0)) else (bxN s s.rows.length,(10 * s.low,10 * (s.low+s.rows.length)))
noncomputable def bdS (s:Sec):aG:=bdV (valS s)
theorem bounds_con (s:Sec):bm Tryz.prog gl 47 [secC s] (dx (bdS s)):=by
 have hv:=valid_con (gl:=gl) s
 have v:=valS_V s
 unfold bdS bdV
 generalize valS s=u at *
 have h1:=v.len
 have h2:=v.low
 have h3:=v.high
 refine ao Tryz.func47 rfl (by kernel_rfl) rfl ?_
 simp only [Tryz.ntmps47,Tryz.results47,am,ofC,aZ,List.map]
 by_cases h0:u.rows.length=0
 ·rw [if_pos h0]
  repeat' (first
 | ((with_reducible apply ah);exact rfl;exact rfl;exact hv;exact rfl;exact rfl)
 | (((with_reducible apply aa);exact rfl)<;>intro hg<;>(first|(exact absurd hg (by decide))|((try simp only [qz,ge_iff_le,List.cons.injEq,and_true] at hg);first|(exact absurd trivial hg)|(exfalso;omega)|(have hT:True:=hg;clear hT hg)|skip)))
 | (refine zs ?_)
 | fail
 )
  exact cL (.cell_a inferInstance rfl rfl rfl rfl (al ap (al ap (al ap (al ap bj)))))
 rw [if_neg h0]
 have hr0:dH u 0=u.rows[0]'(by omega):=dP (by omega)
 have hh:=gK (gl:=gl) u.low (u.low+u.rows.length) (by omega)
 repeat' (first
 | ((with_reducible apply ah);exact rfl;exact rfl;exact hv;exact rfl;exact rfl)
 | ((with_reducible apply (bD (k:=0)));exact rfl;exact inferInstance;exact rfl;exact rfl;(omega);exact rfl)
 | (((with_reducible apply aa);exact rfl)<;>intro hg<;>(first|(exact absurd hg (by decide))|((try simp only [qz,ge_iff_le,List.cons.injEq,and_true] at hg);first|(exact absurd trivial hg)|(exfalso;omega)|(have hT:True:=hg;clear hT hg)|skip)))
 | (refine zs ?_)
 | fail
 )
 refine au (G:=Nat×an) (fun ((j,b):Nat×an)=>j≤u.rows.length∧b=bxN u j) (fun ((j,b):Nat×an)=>u.rows.length - j) (fun ((j,b):Nat×an)=>[(1,.ptr 0 0),(2,.ptr 1 0),(3,.ptr 2 0),(18,.c (LS u.rows)),(19,A u.rows.length),(20,A j)]) (fun ((j,b):Nat×an)=>[(0,some (secB u)),(1,some (.cells 37 [A 0,A 0,A 0,A 0])),(2,some (.cells 35 [A b.1,A b.2]))]) 3 (0,u.rows[0]'(by omega)) ?_ (by refine ak rfl ?_ ?_<;>repeat (first|exact ai|exact ac|refine ae rfl rfl ?_|refine ab rfl rfl rfl ?_)) rfl ?_
 ·exact ⟨Nat.zero_le _,hr0.symm⟩
 rintro ⟨j,b⟩ hI
 try dsimp only at hI
 try dsimp only
 obtain ⟨hj,hb⟩:=hI
 by_cases hjl:j < u.rows.length
 ·have hc:=gE (gl:=gl) u.rows[j].1 u.rows[j].2
  have hrj:=dP hjl
  cases he:aO u.rows[j] with
  | true =>
   rw [show aO (u.rows[j].1,u.rows[j].2)=true from he] at hc
   repeat' (first
 | ((with_reducible apply ah);exact rfl;exact rfl;exact hc;exact rfl;exact rfl)
 | (((with_reducible apply aa);exact rfl)<;>intro hg<;>(first|(exact absurd hg (by decide))|((try simp only [qz,ge_iff_le,List.cons.injEq,and_true] at hg);first|(exact absurd trivial hg)|(exfalso;omega)|(have hT:True:=hg;clear hT hg)|skip)))
 | (refine zs ?_)
 | fail
 )
   refine ⟨(j+1,b),?_,?_,by refine ak rfl ?_ ?_<;>repeat (first|exact ai|exact ac|refine ae rfl rfl ?_|refine ab rfl rfl rfl ?_)⟩
   ·show _ - (j+1) < _ - j;omega
   ·exact ⟨by show j+1≤_;omega,by show b=if aO (dH u j)=true then bxN u j else _;rw [hrj,if_pos he,hb]⟩
  | false =>
   rw [show aO (u.rows[j].1,u.rows[j].2)=false from he] at hc
   repeat' (first
 | ((with_reducible apply ah);exact rfl;exact rfl;exact hc;exact rfl;exact rfl)
 | (((with_reducible apply aa);exact rfl)<;>intro hg<;>(first|(exact absurd hg (by decide))|((try simp only [qz,ge_iff_le,List.cons.injEq,and_true] at hg);first|(exact absurd trivial hg)|(exfalso;omega)|(have hT:True:=hg;clear hT hg)|skip)))
 | (refine zs ?_)
 | fail
 )
   refine ⟨(j+1,fE b u.rows[j]),?_,?_,by refine ak rfl ?_ ?_<;>repeat (first|exact ai|exact ac|refine ae rfl rfl ?_|refine ab rfl rfl rfl ?_)⟩
   ·show _ - (j+1) < _ - j;omega
   ·exact ⟨by show j+1≤_;omega,by show fE b u.rows[j]=if aO (dH u j)=true then bxN u j else fE (bxN u j) (dH u j);rw [hrj,if_neg (by rw [he];simp),hb]⟩
 ·obtain rfl:j=u.rows.length:=by omega
  rw [← hb]
  repeat' (first
 | (refine aL 11 ?_ ?_;(kernel_rfl);(simp only [List.take_succ_cons,List.take_zero,List.drop_succ_cons,List.drop_zero]))
 | ((with_reducible apply ah);exact rfl;exact rfl;exact hh;exact rfl;exact rfl)
 | (((with_reducible apply aa);exact rfl)<;>intro hg<;>(first|(exact absurd hg (by decide))|((try simp only [qz,ge_iff_le,List.cons.injEq,and_true] at hg);first|(exact absurd trivial hg)|(exfalso;omega)|(have hT:True:=hg;clear hT hg)|skip)))
 | (refine zs ?_)
 | fail
 )
  exact cL (.cell_a inferInstance rfl rfl rfl rfl (al ap (al ap (al ap (al ap bj)))))
theorem rbounds_con (s:Sec):bm Tryz.prog gl 45 [secC s] (dx (bdS s)):=by
 have hv:=rvalid_con (gl:=gl) s
 have v:=valS_V s
 unfold bdS bdV
 generalize valS s=u at *
 have h1:=v.len
 have h2:=v.low
 have h3:=v.high
 refine ao Tryz.func45 rfl (by kernel_rfl) rfl ?_
 simp only [Tryz.ntmps45,Tryz.results45,am,ofC,aZ,List.map]
 by_cases h0:u.rows.length=0
 ·rw [if_pos h0]
  repeat' (first
 | ((with_reducible apply ah);exact rfl;exact rfl;exact hv;exact rfl;exact rfl)
 | (((with_reducible apply aa);exact rfl)<;>intro hg<;>(first|(exact absurd hg (by decide))|((try simp only [qz,ge_iff_le,List.cons.injEq,and_true] at hg);first|(exact absurd trivial hg)|(exfalso;omega)|(have hT:True:=hg;clear hT hg)|skip)))
 | (refine zs ?_)
 | fail
 )
  exact cL (.cell_a inferInstance rfl rfl rfl rfl (al ap (al ap (al ap (al ap bj)))))
 rw [if_neg h0]
 have hr0:dH u 0=u.rows[0]'(by omega):=dP (by omega)
 repeat' (first
 | ((with_reducible apply ah);exact rfl;exact rfl;exact hv;exact rfl;exact rfl)
 | ((with_reducible apply (bD (k:=0)));exact rfl;exact inferInstance;exact rfl;exact rfl;(omega);exact rfl)
 | (((with_reducible apply aa);exact rfl)<;>intro hg<;>(first|(exact absurd hg (by decide))|((try simp only [qz,ge_iff_le,List.cons.injEq,and_true] at hg);first|(exact absurd trivial hg)|(exfalso;omega)|(have hT:True:=hg;clear hT hg)|skip)))
 | (refine zs ?_)
 | fail
 )
 refine au (G:=Nat×an) (fun ((j,b):Nat×an)=>j≤u.rows.length∧b=bxN u j) (fun ((j,b):Nat×an)=>u.rows.length - j) (fun ((j,b):Nat×an)=>[(1,.ptr 0 0),(2,.ptr 1 0),(3,.ptr 2 0),(4,A j)]) (fun ((j,b):Nat×an)=>[(0,some (secB u)),(1,some (.cells 37 [A 0,A 0,A 0,A 0])),(2,some (.cells 35 [A b.1,A b.2]))]) 3 (0,u.rows[0]'(by omega)) ?_ (by refine ak rfl ?_ ?_<;>repeat (first|exact ai|exact ac|refine ae rfl rfl ?_|refine ab rfl rfl rfl ?_)) rfl ?_
 ·exact ⟨Nat.zero_le _,hr0.symm⟩
 rintro ⟨j,b⟩ hI
 try dsimp only at hI
 try dsimp only
 obtain ⟨hj,hb⟩:=hI
 by_cases hjl:j < u.rows.length
 ·have hc:=empty_con (gl:=gl) u.rows[j].1 u.rows[j].2
  have hrj:=dP hjl
  cases he:aO u.rows[j] with
  | true =>
   rw [show aO (u.rows[j].1,u.rows[j].2)=true from he] at hc
   repeat' (first
 | ((with_reducible apply ah);exact rfl;exact rfl;exact hc;exact rfl;exact rfl)
 | (((with_reducible apply aa);exact rfl)<;>intro hg<;>(first|(exact absurd hg (by decide))|((try simp only [qz,ge_iff_le,List.cons.injEq,and_true] at hg);first|(exact absurd trivial hg)|(exfalso;omega)|(have hT:True:=hg;clear hT hg)|skip)))
 | (refine zs ?_)
 | fail
 )
   refine ⟨(j+1,b),?_,?_,by refine ak rfl ?_ ?_<;>repeat (first|exact ai|exact ac|refine ae rfl rfl ?_|refine ab rfl rfl rfl ?_)⟩
   ·show _ - (j+1) < _ - j;omega
   ·exact ⟨by show j+1≤_;omega,by show b=if aO (dH u j)=true then bxN u j else _;rw [hrj,if_pos he,hb]⟩
  | false =>
   rw [show aO (u.rows[j].1,u.rows[j].2)=false from he] at hc
   repeat' (first
 | (refine aL 19 ?_ ?_;(kernel_rfl);(simp only [List.take_succ_cons,List.take_zero,List.drop_succ_cons,List.drop_zero]))
 | ((with_reducible apply ah);exact rfl;exact rfl;exact hc;exact rfl;exact rfl)
 | (((with_reducible apply aa);exact rfl)<;>intro hg<;>(first|(exact absurd hg (by decide))|((try simp only [qz,ge_iff_le,List.cons.injEq,and_true] at hg);first|(exact absurd trivial hg)|(exfalso;omega)|(have hT:True:=hg;clear hT hg)|skip)))
 | (refine zs ?_)
 | fail
 )
   refine ⟨(j+1,fE b u.rows[j]),?_,?_,by refine ak rfl ?_ ?_<;>repeat (first|exact ai|exact ac|refine ae rfl rfl ?_|refine ab rfl rfl rfl ?_)⟩
   ·show _ - (j+1) < _ - j;omega
   ·exact ⟨by show j+1≤_;omega,by show fE b u.rows[j]=if aO (dH u j)=true then bxN u j else fE (bxN u j) (dH u j);rw [hrj,if_neg (by rw [he];simp),hb]⟩
 ·obtain rfl:j=u.rows.length:=by omega
  rw [← hb]
  repeat' (first
 | (((with_reducible apply aa);exact rfl)<;>intro hg<;>(first|(exact absurd hg (by decide))|((try simp only [qz,ge_iff_le,List.cons.injEq,and_true] at hg);first|(exact absurd trivial hg)|(exfalso;omega)|(have hT:True:=hg;clear hT hg)|skip)))
 | (refine zs ?_)
 | fail
 )
  exact cL (.cell_a inferInstance rfl rfl rfl rfl (al ap (al ap (al ap (al ap bj)))))
def ir (a b:aG):aG:=(fE a.1 b.1,fE a.2 b.2)
noncomputable def sbN (l:List Slc):Nat→aG
 | 0=>((0,0),(0,0))
 | j+1=>ir (if j=0 then bdS (cZ l j) else sbN l j) (bdS (cZ l j))
noncomputable def sbS (l:List Slc):aG:=sbN (iy l) (iy l).length
theorem sbounds_con (l:List Slc) (hn:l.length≤maxLen):bm Tryz.prog gl 19 [LL l] (dx (sbS l)):=by
 have hv:=iR (gl:=gl) l hn
 have v:=valL_V l
 unfold sbS
 generalize iy l=u at *
 have hu:=v.n
 refine ao Tryz.func19 rfl (by kernel_rfl) rfl ?_
 simp only [Tryz.ntmps19,Tryz.results19,am,ofC,aZ,List.map]
 repeat' (first
 | ((with_reducible apply ah);exact rfl;exact rfl;exact hv;exact rfl;exact rfl)
 | (refine zs ?_)
 | fail
 )
 refine au (G:=Nat×aG) (fun ((j,b):Nat×aG)=>j≤u.length∧b=sbN u j) (fun ((j,b):Nat×aG)=>u.length - j) (fun ((j,b):Nat×aG)=>[(2,.ptr 0 0),(3,.ptr 1 0),(8,.c (LL u)),(9,A u.length),(10,A j)]) (fun ((j,b):Nat×aG)=>[(0,some (.cells 37 [A 0,A 0,A 0,A 0])),(1,some (.cells 37 [A b.1.1,A b.1.2,A b.2.1,A b.2.2]))]) 2 (0,((0,0),(0,0))) ?_ (by refine ak rfl ?_ ?_<;>repeat (first|exact ai|exact ac|refine ae rfl rfl ?_|refine ab rfl rfl rfl ?_)) rfl ?_
 ·exact ⟨Nat.zero_le _,rfl⟩
 rintro ⟨j,b⟩ hI
 try dsimp only at hI
 try dsimp only
 obtain ⟨hj,hb⟩:=hI
 by_cases hjl:j < u.length
 ·have hc:=bounds_con (gl:=gl) u[j].sec
  have hsd:=eL hjl
  by_cases hj0:j=0
  ·skip
   repeat' (first
 | ((with_reducible apply ah);exact rfl;exact rfl;exact hc;exact rfl;exact rfl)
 | (((with_reducible apply aa);exact rfl)<;>intro hg<;>(first|(exact absurd hg (by decide))|((try simp only [qz,ge_iff_le,List.cons.injEq,and_true] at hg);first|(exact absurd trivial hg)|(exfalso;omega)|(have hT:True:=hg;clear hT hg)|skip)))
 | (refine zs ?_)
 | fail
 )
   refine ⟨(j+1,ir (bdS u[j].sec) (bdS u[j].sec)),?_,?_,by refine ak rfl ?_ ?_<;>repeat (first|exact ai|exact ac|refine ae rfl rfl ?_|refine ab rfl rfl rfl ?_)⟩
   ·show _ - (j+1) < _ - j;omega
   ·exact ⟨by show j+1≤_;omega,by show _=ir (if j=0 then bdS (cZ u j) else sbN u j) (bdS (cZ u j));rw [if_pos hj0,hsd]⟩
  ·skip
   repeat' (first
 | ((with_reducible apply ah);exact rfl;exact rfl;exact hc;exact rfl;exact rfl)
 | (((with_reducible apply aa);exact rfl)<;>intro hg<;>(first|(exact absurd hg (by decide))|((try simp only [qz,ge_iff_le,List.cons.injEq,and_true] at hg);first|(exact absurd trivial hg)|(exfalso;omega)|(have hT:True:=hg;clear hT hg)|skip)))
 | (refine zs ?_)
 | fail
 )
   refine ⟨(j+1,ir b (bdS u[j].sec)),?_,?_,by refine ak rfl ?_ ?_<;>repeat (first|exact ai|exact ac|refine ae rfl rfl ?_|refine ab rfl rfl rfl ?_)⟩
   ·show _ - (j+1) < _ - j;omega
   ·exact ⟨by show j+1≤_;omega,by show _=ir (if j=0 then bdS (cZ u j) else sbN u j) (bdS (cZ u j));rw [if_neg hj0,hsd,hb]⟩
 ·obtain rfl:j=u.length:=by omega
  rw [← hb]
  repeat' (first
 | (((with_reducible apply aa);exact rfl)<;>intro hg<;>(first|(exact absurd hg (by decide))|((try simp only [qz,ge_iff_le,List.cons.injEq,and_true] at hg);first|(exact absurd trivial hg)|(exfalso;omega)|(have hT:True:=hg;clear hT hg)|skip)))
 | (refine zs ?_)
 | fail
 )
  exact cL (.cell_a inferInstance rfl rfl rfl rfl (al ap (al ap (al ap (al ap bj)))))
theorem joinR_self (a:aG):ir a a=a:=by
 unfold ir fE
 rw [Int.min_self,Int.max_self,Int.min_self,Int.max_self]
theorem rsbounds_con (l:List Slc) (hn:l.length≤maxLen):bm Tryz.prog gl 15 [LL l] (dx (sbS l)):=by
 have hc:=rscheck_con (gl:=gl) l hn
 refine ao Tryz.func15 rfl (by kernel_rfl) rfl ?_
 simp only [Tryz.ntmps15,Tryz.results15,am,ofC,aZ,List.map]
 by_cases h:aX l=0
 rotate_left
 ·have e:sbS l=((0,0),(0,0)):=by unfold sbS;rw [valL_no h];rfl
  rw [e]
  repeat' (first
 | ((with_reducible apply ah);exact rfl;exact rfl;exact hc;exact rfl;exact rfl)
 | (((with_reducible apply aa);exact rfl)<;>intro hg<;>(first|(exact absurd hg (by decide))|((try simp only [qz,ge_iff_le,List.cons.injEq,and_true] at hg);first|(exact absurd trivial hg)|(exfalso;omega)|(have hT:True:=hg;clear hT hg)|skip)))
 | (refine zs ?_)
 | fail
 )
  exact cL (.cell_a inferInstance rfl rfl rfl rfl (al ap (al ap (al ap (al ap bj)))))
 have h0:0 < l.length:=Nat.pos_of_ne_zero fun hh=>by rw [← sol_0 hh] at h;cases h
 unfold sbS
 rw [gC h]
 have v:=sol_V h
 have hu:=v.n
 have hb0:=rbounds_con (gl:=gl) (l[0]'h0).sec
 repeat' (first
 | ((with_reducible apply ah);exact rfl;exact rfl;(first|exact hc|exact hb0);exact rfl;exact rfl)
 | ((with_reducible apply (bD (k:=0)));exact rfl;exact inferInstance;exact rfl;exact rfl;(omega);exact rfl)
 | (((with_reducible apply aa);exact rfl)<;>intro hg<;>(first|(exact absurd hg (by decide))|((try simp only [qz,ge_iff_le,List.cons.injEq,and_true] at hg);first|(exact absurd trivial hg)|(exfalso;omega)|(have hT:True:=hg;clear hT hg)|skip)))
 | (refine zs ?_)
 | fail
 )
 refine au (G:=Nat×aG) (fun ((j,b):Nat×aG)=>1≤j∧j≤l.length∧b=sbN l j) (fun ((j,b):Nat×aG)=>l.length - j) (fun ((j,b):Nat×aG)=>[(0,.c (LL l)),(2,.ptr 0 0),(3,.ptr 1 0),(4,A j)]) (fun ((j,b):Nat×aG)=>[(0,some (.cells 37 [A 0,A 0,A 0,A 0])),(1,some (.cells 37 [A b.1.1,A b.1.2,A b.2.1,A b.2.2]))]) 2 (1,bdS (l[0]'h0).sec) ?_ (by refine ak rfl ?_ ?_<;>repeat (first|exact ai|exact ac|refine ae rfl rfl ?_|refine ab rfl rfl rfl ?_)) rfl ?_
 ·exact ⟨Nat.le_refl _,h0,by show _=ir (if (0:Nat)=0 then bdS (cZ l 0) else sbN l 0) (bdS (cZ l 0));rw [if_pos rfl,joinR_self,eL h0]⟩
 rintro ⟨j,b⟩ hI
 try dsimp only at hI
 try dsimp only
 obtain ⟨hj1,hj,hb⟩:=hI
 by_cases hjl:j < l.length
 ·have hcb:=rbounds_con (gl:=gl) l[j].sec
  have hsd:=eL hjl
  repeat' (first
 | ((with_reducible apply ah);exact rfl;exact rfl;exact hcb;exact rfl;exact rfl)
 | (((with_reducible apply aa);exact rfl)<;>intro hg<;>(first|(exact absurd hg (by decide))|((try simp only [qz,ge_iff_le,List.cons.injEq,and_true] at hg);first|(exact absurd trivial hg)|(exfalso;omega)|(have hT:True:=hg;clear hT hg)|skip)))
 | (refine zs ?_)
 | fail
 )
  refine ⟨(j+1,ir b (bdS l[j].sec)),?_,?_,by refine ak rfl ?_ ?_<;>repeat (first|exact ai|exact ac|refine ae rfl rfl ?_|refine ab rfl rfl rfl ?_)⟩
  ·show _ - (j+1) < _ - j;omega
  ·exact ⟨by show 1≤j+1;omega,by show j+1≤_;omega,by show _=ir (if j=0 then bdS (cZ l j) else sbN l j) (bdS (cZ l j));rw [if_neg (by omega),hsd,hb]⟩
 ·obtain rfl:j=l.length:=by omega
  rw [← hb]
  repeat' (first
 | (((with_reducible apply aa);exact rfl)<;>intro hg<;>(first|(exact absurd hg (by decide))|((try simp only [qz,ge_iff_le,List.cons.injEq,and_true] at hg);first|(exact absurd trivial hg)|(exfalso;omega)|(have hT:True:=hg;clear hT hg)|skip)))
 | (refine zs ?_)
 | fail
 )
  exact cL (.cell_a inferInstance rfl rfl rfl rfl (al ap (al ap (al ap (al ap bj)))))
end Go.Proofs.YtdndfncpglfdeaaGreatDoor.Ge

namespace Go.Proofs.YtdndfncpglfdeaaGreatDoor.Ge
set_option linter.unusedVariables false
set_option linter.unusedSimpArgs false
open Go.RowKit Go.Proofs.YtdndfncpglfdeaaGreatDoor.Ev
variable {gl:List (Nat×List CV)}
end Go.Proofs.YtdndfncpglfdeaaGreatDoor.Ge

namespace Go.Proofs.YtdndfncpglfdeaaGreatDoor.Ge
set_option linter.unusedVariables false
set_option linter.unusedSimpArgs false
open Go.RowKit Go.Proofs.YtdndfncpglfdeaaGreatDoor.Ev
variable {gl:List (Nat×List CV)}
def rowB (x:Slc):Bool:=decide (x.sec.rows.length≤130)
def smallS (l:List Slc):Bool:=decide (l.length≤30) && l.all rowB
abbrev boxC (b:an×an×an):CV:=.agg [I b.1.1,I b.1.2,I b.2.1.1,I b.2.1.2,I b.2.2.1,I b.2.2.2]
end Go.Proofs.YtdndfncpglfdeaaGreatDoor.Ge

namespace Go.Proofs.YtdndfncpglfdeaaGreatDoor.Ge
set_option linter.unusedVariables false
set_option linter.unusedSimpArgs false
open Go.RowKit Go.Proofs.YtdndfncpglfdeaaGreatDoor.Ev
theorem gY (f g:Nat→Int):∀ n,cT (fun i=>f i+g i) n=cT f n+cT g n
 | 0=>rfl
 | n+1=>by unfold cT;rw [gY f g n];omega
theorem ep {f g:Nat→Int}:∀ {n:Nat},(∀ i,i < n→f i=g i)→cT f n=cT g n
 | 0,_=>rfl
 | n+1,h=>by unfold cT;rw [ep (fun i hi=>h i (by omega)),h n (by omega)]
theorem sumN_le {f g:Nat→Int}:∀ {n:Nat},(∀ i,i < n→f i≤g i)→cT f n≤cT g n
 | 0,_=>Int.le_refl _
 | n+1,h=>by
  have h1:=sumN_le (fun i hi=>h i (by omega:i < n+1)) (n:=n)
  have h2:=h n (by omega)
  unfold cT;omega
theorem sumN_mul (c:Int) (f:Nat→Int):∀ n,cT (fun i=>c * f i) n=c * cT f n
 | 0=>by simp [cT]
 | n+1=>by unfold cT;rw [sumN_mul c f n,Int.mul_add]
theorem ov_split (a:an) {p m q:Int} (h1:p≤m) (h2:m≤q):ov a (p,m)+ov a (m,q)=ov a (p,q):=by unfold ov;dsimp only;omega
theorem in_splitX (s:Sec) (Y:an) {p m q:Int} (h1:p≤m) (h2:m≤q):inV s (p,m) Y+inV s (m,q) Y=inV s (p,q) Y:=by
 unfold inV
 rw [← gY]
 exact ep fun i _=>by rw [← Int.add_mul,ov_split _ h1 h2]
theorem in_splitY (s:Sec) (X:an) {p m q:Int} (h1:p≤m) (h2:m≤q):inV s X (p,m)+inV s X (m,q)=inV s X (p,q):=by
 unfold inV
 rw [← gY]
 exact ep fun i _=>by rw [← Int.mul_add,ov_split _ h1 h2]
theorem win_splitZ (l:List Slc) (X Y:an) {p m q:Int} (h1:p≤m) (h2:m≤q):winV l X Y (p,m)+winV l X Y (m,q)=winV l X Y (p,q):=by
 unfold winV
 rw [← gY]
 exact ep fun i _=>by unfold ovZ;rw [← Int.add_mul,ov_split _ h1 h2]
theorem win_splitX (l:List Slc) (Y Z:an) {p m q:Int} (h1:p≤m) (h2:m≤q):winV l (p,m) Y Z+winV l (m,q) Y Z=winV l (p,q) Y Z:=by
 unfold winV
 rw [← gY]
 exact ep fun i _=>by rw [← Int.mul_add,in_splitX _ _ h1 h2]
theorem win_splitY (l:List Slc) (X Z:an) {p m q:Int} (h1:p≤m) (h2:m≤q):winV l X (p,m) Z+winV l X (m,q) Z=winV l X (p,q) Z:=by
 unfold winV
 rw [← gY]
 exact ep fun i _=>by rw [← Int.mul_add,in_splitY _ _ h1 h2]
structure CutI (l:List Slc) (Z:an) (j:Nat):Prop where
 v:SolV (cutN l Z j)
 len:pos (cutN l Z j) (cutN l Z j).length=cT (ovZ l Z) j
 vol:volV (cutN l Z j)=cT (fun i=>ovZ l Z i * gk (cZ l i)) j
structure Holds (X Y:an) (s:Sec):Prop where
 row:∀ i (h:i < s.rows.length),s.rows[i].1 < s.rows[i].2→X.1≤s.rows[i].1∧s.rows[i].2≤X.2
 low:Y.1≤10 * s.low
 high:10 * (s.low+s.rows.length)≤Y.2
theorem bx_has {s:Sec}:∀ j i (h:i < s.rows.length),i < j→s.rows[i].1 < s.rows[i].2→(bxN s j).1≤s.rows[i].1∧s.rows[i].2≤(bxN s j).2
 | 0,i,h,hij,_=>by omega
 | j+1,i,h,hij,hne=>by
  unfold bxN
  by_cases he:i=j
  ·subst he
   rw [dP h,if_neg (by unfold aO;simp;omega)]
   unfold fE;dsimp only;omega
  ·have ih:=bx_has j i h (by omega) hne
   split
   ·exact ih
   ·unfold fE;dsimp only;omega
end Go.Proofs.YtdndfncpglfdeaaGreatDoor.Ge

namespace Go.Proofs.YtdndfncpglfdeaaGreatDoor.Ge
set_option linter.unusedVariables false
set_option linter.unusedSimpArgs false
open Go.RowKit Go.Proofs.YtdndfncpglfdeaaGreatDoor.Ev
def nf (x:an):an:=if aO x=true then (0,0) else x
def gd (l:List an) (i:Nat):an:=l.getD i (0,0)
structure Bld (f:Int→an) (r:Int) (lo:Int) (rows:List an) (used:Nat):Prop where
 le:used≤rows.length
 zero:used=0→lo=0∧rows=[]∧∀ q,-60≤q→q < r→aO (f q)=true
 pos:0 < used→lo+rows.length=r∧-60≤lo∧(∀ q,-60≤q→q < lo→aO (f q)=true)∧(∀ i:Nat,i < rows.length→gd rows i=nf (f (lo+i)))∧aO (gd rows 0)=false∧aO (gd rows (used - 1))=false∧∀ i,used≤i→i < rows.length→gd rows i=(0,0)
structure RowsOf (s:Sec) (f:Int→an):Prop where
 v:SecV s
 at':∀ r,-60≤r→r < 60→atR s r=nf (f r)
end Go.Proofs.YtdndfncpglfdeaaGreatDoor.Ge

namespace Go.Proofs.YtdndfncpglfdeaaGreatDoor.Ge
set_option linter.unusedVariables false
set_option linter.unusedSimpArgs false
open Go.RowKit Go.Proofs.YtdndfncpglfdeaaGreatDoor.Ev
theorem sum_ov (g:Nat→Int) (X:an):∀ n,(∀ i,i < n→g i≤g (i+1))→g 0≤g n∧cT (fun i=>ov (g i,g (i+1)) X) n=ov (g 0,g n) X
 | 0,_=>⟨Int.le_refl _,by show 0=_;unfold ov;dsimp only;omega⟩
 | n+1,h=>by
  have ih:=sum_ov g X n (fun i hi=>h i (by omega))
  have h1:=h n (by omega)
  refine ⟨by omega,?_⟩
  show cT (fun i=>ov (g i,g (i+1)) X) n+ov (g n,g (n+1)) X=_
  rw [ih.2]
  have:=ih.1
  unfold ov;dsimp only;omega
theorem ov_wid (a b:an):ov a b≤wid b:=by unfold ov wid;omega
theorem ov_nn (a b:an):0≤ov a b:=by unfold ov;omega
theorem wid_nn (b:an):0≤wid b:=by unfold wid;omega
theorem in_size (s:Sec) (X Y:an):inV s X Y≤wid X * wid Y:=by
 have h1:inV s X Y≤cT (fun i:Nat=>wid X * ov (10 * (s.low+i),10 * (s.low+i+1)) Y) s.rows.length :=
  sumN_le fun i _=>Int.mul_le_mul_of_nonneg_right (ov_wid _ _) (ov_nn _ _)
 rw [sumN_mul] at h1
 have h2:=(sum_ov (fun i:Nat=>10 * (s.low+i)) Y s.rows.length (fun i _=>by omega)).2
 have h3:cT (fun i:Nat=>ov (10 * (s.low+i),10 * (s.low+i+1)) Y) s.rows.length=cT (fun i:Nat=>ov (10 * (s.low+i),10 * (s.low+((i+1:Nat):Int))) Y) s.rows.length :=
  ep fun i _=>by rw [show s.low+((i+1:Nat):Int)=s.low+i+1 by omega]
 rw [h3,h2] at h1
 exact Int.le_trans h1 (Int.mul_le_mul_of_nonneg_left (ov_wid _ _) (wid_nn _))
theorem in_nn (s:Sec) (X Y:an):0≤inV s X Y:=by
 have h:=sumN_le (f:=fun _=>0) (g:=fun i:Nat=>ov (dH s i) X * ov (10 * (s.low+i),10 * (s.low+i+1)) Y) (n:=s.rows.length) (fun i _=>Int.mul_nonneg (ov_nn _ _) (ov_nn _ _))
 rw [sumN_zero (fun _ _=>rfl)] at h
 exact h
def Part (s t:Sec):Prop:=∀ r,-60≤r→r < 60→di (atR s r) (atR t r)=atR s r
end Go.Proofs.YtdndfncpglfdeaaGreatDoor.Ge

namespace Go.Proofs.YtdndfncpglfdeaaGreatDoor.Ge
set_option linter.unusedVariables false
set_option linter.unusedSimpArgs false
open Go.RowKit Go.Proofs.YtdndfncpglfdeaaGreatDoor.Ev
variable {gl:List (Nat×List CV)}
end Go.Proofs.YtdndfncpglfdeaaGreatDoor.Ge

namespace Go.Proofs.YtdndfncpglfdeaaGreatDoor.Ge
set_option linter.unusedVariables false
set_option linter.unusedSimpArgs false
open Go.RowKit Go.Proofs.YtdndfncpglfdeaaGreatDoor.Ev
variable {gl:List (Nat×List CV)}
theorem cD (l:List Slc) (X Y Z:an):0≤bH l X Y Z∧bH l X Y Z≤700000000000:=by
 have v:=valL_V l
 have:=(fO (c:=28800000000) (n:=(iy l).length) (fun i hi=>win_bd v X Y Z hi)) _ (Nat.le_refl _)
 have h2:=v.n
 unfold bH winV;omega
theorem volS_bd (l:List Slc):0≤ey l∧ey l≤700000000000:=by
 have v:=valL_V l
 have:=(fO (c:=28800000000) (n:=(iy l).length) (fun i hi=>vol_bd v hi)) _ (Nat.le_refl _)
 have h2:=v.n
 unfold ey volV;omega
end Go.Proofs.YtdndfncpglfdeaaGreatDoor.Ge
