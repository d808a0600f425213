/- PB PC: texts laid together. -/
import Derived.Test.YtdndfncpglfdeaaGreatDoorMrgX0
import Derived.Test.YtdndfncpglfdeaaGreatDoorMrgM0
import Derived.Test.YtdndfncpglfdeaaGreatDoorMrgS
set_option maxRecDepth 100000
set_option maxHeartbeats 64000000

namespace Go.Proofs.YtdndfncpglfdeaaGreatDoor.Tp
set_option linter.unusedVariables false
set_option linter.unusedSimpArgs false
open Go.RowKit Go.Proofs.YtdndfncpglfdeaaGreatDoor.Ev
open Go.Proofs.YtdndfncpglfdeaaGreatDoor.Cu (I LI ce fP)
variable {gl:List (Nat×List CV)}
def dF:Option Int→List Int→Int
 | _,[]=>0
 | none,n::ns=>if n < 100∨n > 20000 then 9 else dF (some n) ns
 | some q,n::ns=>if n < 100∨n > 20000 then 9 else if n≤q then 11 else dF (some n) ns
def iw (l:List Int) (j:Nat):Option Int:=if j=0 then none else l[j - 1]?
def dR:List Int→Int
 | []=>0
 | q::qs=>if q < 0∨q > 1000000 then 9 else dR qs
def lenE (p:Pr):Int :=
 if p.lens.length=0 then 3 else if p.lens.length > 8 then 4 else if p.prices.length≠p.lens.length then 19 else if dF none p.lens=0 then dR p.prices else dF none p.lens
theorem prevO_succ {l:List Int} {j:Nat} (h:j < l.length):iw l (j+1)=some l[j]:=by
 unfold iw
 rw [if_neg (by omega),Nat.add_sub_cancel,List.getElem?_eq_getElem h]
theorem lensE_bad {l:List Int} {j:Nat} {o:Option Int} (h:j < l.length) (hb:l[j] < 100∨l[j] > 20000):dF o (l.drop j)=9:=by
 rw [List.drop_eq_getElem_cons h]
 cases o<;>(unfold dF;rw [if_pos hb])
theorem lensE_order {l:List Int} {j:Nat} (h:j < l.length) (hb:¬ (l[j] < 100∨l[j] > 20000)) (h0:0 < j) (ho:l[j]≤l[j - 1]'(by omega)):dF (iw l j) (l.drop j)=11:=by
 rw [List.drop_eq_getElem_cons h]
 unfold iw
 rw [if_neg (by omega),List.getElem?_eq_getElem (by omega)]
 unfold dF
 rw [if_neg hb,if_pos ho]
theorem iT {l:List Int} {j:Nat} (h:j < l.length) (hb:¬ (l[j] < 100∨l[j] > 20000)) (ho:∀ h0:0 < j,¬ l[j]≤l[j - 1]'(by omega)):dF (iw l j) (l.drop j)=dF (iw l (j+1)) (l.drop (j+1)):=by
 rw [prevO_succ h,List.drop_eq_getElem_cons h]
 by_cases h0:0 < j
 ·have:=ho h0
  unfold iw
  rw [if_neg (by omega),List.getElem?_eq_getElem (by omega)]
  rw [dF,if_neg hb,if_neg this]
 ·obtain rfl:j=0:=by omega
  show dF none _=_
  rw [dF,if_neg hb]
theorem pricesE_bad {l:List Int} {j:Nat} (h:j < l.length) (hb:l[j] < 0∨l[j] > 1000000):dR (l.drop j)=9:=by
 rw [List.drop_eq_getElem_cons h,dR,if_pos hb]
theorem pricesE_next {l:List Int} {j:Nat} (h:j < l.length) (hb:¬ (l[j] < 0∨l[j] > 1000000)):dR (l.drop j)=dR (l.drop (j+1)):=by
 rw [List.drop_eq_getElem_cons h,dR,if_neg hb]
abbrev prB (p:Pr):AB:=.cells 60 ((prL p).map .c)
theorem rlens_con (p:Pr):bm Tryz.prog gl 69 [prC p] (I (lenE p)):=by
 unfold lenE
 by_cases h1:p.lens.length=0
 ·rw [if_pos h1]
  refine ao Tryz.func69 rfl (by kernel_rfl) rfl ?_
  simp only [Tryz.ntmps69,Tryz.results69,am,ofC,aZ,List.map,prL]
  repeat' (first
 | (((with_reducible apply aa);exact rfl)<;>intro hg<;>(first|(exact absurd hg (by decide))|((try simp only [qz,ge_iff_le,List.cons.injEq,and_true] at hg);first|(exact absurd trivial hg)|(exfalso;omega)|(have hT:True:=hg;clear hT hg)|skip)))
 | (refine zs ?_)
 | fail
 )
  all_goals exact aB rfl rfl
 rw [if_neg h1]
 by_cases h2:p.lens.length > 8
 ·rw [if_pos h2]
  refine ao Tryz.func69 rfl (by kernel_rfl) rfl ?_
  simp only [Tryz.ntmps69,Tryz.results69,am,ofC,aZ,List.map,prL]
  repeat' (first
 | (((with_reducible apply aa);exact rfl)<;>intro hg<;>(first|(exact absurd hg (by decide))|((try simp only [qz,ge_iff_le,List.cons.injEq,and_true] at hg);first|(exact absurd trivial hg)|(exfalso;omega)|(have hT:True:=hg;clear hT hg)|skip)))
 | (refine zs ?_)
 | fail
 )
  all_goals exact aB rfl rfl
 rw [if_neg h2]
 by_cases h3:p.prices.length≠p.lens.length
 ·rw [if_pos h3]
  refine ao Tryz.func69 rfl (by kernel_rfl) rfl ?_
  simp only [Tryz.ntmps69,Tryz.results69,am,ofC,aZ,List.map,prL]
  repeat' (first
 | (((with_reducible apply aa);exact rfl)<;>intro hg<;>(first|(exact absurd hg (by decide))|((try simp only [qz,ge_iff_le,List.cons.injEq,and_true] at hg);first|(exact absurd trivial hg)|(exfalso;omega)|(have hT:True:=hg;clear hT hg)|skip)))
 | (refine zs ?_)
 | fail
 )
  all_goals exact aB rfl rfl
 rw [if_neg h3]
 have h3:p.prices.length=p.lens.length:=by omega
 refine ao Tryz.func69 rfl (by kernel_rfl) rfl ?_
 simp only [Tryz.ntmps69,Tryz.results69,am,ofC,aZ,List.map,prL]
 repeat' (first
 | (((with_reducible apply aa);exact rfl)<;>intro hg<;>(first|(exact absurd hg (by decide))|((try simp only [qz,ge_iff_le,List.cons.injEq,and_true] at hg);first|(exact absurd trivial hg)|(exfalso;omega)|(have hT:True:=hg;clear hT hg)|skip)))
 | (refine zs ?_)
 | fail
 )
 refine au (G:=Nat) (fun (j:Nat)=>j≤p.lens.length∧dF none p.lens=dF (iw p.lens j) (p.lens.drop j)) (fun (j:Nat)=>p.lens.length - j) (fun (j:Nat)=>[(1,.ptr 0 0),(3,A j)]) (fun (j:Nat)=>[(0,some (prB p))]) 1 0 ?_ (by refine ak rfl ?_ ?_<;>repeat (first|exact ai|exact ac|refine ae rfl rfl ?_|refine ab rfl rfl rfl ?_)) rfl ?_
 ·exact ⟨Nat.zero_le _,rfl⟩
 rintro j hI
 try dsimp only at hI
 try dsimp only
 obtain ⟨hj,hp⟩:=hI
 by_cases hjl:j < p.lens.length
 ·by_cases hb:p.lens[j] < 100∨p.lens[j] > 20000
  ·have e:=lensE_bad (o:=iw p.lens j) hjl hb
   rw [hp,e]
   repeat' (first
 | ((first|((with_reducible apply aj);iterate 4 exact rfl)|((with_reducible apply aa);exact rfl))<;>intro hg<;>(first|(exact absurd hg (by decide))|((try simp only [qz,ge_iff_le,List.cons.injEq,and_true] at hg);first|(exact absurd trivial hg)|(exfalso;omega)|(have hT:True:=hg;clear hT hg)|skip)))
 | (refine zs ?_)
 | fail
 )
   all_goals exact aB rfl rfl
  ·by_cases h0:0 < j
   ·by_cases ho:p.lens[j]≤p.lens[j - 1]'(by omega)
    ·have e:=lensE_order hjl hb h0 ho
     rw [hp,e]
     repeat' (first
 | (refine aL 16 ?_ ?_;(kernel_rfl);(simp only [List.take_succ_cons,List.take_zero,List.drop_succ_cons,List.drop_zero]))
 | ((with_reducible apply (bD (k:=j - 1)));exact rfl;exact inferInstance;exact rfl;exact (by omega);exact (by omega);exact rfl)
 | ((first|((with_reducible apply aj);iterate 4 exact rfl)|((with_reducible apply aa);exact rfl))<;>intro hg<;>(first|(exact absurd hg (by decide))|((try simp only [qz,ge_iff_le,List.cons.injEq,and_true] at hg);first|(exact absurd trivial hg)|(exfalso;omega)|(have hT:True:=hg;clear hT hg)|skip)))
 | (((with_reducible apply bL);iterate 3 exact rfl)<;>intro hg<;>(first|(exact absurd hg (by decide))|((try rw [hg]);(try simp only [qz,ge_iff_le,List.cons.injEq,and_true] at hg);first|(exact absurd trivial hg)|(exfalso;omega)|(have hT:True:=hg;clear hT hg)|skip)))
 | (refine zs ?_)
 | fail
 )
     all_goals exact aB rfl rfl
    ·skip
     repeat' (first
 | (refine aL 16 ?_ ?_;(kernel_rfl);(simp only [List.take_succ_cons,List.take_zero,List.drop_succ_cons,List.drop_zero]))
 | ((with_reducible apply (bD (k:=j - 1)));exact rfl;exact inferInstance;exact rfl;exact (by omega);exact (by omega);exact rfl)
 | ((first|((with_reducible apply aj);iterate 4 exact rfl)|((with_reducible apply aa);exact rfl))<;>intro hg<;>(first|(exact absurd hg (by decide))|((try simp only [qz,ge_iff_le,List.cons.injEq,and_true] at hg);first|(exact absurd trivial hg)|(exfalso;omega)|(have hT:True:=hg;clear hT hg)|skip)))
 | (((with_reducible apply bL);iterate 3 exact rfl)<;>intro hg<;>(first|(exact absurd hg (by decide))|((try rw [hg]);(try simp only [qz,ge_iff_le,List.cons.injEq,and_true] at hg);first|(exact absurd trivial hg)|(exfalso;omega)|(have hT:True:=hg;clear hT hg)|skip)))
 | (refine zs ?_)
 | fail
 )
     refine ⟨j+1,?_,?_,by refine ak rfl ?_ ?_<;>repeat (first|exact ai|exact ac|refine ae rfl rfl ?_|refine ab rfl rfl rfl ?_)⟩
     ·omega
     ·exact ⟨by omega,by rw [hp];exact iT hjl hb (fun _=>ho)⟩
   ·skip
    repeat' (first
 | (refine aL 16 ?_ ?_;(kernel_rfl);(simp only [List.take_succ_cons,List.take_zero,List.drop_succ_cons,List.drop_zero]))
 | ((first|((with_reducible apply aj);iterate 4 exact rfl)|((with_reducible apply aa);exact rfl))<;>intro hg<;>(first|(exact absurd hg (by decide))|((try simp only [qz,ge_iff_le,List.cons.injEq,and_true] at hg);first|(exact absurd trivial hg)|(exfalso;omega)|(have hT:True:=hg;clear hT hg)|skip)))
 | (((with_reducible apply bL);iterate 3 exact rfl)<;>intro hg<;>(first|(exact absurd hg (by decide))|((try rw [hg]);(try simp only [qz,ge_iff_le,List.cons.injEq,and_true] at hg);first|(exact absurd trivial hg)|(exfalso;omega)|(have hT:True:=hg;clear hT hg)|skip)))
 | (refine zs ?_)
 | fail
 )
    refine ⟨j+1,?_,?_,by refine ak rfl ?_ ?_<;>repeat (first|exact ai|exact ac|refine ae rfl rfl ?_|refine ab rfl rfl rfl ?_)⟩
    ·omega
    ·exact ⟨by omega,by rw [hp];exact iT hjl hb (fun h=>absurd h h0)⟩
 have h4:dF none p.lens=0:=by rw [hp,List.drop_eq_nil_of_le (by omega)];cases iw p.lens j<;>rfl
 rw [if_pos h4]
 repeat' (first
 | (((with_reducible apply aa);exact rfl)<;>intro hg<;>(first|(exact absurd hg (by decide))|((try simp only [qz,ge_iff_le,List.cons.injEq,and_true] at hg);first|(exact absurd trivial hg)|(exfalso;omega)|(have hT:True:=hg;clear hT hg)|skip)))
 | (refine zs ?_)
 | fail
 )
 refine au (G:=Nat) (fun (j:Nat)=>j≤p.prices.length∧dR p.prices=dR (p.prices.drop j)) (fun (j:Nat)=>p.prices.length - j) (fun (j:Nat)=>[(1,.ptr 0 0),(4,A j)]) (fun (j:Nat)=>[(0,some (prB p))]) 1 0 ?_ (by refine ak rfl ?_ ?_<;>repeat (first|exact ai|exact ac|refine ae rfl rfl ?_|refine ab rfl rfl rfl ?_)) rfl ?_
 ·exact ⟨Nat.zero_le _,rfl⟩
 rintro j hI
 try dsimp only at hI
 try dsimp only
 obtain ⟨hj,hp⟩:=hI
 by_cases hjl:j < p.prices.length
 ·by_cases hb:p.prices[j] < 0∨p.prices[j] > 1000000
  ·rw [hp,pricesE_bad hjl hb]
   repeat' (first
 | ((first|((with_reducible apply aj);iterate 4 exact rfl)|((with_reducible apply aa);exact rfl))<;>intro hg<;>(first|(exact absurd hg (by decide))|((try simp only [qz,ge_iff_le,List.cons.injEq,and_true] at hg);first|(exact absurd trivial hg)|(exfalso;omega)|(have hT:True:=hg;clear hT hg)|skip)))
 | (refine zs ?_)
 | fail
 )
   all_goals exact aB rfl rfl
  ·skip
   repeat' (first
 | ((first|((with_reducible apply aj);iterate 4 exact rfl)|((with_reducible apply aa);exact rfl))<;>intro hg<;>(first|(exact absurd hg (by decide))|((try simp only [qz,ge_iff_le,List.cons.injEq,and_true] at hg);first|(exact absurd trivial hg)|(exfalso;omega)|(have hT:True:=hg;clear hT hg)|skip)))
 | (refine zs ?_)
 | fail
 )
   refine ⟨j+1,?_,?_,by refine ak rfl ?_ ?_<;>repeat (first|exact ai|exact ac|refine ae rfl rfl ?_|refine ab rfl rfl rfl ?_)⟩
   ·omega
   ·exact ⟨by omega,by rw [hp];exact pricesE_next hjl hb⟩
 rw [hp,List.drop_eq_nil_of_le (by omega)]
 repeat' (first
 | (((with_reducible apply aa);exact rfl)<;>intro hg<;>(first|(exact absurd hg (by decide))|((try simp only [qz,ge_iff_le,List.cons.injEq,and_true] at hg);first|(exact absurd trivial hg)|(exfalso;omega)|(have hT:True:=hg;clear hT hg)|skip)))
 | (refine zs ?_)
 | fail
 )
 all_goals exact aB rfl rfl
def dY (p:Pr):Int :=
 if p.thick < 5∨p.thick > 300∨p.width < p.thick∨p.width > 600 then 9 else if p.allow < 0∨p.allow > 200∨p.wane < 0∨p.wane > 1000 then 9
 else if (aW p).2 > 600 then 9 else lenE p
theorem numbers_con (p:Pr):bm Tryz.prog gl 98 [prC p] (I (dY p)):=by
 have cg:=hO (gl:=gl) p
 unfold dY
 by_cases g1:p.thick < 5∨p.thick > 300∨p.width < p.thick∨p.width > 600
 ·rw [if_pos g1]
  refine ao Tryz.func98 rfl (by kernel_rfl) rfl ?_
  simp only [Tryz.ntmps98,Tryz.results98,am,ofC,aZ,List.map,prL]
  repeat' (first
 | ((first|((with_reducible apply aj);iterate 4 exact rfl)|((with_reducible apply aa);exact rfl))<;>intro hg<;>(first|(exact absurd hg (by decide))|((try simp only [qz,ge_iff_le,List.cons.injEq,and_true] at hg);first|(exact absurd trivial hg)|(exfalso;omega)|(have hT:True:=hg;clear hT hg)|skip)))
 | (refine zs ?_)
 | fail
 )
  all_goals exact aB rfl rfl
 rw [if_neg g1]
 by_cases g2:p.allow < 0∨p.allow > 200∨p.wane < 0∨p.wane > 1000
 ·rw [if_pos g2]
  refine ao Tryz.func98 rfl (by kernel_rfl) rfl ?_
  simp only [Tryz.ntmps98,Tryz.results98,am,ofC,aZ,List.map,prL]
  repeat' (first
 | ((first|((with_reducible apply aj);iterate 4 exact rfl)|((with_reducible apply aa);exact rfl))<;>intro hg<;>(first|(exact absurd hg (by decide))|((try simp only [qz,ge_iff_le,List.cons.injEq,and_true] at hg);first|(exact absurd trivial hg)|(exfalso;omega)|(have hT:True:=hg;clear hT hg)|skip)))
 | (refine zs ?_)
 | fail
 )
  all_goals exact aB rfl rfl
 rw [if_neg g2]
 by_cases g3:(aW p).2 > 600
 ·rw [if_pos g3]
  refine ao Tryz.func98 rfl (by kernel_rfl) rfl ?_
  simp only [Tryz.ntmps98,Tryz.results98,am,ofC,aZ,List.map,prL]
  repeat' (first
 | ((with_reducible apply (ah (f:=99)));exact rfl;exact rfl;exact cg;exact rfl;exact rfl)
 | ((first|((with_reducible apply aj);iterate 4 exact rfl)|((with_reducible apply aa);exact rfl))<;>intro hg<;>(first|(exact absurd hg (by decide))|((try simp only [qz,ge_iff_le,List.cons.injEq,and_true] at hg);first|(exact absurd trivial hg)|(exfalso;omega)|(have hT:True:=hg;clear hT hg)|skip)))
 | (refine zs ?_)
 | fail
 )
  all_goals exact aB rfl rfl
 rw [if_neg g3]
 unfold lenE
 by_cases h1:p.lens.length=0
 ·rw [if_pos h1]
  refine ao Tryz.func98 rfl (by kernel_rfl) rfl ?_
  simp only [Tryz.ntmps98,Tryz.results98,am,ofC,aZ,List.map,prL]
  repeat' (first
 | ((with_reducible apply (ah (f:=99)));exact rfl;exact rfl;exact cg;exact rfl;exact rfl)
 | ((first|((with_reducible apply aj);iterate 4 exact rfl)|((with_reducible apply aa);exact rfl))<;>intro hg<;>(first|(exact absurd hg (by decide))|((try simp only [qz,ge_iff_le,List.cons.injEq,and_true] at hg);first|(exact absurd trivial hg)|(exfalso;omega)|(have hT:True:=hg;clear hT hg)|skip)))
 | (refine zs ?_)
 | fail
 )
  all_goals exact aB rfl rfl
 rw [if_neg h1]
 by_cases h2:p.lens.length > 8
 ·rw [if_pos h2]
  refine ao Tryz.func98 rfl (by kernel_rfl) rfl ?_
  simp only [Tryz.ntmps98,Tryz.results98,am,ofC,aZ,List.map,prL]
  repeat' (first
 | ((with_reducible apply (ah (f:=99)));exact rfl;exact rfl;exact cg;exact rfl;exact rfl)
 | ((first|((with_reducible apply aj);iterate 4 exact rfl)|((with_reducible apply aa);exact rfl))<;>intro hg<;>(first|(exact absurd hg (by decide))|((try simp only [qz,ge_iff_le,List.cons.injEq,and_true] at hg);first|(exact absurd trivial hg)|(exfalso;omega)|(have hT:True:=hg;clear hT hg)|skip)))
 | (refine zs ?_)
 | fail
 )
  all_goals exact aB rfl rfl
 rw [if_neg h2]
 by_cases h3:p.prices.length≠p.lens.length
 ·rw [if_pos h3]
  refine ao Tryz.func98 rfl (by kernel_rfl) rfl ?_
  simp only [Tryz.ntmps98,Tryz.results98,am,ofC,aZ,List.map,prL]
  repeat' (first
 | ((with_reducible apply (ah (f:=99)));exact rfl;exact rfl;exact cg;exact rfl;exact rfl)
 | ((first|((with_reducible apply aj);iterate 4 exact rfl)|((with_reducible apply aa);exact rfl))<;>intro hg<;>(first|(exact absurd hg (by decide))|((try simp only [qz,ge_iff_le,List.cons.injEq,and_true] at hg);first|(exact absurd trivial hg)|(exfalso;omega)|(have hT:True:=hg;clear hT hg)|skip)))
 | (refine zs ?_)
 | fail
 )
  all_goals exact aB rfl rfl
 rw [if_neg h3]
 have h3:p.prices.length=p.lens.length:=by omega
 refine ao Tryz.func98 rfl (by kernel_rfl) rfl ?_
 simp only [Tryz.ntmps98,Tryz.results98,am,ofC,aZ,List.map,prL]
 repeat' (first
 | ((with_reducible apply (ah (f:=99)));exact rfl;exact rfl;exact cg;exact rfl;exact rfl)
 | ((first|((with_reducible apply aj);iterate 4 exact rfl)|((with_reducible apply aa);exact rfl))<;>intro hg<;>(first|(exact absurd hg (by decide))|((try simp only [qz,ge_iff_le,List.cons.injEq,and_true] at hg);first|(exact absurd trivial hg)|(exfalso;omega)|(have hT:True:=hg;clear hT hg)|skip)))
 | (refine zs ?_)
 | fail
 )
 refine au (G:=Nat) (fun (j:Nat)=>j≤p.lens.length∧dF none p.lens=dF (iw p.lens j) (p.lens.drop j)) (fun (j:Nat)=>p.lens.length - j) (fun (j:Nat)=>[(1,.ptr 0 0),(70,.c (LI p.lens)),(71,A p.lens.length),(72,A j)]) (fun (j:Nat)=>[(0,some (prB p))]) 1 0 ?_ (by refine ak rfl ?_ ?_<;>repeat (first|exact ai|exact ac|refine ae rfl rfl ?_|refine ab rfl rfl rfl ?_)) rfl ?_
 ·exact ⟨Nat.zero_le _,rfl⟩
 rintro j hI
 try dsimp only at hI
 try dsimp only
 obtain ⟨hj,hp⟩:=hI
 by_cases hjl:j < p.lens.length
 ·by_cases hb:p.lens[j] < 100∨p.lens[j] > 20000
  ·have e:=lensE_bad (o:=iw p.lens j) hjl hb
   rw [hp,e]
   repeat' (first
 | ((first|((with_reducible apply aj);iterate 4 exact rfl)|((with_reducible apply aa);exact rfl))<;>intro hg<;>(first|(exact absurd hg (by decide))|((try simp only [qz,ge_iff_le,List.cons.injEq,and_true] at hg);first|(exact absurd trivial hg)|(exfalso;omega)|(have hT:True:=hg;clear hT hg)|skip)))
 | (refine zs ?_)
 | fail
 )
   all_goals exact aB rfl rfl
  ·by_cases h0:0 < j
   ·by_cases ho:p.lens[j]≤p.lens[j - 1]'(by omega)
    ·have e:=lensE_order hjl hb h0 ho
     rw [hp,e]
     repeat' (first
 | (refine aL 12 ?_ ?_;(kernel_rfl);(simp only [List.take_succ_cons,List.take_zero,List.drop_succ_cons,List.drop_zero]))
 | ((with_reducible apply (bD (k:=j - 1)));exact rfl;exact inferInstance;exact rfl;exact (by omega);exact (by omega);exact rfl)
 | ((first|((with_reducible apply aj);iterate 4 exact rfl)|((with_reducible apply aa);exact rfl))<;>intro hg<;>(first|(exact absurd hg (by decide))|((try simp only [qz,ge_iff_le,List.cons.injEq,and_true] at hg);first|(exact absurd trivial hg)|(exfalso;omega)|(have hT:True:=hg;clear hT hg)|skip)))
 | (refine zs ?_)
 | fail
 )
     all_goals exact aB rfl rfl
    ·skip
     repeat' (first
 | (refine aL 12 ?_ ?_;(kernel_rfl);(simp only [List.take_succ_cons,List.take_zero,List.drop_succ_cons,List.drop_zero]))
 | ((with_reducible apply (bD (k:=j - 1)));exact rfl;exact inferInstance;exact rfl;exact (by omega);exact (by omega);exact rfl)
 | ((first|((with_reducible apply aj);iterate 4 exact rfl)|((with_reducible apply aa);exact rfl))<;>intro hg<;>(first|(exact absurd hg (by decide))|((try simp only [qz,ge_iff_le,List.cons.injEq,and_true] at hg);first|(exact absurd trivial hg)|(exfalso;omega)|(have hT:True:=hg;clear hT hg)|skip)))
 | (refine zs ?_)
 | fail
 )
     refine ⟨j+1,?_,?_,by refine ak rfl ?_ ?_<;>repeat (first|exact ai|exact ac|refine ae rfl rfl ?_|refine ab rfl rfl rfl ?_)⟩
     ·omega
     ·exact ⟨by omega,by rw [hp];exact iT hjl hb (fun _=>ho)⟩
   ·skip
    repeat' (first
 | (refine aL 12 ?_ ?_;(kernel_rfl);(simp only [List.take_succ_cons,List.take_zero,List.drop_succ_cons,List.drop_zero]))
 | ((first|((with_reducible apply aj);iterate 4 exact rfl)|((with_reducible apply aa);exact rfl))<;>intro hg<;>(first|(exact absurd hg (by decide))|((try simp only [qz,ge_iff_le,List.cons.injEq,and_true] at hg);first|(exact absurd trivial hg)|(exfalso;omega)|(have hT:True:=hg;clear hT hg)|skip)))
 | (refine zs ?_)
 | fail
 )
    refine ⟨j+1,?_,?_,by refine ak rfl ?_ ?_<;>repeat (first|exact ai|exact ac|refine ae rfl rfl ?_|refine ab rfl rfl rfl ?_)⟩
    ·omega
    ·exact ⟨by omega,by rw [hp];exact iT hjl hb (fun h=>absurd h h0)⟩
 have h4:dF none p.lens=0:=by rw [hp,List.drop_eq_nil_of_le (by omega)];cases iw p.lens j<;>rfl
 rw [if_pos h4]
 repeat' (first
 | (((with_reducible apply aa);exact rfl)<;>intro hg<;>(first|(exact absurd hg (by decide))|((try simp only [qz,ge_iff_le,List.cons.injEq,and_true] at hg);first|(exact absurd trivial hg)|(exfalso;omega)|(have hT:True:=hg;clear hT hg)|skip)))
 | (refine zs ?_)
 | fail
 )
 refine au (G:=Nat) (fun (j:Nat)=>j≤p.prices.length∧dR p.prices=dR (p.prices.drop j)) (fun (j:Nat)=>p.prices.length - j) (fun (j:Nat)=>[(97,.c (LI p.prices)),(98,A p.prices.length),(99,A j)]) (fun (j:Nat)=>[]) 1 0 ?_ (by refine ak rfl ?_ ?_<;>repeat (first|exact ai|exact ac|refine ae rfl rfl ?_|refine ab rfl rfl rfl ?_)) rfl ?_
 ·exact ⟨Nat.zero_le _,rfl⟩
 rintro j hI
 try dsimp only at hI
 try dsimp only
 obtain ⟨hj,hp⟩:=hI
 by_cases hjl:j < p.prices.length
 ·by_cases hb:p.prices[j] < 0∨p.prices[j] > 1000000
  ·rw [hp,pricesE_bad hjl hb]
   repeat' (first
 | ((first|((with_reducible apply aj);iterate 4 exact rfl)|((with_reducible apply aa);exact rfl))<;>intro hg<;>(first|(exact absurd hg (by decide))|((try simp only [qz,ge_iff_le,List.cons.injEq,and_true] at hg);first|(exact absurd trivial hg)|(exfalso;omega)|(have hT:True:=hg;clear hT hg)|skip)))
 | (refine zs ?_)
 | fail
 )
   all_goals exact aB rfl rfl
  ·skip
   repeat' (first
 | ((first|((with_reducible apply aj);iterate 4 exact rfl)|((with_reducible apply aa);exact rfl))<;>intro hg<;>(first|(exact absurd hg (by decide))|((try simp only [qz,ge_iff_le,List.cons.injEq,and_true] at hg);first|(exact absurd trivial hg)|(exfalso;omega)|(have hT:True:=hg;clear hT hg)|skip)))
 | (refine zs ?_)
 | fail
 )
   refine ⟨j+1,?_,?_,by refine ak rfl ?_ ?_<;>repeat (first|exact ai|exact ac|refine ae rfl rfl ?_|refine ab rfl rfl rfl ?_)⟩
   ·omega
   ·exact ⟨by omega,by rw [hp];exact pricesE_next hjl hb⟩
 rw [hp,List.drop_eq_nil_of_le (by omega)]
 repeat' (first
 | (((with_reducible apply aa);exact rfl)<;>intro hg<;>(first|(exact absurd hg (by decide))|((try simp only [qz,ge_iff_le,List.cons.injEq,and_true] at hg);first|(exact absurd trivial hg)|(exfalso;omega)|(have hT:True:=hg;clear hT hg)|skip)))
 | (refine zs ?_)
 | fail
 )
 all_goals exact aB rfl rfl
end Go.Proofs.YtdndfncpglfdeaaGreatDoor.Tp

namespace Go.Proofs.YtdndfncpglfdeaaGreatDoor.Tp
set_option linter.unusedVariables false
set_option linter.unusedSimpArgs false
open Go.RowKit Go.Proofs.YtdndfncpglfdeaaGreatDoor.Ev
open Go.Proofs.YtdndfncpglfdeaaGreatDoor.Cu (I LI ce fP)
variable {gl:List (Nat×List CV)}
def eO (p:Pr) (nm:ByteArray):Bool:=p.name.toList == nm.toList
def gW (nm:ByteArray):Nat→List Pr→Int×Bool
 | _,[]=>(0,false)
 | k,p::ps=>if eO p nm=true then ((k:Int),true) else gW nm (k+1) ps
theorem findG_hit {nm:ByteArray} {l:List Pr} {j:Nat} (h:j < l.length) (hn:eO l[j] nm=true):gW nm j (l.drop j)=((j:Int),true):=by
 rw [List.drop_eq_getElem_cons h,gW,if_pos hn]
theorem findG_next {nm:ByteArray} {l:List Pr} {j:Nat} (h:j < l.length) (hn:¬ eO l[j] nm=true):gW nm j (l.drop j)=gW nm (j+1) (l.drop (j+1)):=by
 rw [List.drop_eq_getElem_cons h,gW,if_neg hn]
theorem findG_any (nm:ByteArray):∀ (l:List Pr) (k:Nat),(gW nm k l).2=l.any (fun p=>eO p nm)
 | [],_=>rfl
 | p::ps,k=>by
  rw [gW,List.any_cons]
  by_cases h:eO p nm=true
  ·rw [if_pos h,h];rfl
  ·rw [if_neg h,findG_any nm ps (k+1)]
   have:eO p nm=false:=by simpa using h
   rw [this];rfl
theorem find_con (l:List Pr) (nm:ByteArray) (hL:l.length≤100000):bm Tryz.prog gl 97 [fj l,S nm] (.tup [I (gW nm 0 l).1,BO (gW nm 0 l).2]):=by
 refine ao Tryz.func97 rfl (by kernel_rfl) rfl ?_
 simp only [Tryz.ntmps97,Tryz.results97,am,ofC,aZ,List.map]
 repeat' (first
 | (refine zs ?_)
 | fail
 )
 refine au (G:=Nat) (fun (j:Nat)=>j≤l.length∧gW nm 0 l=gW nm j (l.drop j)) (fun (j:Nat)=>l.length - j) (fun (j:Nat)=>[(1,.c (S nm)),(8,.c (fj l)),(9,A l.length),(10,A j)]) (fun (j:Nat)=>[]) 0 0 ?_ (by refine ak rfl ?_ ?_<;>repeat (first|exact ai|exact ac|refine ae rfl rfl ?_|refine ab rfl rfl rfl ?_)) rfl ?_
 ·exact ⟨Nat.zero_le _,rfl⟩
 rintro j hI
 try dsimp only at hI
 try dsimp only
 obtain ⟨hj,hp⟩:=hI
 by_cases hjl:j < l.length
 ·by_cases hn:eO l[j] nm=true
  ·rw [hp,findG_hit hjl hn]
   have hn':(l[j].name.toList == nm.toList)=true:=hn
   repeat' (first
 | ((with_reducible apply r_eqstr);(iterate 3 exact rfl);rw [hn'])
 | (((with_reducible apply aa);exact rfl)<;>intro hg<;>(first|(exact absurd hg (by decide))|((try simp only [qz,ge_iff_le,List.cons.injEq,and_true] at hg);first|(exact absurd trivial hg)|(exfalso;omega)|(have hT:True:=hg;clear hT hg)|skip)))
 | (refine zs ?_)
 | fail
 )
   all_goals exact bJ (.cons (.tmp rfl ap) (.cons (.tmp rfl ap) .nil))
  ·have hn':(l[j].name.toList == nm.toList)=false:=by simpa [eO] using hn
   repeat' (first
 | ((with_reducible apply r_eqstr);(iterate 3 exact rfl);rw [hn'])
 | (((with_reducible apply aa);exact rfl)<;>intro hg<;>(first|(exact absurd hg (by decide))|((try simp only [qz,ge_iff_le,List.cons.injEq,and_true] at hg);first|(exact absurd trivial hg)|(exfalso;omega)|(have hT:True:=hg;clear hT hg)|skip)))
 | (refine zs ?_)
 | fail
 )
   refine ⟨j+1,?_,?_,by refine ak rfl ?_ ?_<;>repeat (first|exact ai|exact ac|refine ae rfl rfl ?_|refine ab rfl rfl rfl ?_)⟩
   ·omega
   ·exact ⟨by omega,by rw [hp];exact findG_next hjl hn⟩
 rw [hp,List.drop_eq_nil_of_le (by omega)]
 repeat' (first
 | (((with_reducible apply aa);exact rfl)<;>intro hg<;>(first|(exact absurd hg (by decide))|((try simp only [qz,ge_iff_le,List.cons.injEq,and_true] at hg);first|(exact absurd trivial hg)|(exfalso;omega)|(have hT:True:=hg;clear hT hg)|skip)))
 | (refine zs ?_)
 | fail
 )
 all_goals exact bJ (.cons (.tmp rfl ap) (.cons (.tmp rfl ap) .nil))
noncomputable def prG:List Pr→List Pr→Int
 | _,[]=>0
 | pre,p::ps=>if Ge.eT p.name=false then 6 else if (pre.any fun q=>eO q p.name)=true then 7 else if dY p=0 then prG (pre++[p]) ps else dY p
noncomputable def prE (l:List Pr):Int:=if l.length > 16 then 4 else prG [] l
theorem prG_name {l:List Pr} {j:Nat} (h:j < l.length) (h1:Ge.eT l[j].name=false):prG (l.take j) (l.drop j)=6:=by
 rw [List.drop_eq_getElem_cons h,prG,if_pos h1]
theorem prG_dup {l:List Pr} {j:Nat} (h:j < l.length) (h1:¬ Ge.eT l[j].name=false) (h2:((l.take j).any fun q=>eO q l[j].name)=true):prG (l.take j) (l.drop j)=7:=by
 rw [List.drop_eq_getElem_cons h,prG,if_neg h1,if_pos h2]
theorem iU {l:List Pr} {j:Nat} (h:j < l.length) (h1:¬ Ge.eT l[j].name=false) (h2:¬ ((l.take j).any fun q=>eO q l[j].name)=true) (h3:¬ dY l[j]=0):prG (l.take j) (l.drop j)=dY l[j]:=by
 rw [List.drop_eq_getElem_cons h,prG,if_neg h1,if_neg h2,if_neg h3]
theorem prG_next {l:List Pr} {j:Nat} (h:j < l.length) (h1:¬ Ge.eT l[j].name=false) (h2:¬ ((l.take j).any fun q=>eO q l[j].name)=true) (h3:dY l[j]=0):prG (l.take j) (l.drop j)=prG (l.take (j+1)) (l.drop (j+1)):=by
 rw [List.drop_eq_getElem_cons h,prG,if_neg h1,if_neg h2,if_pos h3,List.take_succ_eq_append_getElem h]
theorem fc (l:List Pr):bm Tryz.prog gl 50 [fj l] (I (prE l)):=by
 unfold prE
 by_cases h0:l.length > 16
 ·rw [if_pos h0]
  refine ao Tryz.func50 rfl (by kernel_rfl) rfl ?_
  simp only [Tryz.ntmps50,Tryz.results50,am,ofC,aZ,List.map]
  repeat' (first
 | (((with_reducible apply aa);exact rfl)<;>intro hg<;>(first|(exact absurd hg (by decide))|((try simp only [qz,ge_iff_le,List.cons.injEq,and_true] at hg);first|(exact absurd trivial hg)|(exfalso;omega)|(have hT:True:=hg;clear hT hg)|skip)))
 | (refine zs ?_)
 | fail
 )
  all_goals exact aB rfl rfl
 rw [if_neg h0]
 refine ao Tryz.func50 rfl (by kernel_rfl) rfl ?_
 simp only [Tryz.ntmps50,Tryz.results50,am,ofC,aZ,List.map]
 repeat' (first
 | (((with_reducible apply aa);exact rfl)<;>intro hg<;>(first|(exact absurd hg (by decide))|((try simp only [qz,ge_iff_le,List.cons.injEq,and_true] at hg);first|(exact absurd trivial hg)|(exfalso;omega)|(have hT:True:=hg;clear hT hg)|skip)))
 | (refine zs ?_)
 | fail
 )
 refine au (G:=Nat) (fun (j:Nat)=>j≤l.length∧prG [] l=prG (l.take j) (l.drop j)) (fun (j:Nat)=>l.length - j) (fun (j:Nat)=>[(0,.c (fj l)),(11,.c (fj l)),(12,A l.length),(13,A j)]) (fun (j:Nat)=>[]) 0 0 ?_ (by refine ak rfl ?_ ?_<;>repeat (first|exact ai|exact ac|refine ae rfl rfl ?_|refine ab rfl rfl rfl ?_)) rfl ?_
 ·exact ⟨Nat.zero_le _,rfl⟩
 rintro j hI
 try dsimp only at hI
 try dsimp only
 obtain ⟨hj,hp⟩:=hI
 by_cases hjl:j < l.length
 ·have c1:=Ge.isName_con (gl:=gl) l[j].name
  have c2:=find_con (gl:=gl) (l.take j) l[j].name (by rw [List.length_take];omega)
  have c3:=numbers_con (gl:=gl) l[j]
  by_cases h1:Ge.eT l[j].name=false
  ·rw [h1] at c1
   rw [hp,prG_name hjl h1]
   repeat' (first
 | ((with_reducible apply (ah (f:=96)));exact rfl;exact rfl;exact c1;exact rfl;exact rfl)
 | (((with_reducible apply aa);exact rfl)<;>intro hg<;>(first|(exact absurd hg (by decide))|((try simp only [qz,ge_iff_le,List.cons.injEq,and_true] at hg);first|(exact absurd trivial hg)|(exfalso;omega)|(have hT:True:=hg;clear hT hg)|skip)))
 | (refine zs ?_)
 | fail
 )
   all_goals exact aB rfl rfl
  have h1':Ge.eT l[j].name=true:=by simpa using h1
  rw [h1'] at c1
  have ha:=findG_any l[j].name (l.take j) 0
  obtain ⟨fi,fb,hf⟩:∃ fi fb,gW l[j].name 0 (l.take j)=(fi,fb):=⟨_,_,rfl⟩
  rw [hf] at c2 ha
  dsimp only at c2 ha
  by_cases h2:((l.take j).any fun q=>eO q l[j].name)=true
  ·have hb:fb=true:=by rw [← h2];exact ha
   subst hb
   rw [hp,prG_dup hjl h1 h2]
   repeat' (first
 | ((with_reducible apply (ah (f:=96)));exact rfl;exact rfl;exact c1;exact rfl;exact rfl)
 | ((with_reducible apply (r_slice_hi (hi:=j)));exact rfl;exact inferInstance;exact rfl;exact rfl;exact hj;exact rfl)
 | ((with_reducible apply (ah (f:=97)));exact rfl;exact rfl;exact c2;exact rfl;exact rfl)
 | (((with_reducible apply aa);exact rfl)<;>intro hg<;>(first|(exact absurd hg (by decide))|((try simp only [qz,ge_iff_le,List.cons.injEq,and_true] at hg);first|(exact absurd trivial hg)|(exfalso;omega)|(have hT:True:=hg;clear hT hg)|skip)))
 | (refine zs ?_)
 | fail
 )
   all_goals exact aB rfl rfl
  have hb:fb=false:=by
   have h2':((l.take j).any fun q=>eO q l[j].name)=false:=by simpa using h2
   rw [← h2'];exact ha
  subst hb
  by_cases h3:dY l[j]=0
  ·rw [h3] at c3
   repeat' (first
 | ((with_reducible apply (ah (f:=96)));exact rfl;exact rfl;exact c1;exact rfl;exact rfl)
 | ((with_reducible apply (r_slice_hi (hi:=j)));exact rfl;exact inferInstance;exact rfl;exact rfl;exact hj;exact rfl)
 | ((with_reducible apply (ah (f:=97)));exact rfl;exact rfl;exact c2;exact rfl;exact rfl)
 | ((with_reducible apply (ah (f:=98)));exact rfl;exact rfl;exact c3;exact rfl;exact rfl)
 | (((with_reducible apply aa);exact rfl)<;>intro hg<;>(first|(exact absurd hg (by decide))|((try simp only [qz,ge_iff_le,List.cons.injEq,and_true] at hg);first|(exact absurd trivial hg)|(exfalso;omega)|(have hT:True:=hg;clear hT hg)|skip)))
 | (refine zs ?_)
 | fail
 )
   refine ⟨j+1,?_,?_,by refine ak rfl ?_ ?_<;>repeat (first|exact ai|exact ac|refine ae rfl rfl ?_|refine ab rfl rfl rfl ?_)⟩
   ·omega
   ·exact ⟨by omega,by rw [hp];exact prG_next hjl h1 h2 h3⟩
  ·rw [hp,iU hjl h1 h2 h3]
   repeat' (first
 | ((with_reducible apply (ah (f:=96)));exact rfl;exact rfl;exact c1;exact rfl;exact rfl)
 | ((with_reducible apply (r_slice_hi (hi:=j)));exact rfl;exact inferInstance;exact rfl;exact rfl;exact hj;exact rfl)
 | ((with_reducible apply (ah (f:=97)));exact rfl;exact rfl;exact c2;exact rfl;exact rfl)
 | ((with_reducible apply (ah (f:=98)));exact rfl;exact rfl;exact c3;exact rfl;exact rfl)
 | (((with_reducible apply aa);exact rfl)<;>intro hg<;>(first|(exact absurd hg (by decide))|((try simp only [qz,ge_iff_le,List.cons.injEq,and_true] at hg);first|(exact absurd trivial hg)|(exfalso;omega)|(have hT:True:=hg;clear hT hg)|skip)))
 | (refine zs ?_)
 | fail
 )
   all_goals exact aB rfl rfl
 rw [hp,List.drop_eq_nil_of_le (by omega)]
 repeat' (first
 | (((with_reducible apply aa);exact rfl)<;>intro hg<;>(first|(exact absurd hg (by decide))|((try simp only [qz,ge_iff_le,List.cons.injEq,and_true] at hg);first|(exact absurd trivial hg)|(exfalso;omega)|(have hT:True:=hg;clear hT hg)|skip)))
 | (refine zs ?_)
 | fail
 )
 all_goals exact aB rfl rfl
end Go.Proofs.YtdndfncpglfdeaaGreatDoor.Tp
