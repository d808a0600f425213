/- UF: texts laid together. -/
import Derived.Test.YtdndfncpglfdeaaGreatDoorMrgX16
import Derived.Test.YtdndfncpglfdeaaGreatDoorMrgX17
import Derived.Test.YtdndfncpglfdeaaGreatDoorMrgX19
import Derived.Test.YtdndfncpglfdeaaGreatDoorMrgS
set_option maxRecDepth 100000
set_option maxHeartbeats 64000000

namespace Go.Proofs.YtdndfncpglfdeaaGreatDoor.Tp
set_option linter.unusedVariables false
set_option linter.unusedSimpArgs false
open Go.RowKit Go.Proofs.YtdndfncpglfdeaaGreatDoor.Ev
open Go.Proofs.YtdndfncpglfdeaaGreatDoor.Cu (I LI LS gw ce)
open Go.Proofs.YtdndfncpglfdeaaGreatDoor.Ge (an aG Slc Dfc dfC LL LD slcC aw aX cI ey Sec sbS)
theorem hy_of {l:List Slc} {d:List Dfc} {c:List Pr} {s:Sw} {r:Rt} (h:planE l d c s r=0):Hy l d c s r:=by
 unfold planE at h
 by_cases h1:aX l=0
 ·by_cases h2:cI d=0
  ·by_cases h3:prE c=0
   ·rw [if_neg (fun hh=>hh h1),if_neg (fun hh=>hh h2),if_neg (fun hh=>hh h3)] at h
    obtain ⟨h4,h5⟩:=go.1 h
    exact ⟨h1,h2,h3,h4,h5⟩
   ·rw [if_neg (fun hh=>hh h1),if_neg (fun hh=>hh h2),if_pos h3] at h
    exact absurd h h3
  ·rw [if_neg (fun hh=>hh h1),if_pos h2] at h
   exact absurd h h2
 ·rw [if_pos h1] at h
  exact absurd h h1
theorem cnt_take {N:List Nd} {j:Nat} (hj:j < N.length):((N.take (j+1)).filter dz).length=((N.take j).filter dz).length+if N[j].1=1 then 1 else 0:=by
 rw [List.take_succ_eq_append_getElem hj,List.filter_append,List.length_append,List.filter_cons,List.filter_nil]
 unfold dz
 by_cases h:N[j].1=1
 ·rw [if_pos (by simp [h]),if_pos h];rfl
 ·rw [if_neg (by simp [h]),if_neg h];rfl
abbrev woodB (l:List Slc) (d:List Dfc) (c:List Pr) (s:Sw) (r:Rt):AB:=.cells 30 [.c (LL l),.c (LD d),.c (fj c),A s.kerf,A s.trim,A s.pitch,A s.step,A r.chip,A r.dust,A r.fine]
theorem TopPlan_con0 (hchk:∀ (N:List Nd) (X Y:an) (c:List Pr) (k:Int),N.length≤140→aJ X→aJ Y→(0≤k∧k≤20)→c.length≤16→ConE Tryz.prog Cu.G 10 [fI X Y N,fj c,I k] (fun γ:Int=>I γ))
  (l:List Slc) (d:List Dfc) (c:List Pr) (s:Sw) (r:Rt) (N:List Nd) (hl:l.length≤maxLen) (hd:d.length≤maxLen) :
  bm Tryz.prog Cu.G 3 [wdC l d c s r,fY N] (BO true):=by
 have ca:=awake_con
 have cl:=light_con (gl:=Cu.G) l d c s r hl
 have cf:=frame_con (gl:=Cu.G) l hl
 have hac:=sb_acr (l:=l)
 refine ao Tryz.func3 rfl (by kernel_rfl) rfl ?_
 simp only [Tryz.ntmps3,Tryz.results3,am,ofC,aZ,List.map,wdL]
 repeat' (first
 | (refine zs ?_)
 | fail
 )
 refine r_callE (f:=4) cl rfl rfl rfl ?_
 rintro ⟨b,hb⟩
 dsimp only
 cases b with
 | false =>
  repeat' (first
 | ((with_reducible apply (ah (f:=5)));exact rfl;exact rfl;exact ca;exact rfl;exact rfl)
 | ((first|((with_reducible apply aj);iterate 4 exact rfl)|((with_reducible apply aa);exact rfl))<;>intro hg<;>(first|(exact absurd hg (by decide))|((try simp only [qz,ge_iff_le,List.cons.injEq,and_true] at hg);first|(exact absurd trivial hg)|(exfalso;omega)|(have hT:True:=hg;clear hT hg)|skip)))
 | (refine zs ?_)
 | fail
 )
  all_goals exact aK rfl rfl
 | true =>
  obtain ⟨k1,k2,k3,k4,k5⟩:=hb rfl
  by_cases hn:N.length≤140
  rotate_left
  ·skip
   repeat' (first
 | ((with_reducible apply (ah (f:=5)));exact rfl;exact rfl;exact ca;exact rfl;exact rfl)
 | ((first|((with_reducible apply aj);iterate 4 exact rfl)|((with_reducible apply aa);exact rfl))<;>intro hg<;>(first|(exact absurd hg (by decide))|((try simp only [qz,ge_iff_le,List.cons.injEq,and_true] at hg);first|(exact absurd trivial hg)|(exfalso;omega)|(have hT:True:=hg;clear hT hg)|skip)))
 | (refine zs ?_)
 | fail
 )
   all_goals exact aK rfl rfl
  by_cases he:planE l d c s r=0
  rotate_left
  ·have cb:=pbest_err l d c s r (sbS l).1 (sbS l).2 hl hd hac he
   generalize planE l d c s r=e at *
   generalize sbS l=R at *
   obtain ⟨⟨X1,X2⟩,⟨Y1,Y2⟩⟩:=R
   unfold patC patL at cb
   repeat' (first
 | ((with_reducible apply (ah (f:=6)));exact rfl;exact rfl;exact cf;exact rfl;exact rfl)
 | ((with_reducible apply (ah (f:=7)));exact rfl;exact rfl;exact cb;exact rfl;exact rfl)
 | ((with_reducible apply (ah (f:=5)));exact rfl;exact rfl;exact ca;exact rfl;exact rfl)
 | ((first|((with_reducible apply aj);iterate 4 exact rfl)|((with_reducible apply aa);exact rfl))<;>intro hg<;>(first|(exact absurd hg (by decide))|((try simp only [qz,ge_iff_le,List.cons.injEq,and_true] at hg);first|(exact absurd trivial hg)|(exfalso;omega)|(have hT:True:=hg;clear hT hg)|skip)))
 | (refine zs ?_)
 | fail
 )
   all_goals exact aK rfl rfl
  have hy:=hy_of he
  obtain ⟨hX,hY⟩:=hac hy.sol
  obtain ⟨w1,w2⟩:=k5 hy.sol
  have hp10:10≤s.pitch:=by have:=hy.sw.2.2.2.2.1;omega
  clear hac k5
  generalize sbS l=R at *
  obtain ⟨X,Y⟩:=R
  dsimp only at hX hY w1 w2 cf
  have cb:=pbest_con hy X Y hX hY w2 (dg hy hX hY) (p_fits hy hX hY)
  by_cases h127:(ee l d c X Y s r).length≤127
  rotate_left
  ·rw [if_neg h127] at cb
   unfold patC patL at cb
   obtain ⟨X1,X2⟩:=X
   obtain ⟨Y1,Y2⟩:=Y
   repeat' (first
 | ((with_reducible apply (ah (f:=6)));exact rfl;exact rfl;exact cf;exact rfl;exact rfl)
 | ((with_reducible apply (ah (f:=7)));exact rfl;exact rfl;exact cb;exact rfl;exact rfl)
 | ((with_reducible apply (ah (f:=5)));exact rfl;exact rfl;exact ca;exact rfl;exact rfl)
 | ((first|((with_reducible apply aj);iterate 4 exact rfl)|((with_reducible apply aa);exact rfl))<;>intro hg<;>(first|(exact absurd hg (by decide))|((try simp only [qz,ge_iff_le,List.cons.injEq,and_true] at hg);first|(exact absurd trivial hg)|(exfalso;omega)|(have hT:True:=hg;clear hT hg)|skip)))
 | (refine zs ?_)
 | fail
 )
   all_goals exact aK rfl rfl
  rw [if_pos h127] at cb
  have cv:=value_con (gl:=Cu.G) hy hX hY (p_okG hy hX hY) (by rw [← ga hy hX hY];exact h127)
  rw [p_yield hy hX hY,← ga hy hX hY] at cv
  have cm:=member_con (gl:=Cu.G) (ee l d c X Y s r) X Y c s (by omega) hy.pro hy.sw hX hY
  rw [decide_eq_true h127,plan_member hy hX hY h127,Bool.true_and] at cm
  have cm2:=member_con (gl:=Cu.G) N X Y c s (by omega) hy.pro hy.sw hX hY
  have cc:=hchk N X Y c s.kerf hn hX hY ⟨hy.sw.1,hy.sw.2.1⟩ (cU hy.pro)
  have hother:=fun hd ps ho hp hb=>other_le (ps:=ps) hy hd hX hY hp10 w1 ho hp hb
  have hbds:=fun ps ho hp hN=>boards_con (gl:=Cu.G) (hy_fine hy) hX hY (member_okG (ps:=ps) hy hX hY ho hp) hN
  have hval:=fun ps ho hp hN=>value_con (gl:=Cu.G) hy hX hY (member_okG (ps:=ps) hy hX hY ho hp) hN
  have hinv:=member_inv (c:=c) (N:=N) (X:=X) (Y:=Y) (s:=s) hy.sw.1 hX hY
  generalize ee l d c X Y s r=PN at *
  generalize pVal l d c X Y s r=pv at *
  generalize iL c N X Y s=mb at *
  unfold patC patL at cb
  by_cases hdc:r.chip < r.dust
  ·skip
   repeat' (first
 | ((with_reducible apply (ah (f:=6)));exact rfl;exact rfl;exact cf;exact rfl;exact rfl)
 | ((with_reducible apply (ah (f:=7)));exact rfl;exact rfl;exact cb;exact rfl;exact rfl)
 | ((with_reducible apply (ah (f:=8)));exact rfl;exact rfl;exact cv;exact rfl;exact rfl)
 | ((with_reducible apply (ah (f:=9)));exact rfl;exact rfl;exact cm;exact rfl;exact rfl)
 | ((with_reducible apply (ah (f:=5)));exact rfl;exact rfl;exact ca;exact rfl;exact rfl)
 | ((first|((with_reducible apply aj);iterate 4 exact rfl)|((with_reducible apply aa);exact rfl))<;>intro hg<;>(first|(exact absurd hg (by decide))|((try simp only [qz,ge_iff_le,List.cons.injEq,and_true] at hg);first|(exact absurd trivial hg)|(exfalso;omega)|(have hT:True:=hg;clear hT hg)|skip)))
 | (refine zs ?_)
 | fail
 )
   all_goals exact aK rfl rfl
  repeat' (first
 | ((with_reducible apply (ah (f:=6)));exact rfl;exact rfl;exact cf;exact rfl;exact rfl)
 | ((with_reducible apply (ah (f:=7)));exact rfl;exact rfl;exact cb;exact rfl;exact rfl)
 | ((with_reducible apply (ah (f:=8)));exact rfl;exact rfl;exact cv;exact rfl;exact rfl)
 | ((with_reducible apply (ah (f:=9)));exact rfl;exact rfl;exact cm;exact rfl;exact rfl)
 | ((first|((with_reducible apply aj);iterate 4 exact rfl)|((with_reducible apply aa);exact rfl))<;>intro hg<;>(first|(exact absurd hg (by decide))|((try simp only [qz,ge_iff_le,List.cons.injEq,and_true] at hg);first|(exact absurd trivial hg)|(exfalso;omega)|(have hT:True:=hg;clear hT hg)|skip)))
 | (refine zs ?_)
 | fail
 )
  refine r_callE (f:=10) cc rfl rfl rfl ?_
  intro γ
  by_cases hγ:γ=0
  rotate_left
  ·skip
   repeat' (first
 | ((with_reducible apply (ah (f:=5)));exact rfl;exact rfl;exact ca;exact rfl;exact rfl)
 | ((first|((with_reducible apply aj);iterate 4 exact rfl)|((with_reducible apply aa);exact rfl))<;>intro hg<;>(first|(exact absurd hg (by decide))|((try simp only [qz,ge_iff_le,List.cons.injEq,and_true] at hg);first|(exact absurd trivial hg)|(exfalso;omega)|(have hT:True:=hg;clear hT hg)|skip)))
 | (refine zs ?_)
 | fail
 )
   all_goals exact aK rfl rfl
  subst hγ
  cases mb with
  | false =>
   rw [Bool.and_false] at cm2
   repeat' (first
 | ((with_reducible apply (ah (f:=9)));exact rfl;exact rfl;exact cm2;exact rfl;exact rfl)
 | ((with_reducible apply (ah (f:=5)));exact rfl;exact rfl;exact ca;exact rfl;exact rfl)
 | ((first|((with_reducible apply aj);iterate 4 exact rfl)|((with_reducible apply aa);exact rfl))<;>intro hg<;>(first|(exact absurd hg (by decide))|((try simp only [qz,ge_iff_le,List.cons.injEq,and_true] at hg);first|(exact absurd trivial hg)|(exfalso;omega)|(have hT:True:=hg;clear hT hg)|skip)))
 | (refine zs ?_)
 | fail
 )
   all_goals exact aK rfl rfl
  | true =>
   by_cases hn127:N.length≤127
   rotate_left
   ·rw [decide_eq_false hn127,Bool.false_and] at cm2
    repeat' (first
 | ((with_reducible apply (ah (f:=9)));exact rfl;exact rfl;exact cm2;exact rfl;exact rfl)
 | ((with_reducible apply (ah (f:=5)));exact rfl;exact rfl;exact ca;exact rfl;exact rfl)
 | ((first|((with_reducible apply aj);iterate 4 exact rfl)|((with_reducible apply aa);exact rfl))<;>intro hg<;>(first|(exact absurd hg (by decide))|((try simp only [qz,ge_iff_le,List.cons.injEq,and_true] at hg);first|(exact absurd trivial hg)|(exfalso;omega)|(have hT:True:=hg;clear hT hg)|skip)))
 | (refine zs ?_)
 | fail
 )
    all_goals exact aK rfl rfl
   rw [decide_eq_true hn127,Bool.true_and] at cm2
   obtain ⟨ps,hNe,ho,hp⟩:=hinv rfl
   have c6:=hbds ps ho hp (by rw [← hNe];exact hn127)
   have c7:=hval ps ho hp (by rw [← hNe];exact hn127)
   have hoth:=hother (by omega) ps ho hp
   rw [← hNe] at c6 c7 hoth
   try dsimp only at c6
   have hbl0:=bdN_le (l:=l) (d:=d) (c:=c) (s:=s) (fine:=r.fine) (lv:=aC s.kerf (X,Y) (bM s.kerf 3 Y.2 Y.1 ps)) (aC s.kerf (X,Y) (bM s.kerf 3 Y.2 Y.1 ps)).length
   have hll:=fa s.kerf (bM s.kerf 3 Y.2 Y.1 ps) (X,Y)
   rw [← hNe] at hll
   generalize yVal l s r (cG s.kerf (X,Y) (bM s.kerf 3 Y.2 Y.1 ps)) (bdN l d c s r.fine (aC s.kerf (X,Y) (bM s.kerf 3 Y.2 Y.1 ps)) (aC s.kerf (X,Y) (bM s.kerf 3 Y.2 Y.1 ps)).length)=yv at *
   generalize bdN l d c s r.fine (aC s.kerf (X,Y) (bM s.kerf 3 Y.2 Y.1 ps)) (aC s.kerf (X,Y) (bM s.kerf 3 Y.2 Y.1 ps)).length=bs at *
   have hbs:bs.length≤127:=by omega
   clear hother hbds hval hinv hp ho hNe hll hbl0
   have hcn:∀ j,((N.take j).filter dz).length≤127:=fun j=>Nat.le_trans (List.length_filter_le ..) (by rw [List.length_take];omega)
   repeat' (first
 | ((with_reducible apply (ah (f:=9)));exact rfl;exact rfl;exact cm2;exact rfl;exact rfl)
 | ((first|((with_reducible apply aj);iterate 4 exact rfl)|((with_reducible apply aa);exact rfl))<;>intro hg<;>(first|(exact absurd hg (by decide))|((try simp only [qz,ge_iff_le,List.cons.injEq,and_true] at hg);first|(exact absurd trivial hg)|(exfalso;omega)|(have hT:True:=hg;clear hT hg)|skip)))
 | (refine zs ?_)
 | fail
 )
   refine au (G:=Nat) (fun (j:Nat)=>j≤N.length) (fun (j:Nat)=>N.length - j) (fun (j:Nat)=>[(1,.c (fY N)),(2,.ptr 0 0),(7,A pv),(11,.ptr 3 0),(12,A ((N.take j).filter dz).length),(13,A j)]) (fun (j:Nat)=>[(0,some (woodB l d c s r)),(3,some (.cells 40 [A X.1,A X.2,A Y.1,A Y.2,.c (fY N)]))]) 4 0 ?_ (by refine ak rfl ?_ ?_<;>repeat (first|exact ai|exact ac|refine ae rfl rfl ?_|refine ab rfl rfl rfl ?_)) rfl ?_
   ·exact Nat.zero_le _
   rintro j hI
   try dsimp only at hI
   try dsimp only
   have hcj:=hcn j
   by_cases hj:j < N.length
   ·have hc:=cnt_take hj
    by_cases hk:N[j].1=1
    ·rw [if_pos hk] at hc
     repeat' (first
 | (((with_reducible apply aa);exact rfl)<;>intro hg<;>(first|(exact absurd hg (by decide))|((try simp only [qz,ge_iff_le,List.cons.injEq,and_true] at hg);first|(exact absurd trivial hg)|(exfalso;omega)|(have hT:True:=hg;clear hT hg)|skip)))
 | (refine zs ?_)
 | fail
 )
     rw [show (((N.take j).filter dz).length:Int)+1=(((N.take (j+1)).filter dz).length:Int) by rw [hc];omega]
     refine ⟨j+1,?_,?_,by refine ak rfl ?_ ?_<;>repeat (first|exact ai|exact ac|refine ae rfl rfl ?_|refine ab rfl rfl rfl ?_)⟩
     ·show N.length - (j+1) < N.length - j;omega
     ·show j+1≤N.length;omega
    ·have hc2:((N.take (j+1)).filter dz).length=((N.take j).filter dz).length:=by rw [hc,if_neg hk];rfl
     repeat' (first
 | (((with_reducible apply aa);exact rfl)<;>intro hg<;>(first|(exact absurd hg (by decide))|((try simp only [qz,ge_iff_le,List.cons.injEq,and_true] at hg);first|(exact absurd trivial hg)|(exfalso;omega)|(have hT:True:=hg;clear hT hg)|skip)))
 | (refine zs ?_)
 | fail
 )
     rw [← hc2]
     refine ⟨j+1,?_,?_,by refine ak rfl ?_ ?_<;>repeat (first|exact ai|exact ac|refine ae rfl rfl ?_|refine ab rfl rfl rfl ?_)⟩
     ·show N.length - (j+1) < N.length - j;omega
     ·show j+1≤N.length;omega
   obtain rfl:j=N.length:=by omega
   rw [List.take_length] at hcj ⊢
   by_cases hb:bs.length=(N.filter dz).length
   ·have hle:=hoth hb
    repeat' (first
 | ((with_reducible apply (ah (f:=11)));exact rfl;exact rfl;exact c6;exact rfl;exact rfl)
 | ((with_reducible apply (ah (f:=8)));exact rfl;exact rfl;exact c7;exact rfl;exact rfl)
 | ((with_reducible apply (ah (f:=5)));exact rfl;exact rfl;exact ca;exact rfl;exact rfl)
 | ((first|((with_reducible apply aj);iterate 4 exact rfl)|((with_reducible apply aa);exact rfl))<;>intro hg<;>(first|(exact absurd hg (by decide))|((try simp only [qz,ge_iff_le,List.cons.injEq,and_true] at hg);first|(exact absurd trivial hg)|(exfalso;omega)|(have hT:True:=hg;clear hT hg)|skip)))
 | (refine zs ?_)
 | fail
 )
    all_goals exact aK rfl rfl
   ·skip
    repeat' (first
 | ((with_reducible apply (ah (f:=11)));exact rfl;exact rfl;exact c6;exact rfl;exact rfl)
 | ((with_reducible apply (ah (f:=5)));exact rfl;exact rfl;exact ca;exact rfl;exact rfl)
 | ((first|((with_reducible apply aj);iterate 4 exact rfl)|((with_reducible apply aa);exact rfl))<;>intro hg<;>(first|(exact absurd hg (by decide))|((try simp only [qz,ge_iff_le,List.cons.injEq,and_true] at hg);first|(exact absurd trivial hg)|(exfalso;omega)|(have hT:True:=hg;clear hT hg)|skip)))
 | (refine zs ?_)
 | fail
 )
    all_goals exact aK rfl rfl
end Go.Proofs.YtdndfncpglfdeaaGreatDoor.Tp
