/- PZ PM PN PSh: texts laid together. -/
import Derived.Test.YtdndfncpglfdeaaGreatDoorMrgX7
import Derived.Test.YtdndfncpglfdeaaGreatDoorMrgX3
import Derived.Test.YtdndfncpglfdeaaGreatDoorMrgX4
import Derived.Test.YtdndfncpglfdeaaGreatDoorMrgC1
import Derived.Sort.Grow
import Derived.Lib.SlicesCompact
import Derived.Shelf.Sort.Plain
import Derived.Shelf.Slices.CompactI
import Derived.Shelf.Slices.In.SortNone
import Derived.Test.YtdndfncpglfdeaaGreatDoorMrgS
set_option maxRecDepth 100000
set_option maxHeartbeats 64000000

namespace Go.Proofs.YtdndfncpglfdeaaGreatDoor.Tp
set_option linter.unusedVariables false
set_option linter.unusedSimpArgs false
open Go.RowKit Go.Proofs.YtdndfncpglfdeaaGreatDoor.Ev
open Go.Proofs.YtdndfncpglfdeaaGreatDoor.Cu (I LI LS gw ce)
open Go.Proofs.YtdndfncpglfdeaaGreatDoor.Ge (an aG Slc Dfc dfC LL LD fz cZ pos aw aX inS cI bH ey)
variable {gl:List (Nat×List CV)}
theorem gc {α:Type} (f:α→Int) (l:List α) {j:Nat} (h:j < l.length):cz f (l.take (j+1))=cz f (l.take j)+f l[j]:=by
 rw [List.take_succ_eq_append_getElem h,sumI_app,dS,gg,Int.add_zero]
theorem sumI_bd {α:Type} {f:α→Int} {m:Int}:∀ (l:List α),(∀ x∈l,0≤f x∧f x≤m)→0≤cz f l∧cz f l≤m * l.length
 | [],_=>by rw [gg];simp
 | x::l,h=>by
  have ih:=sumI_bd l (fun y hy=>h y (List.mem_cons_of_mem _ hy))
  have hx:=h x (List.mem_cons_self ..)
  rw [dS,List.length_cons,Int.natCast_add,Int.mul_add]
  constructor
  ·omega
  ·have:m * ((1:Nat):Int)=m:=by simp
   omega
noncomputable def cutD (l:List Slc) (x:aG):Int:=bH l x.1 x.2 (0,aw l)
noncomputable def brdB (l:List Slc) (y:Yc):Int:=bH l y.2.2.1.1 y.2.2.1.2 y.2.2.2.1
noncomputable def brdD (l:List Slc) (s:Sw) (y:Yc):Int:=trimS l y.2.2.1.1 y.2.2.1.2 s y.2.2.2.1
def ptsV (y:Yc):Int:=1000000 * y.2.2.2.2
def ycOk (l:List Slc) (y:Yc):Prop:=0≤y.2.2.2.2∧y.2.2.2.2≤1000000∧eG y.2.2.2.1 (aw l)=true
noncomputable def yDust (l:List Slc) (s:Sw) (cs:List aG) (bs:List Yc):Int:=cz (cutD l) cs+cz (brdD l s) bs
noncomputable def yChips (l:List Slc) (s:Sw) (cs:List aG) (bs:List Yc):Int:=ey l - cz (brdB l) bs - yDust l s cs bs
noncomputable def yVal (l:List Slc) (s:Sw) (r:Rt) (cs:List aG) (bs:List Yc):Int:=cz ptsV bs+(r.chip * yChips l s cs bs+r.dust * yDust l s cs bs)
noncomputable def yC (l:List Slc) (s:Sw) (r:Rt) (cs:List aG) (bs:List Yc):CV:=.agg [I (ey l),I (cz (brdB l) bs),I (yChips l s cs bs),I (yDust l s cs bs),I (yVal l s r cs bs)]
theorem bd_ok {l:List Slc} {d:List Dfc} {c:List Pr} {s:Sw} {r:Rt} (h:Hy l d c s r) {lv:List (aG×Int)} (hl:∀ x∈lv,leafOk c x):∀ n,∀ y∈bdN l d c s r.fine lv n,ycOk l y
 | 0,y,hy=>by cases hy
 | n+1,y,hy=>by
  rw [bdN] at hy
  rcases List.mem_append.1 hy with hy|hy
  ·exact bd_ok h hl n y hy
  ·cases hx:lv[n]? with
   | none=>rw [hx] at hy;cases hy
   | some x =>
    rw [hx] at hy
    have hm:x∈lv:=List.mem_of_getElem? hx
    have hy:y∈bd1 l d c s r.fine n x:=hy
    unfold bd1 at hy
    split at hy
    ·cases hy
    ·rename_i hn
     split at hy
     ·rename_i hw
      rw [List.mem_singleton] at hy
      obtain ⟨hc,_,hwq⟩:=leaf_wq h (hl x hm) hn
      rw [← fB hc] at hwq
      obtain ⟨k1,k2,k3⟩:=wb_ok (step:=s.step) (fine:=r.fine) hwq h.rt.2.2.2.2.1 hw
      subst hy
      exact ⟨k2,k3,k1⟩
     ·cases hy
theorem any_of {l:List Slc} {d:List Dfc} {c:List Pr} {s:Sw} {r:Rt} (h:Hy l d c s r) {k:Int}:∀ {t:Tr} {x:aG},OkG k (szB c) x t→OkG k anyB x t
 | .leaf n,x,hr=>by
  rcases hr with h1|⟨h1,h2,h3,_⟩
  ·exact .inl h1
  ·have:=cU h.pro
   exact .inr ⟨h1,h2,by omega⟩
 | .rip ax a s t,x,hr=>⟨hr.1,hr.2.1,hr.2.2.1,any_of h hr.2.2.2.1,any_of h hr.2.2.2.2⟩
theorem of_con {l:List Slc} {d:List Dfc} {c:List Pr} {s:Sw} {r:Rt} (h:Hy l d c s r) {X Y:an} {T:Tr} (hX:aJ X) (hY:aJ Y) (hT:OkG s.kerf (szB c) (X,Y) T) (hN:(aq T).length≤127) :
  bm Tryz.prog gl 28 [LL l,LD d,fj c,fI X Y (aq T),swC s,rtC r] (.tup [yC l s r (cG s.kerf (X,Y) T) (bdN l d c s r.fine (aC s.kerf (X,Y) T) (aC s.kerf (X,Y) T).length),I 0]):=by
 have hk:0≤s.kerf∧s.kerf≤20:=⟨h.sw.1,h.sw.2.1⟩
 have c1:=ycheck_con (gl:=gl) h hX hY hT hN
 have c2:=boards_con (gl:=gl) (hy_fine h) hX hY hT hN
 have hT2:=any_of h hT
 have c3:=cuts_con (gl:=gl) hX hY hk hT2 hN (chkany_con hX hY hk hT2 hN)
 have c4:=Ge.fu (gl:=gl) l h.ln
 have c5:=Ge.svolume_con (gl:=gl) l h.ln
 have b5:=Ge.volS_bd l
 have hlo:=leaves_ok hk.1 T (X,Y) hT ⟨hX.1,hX.2.2,hY.1,hY.2.2⟩
 have hok:=bd_ok h hlo (aC s.kerf (X,Y) T).length
 have hbl:=bdN_le (l:=l) (d:=d) (c:=c) (s:=s) (fine:=r.fine) (lv:=aC s.kerf (X,Y) T) (aC s.kerf (X,Y) T).length
 have hll:=fa s.kerf T (X,Y)
 have hcl:=cuts_len s.kerf T (X,Y)
 generalize bdN l d c s r.fine (aC s.kerf (X,Y) T) (aC s.kerf (X,Y) T).length=bs at *
 generalize cG s.kerf (X,Y) T=cs at *
 have hcn:cs.length≤127:=by omega
 have hbn:bs.length≤127:=by omega
 obtain ⟨s1,s2,s3,s4,s5,s6,s7,s8⟩:=h.sw
 obtain ⟨r1,r2,r3,r4,r5,r6⟩:=h.rt
 have hL:=len_le h.sol
 have bc:=fun j=>sumI_bd (f:=cutD l) (m:=700000000000) (cs.take j) (fun x _=>Ge.cD ..)
 have bb:=fun j=>sumI_bd (f:=brdB l) (m:=700000000000) (bs.take j) (fun x _=>Ge.cD ..)
 have bd:=fun j=>sumI_bd (f:=brdD l s) (m:=1400000000000) (bs.take j) (fun x _=>by
  have h1:=Ge.cD l x.2.2.1.1 x.2.2.1.2 (max 0 (x.2.2.2.1.1 - s.trim),x.2.2.2.1.1)
  have h2:=Ge.cD l x.2.2.1.1 x.2.2.1.2 (x.2.2.2.1.2,min (x.2.2.2.1.2+s.trim) (aw l))
  unfold brdD trimS;omega)
 have bp:=fun j=>sumI_bd (f:=ptsV) (m:=1000000000000) (bs.take j) (fun x hx=>by
  obtain ⟨h1,h2,_⟩:=hok x (List.mem_of_mem_take hx)
  unfold ptsV;omega)
 have htk:∀ {α:Type} (l:List α) (j:Nat),((l.take j).length:Int)≤l.length:=fun l j=>by rw [List.length_take];omega
 unfold yC yVal yChips yDust
 generalize aq T=N at *
 refine ao Tryz.func28 rfl (by kernel_rfl) rfl ?_
 simp only [Tryz.ntmps28,Tryz.results28,am,ofC,aZ,List.map,swL,rtL]
 repeat' (first
 | ((with_reducible apply (ah (f:=38)));exact rfl;exact rfl;exact c1;exact rfl;exact rfl)
 | ((with_reducible apply (ah (f:=11)));exact rfl;exact rfl;exact c2;exact rfl;exact rfl)
 | ((with_reducible apply (ah (f:=66)));exact rfl;exact rfl;exact c3;exact rfl;exact rfl)
 | ((with_reducible apply (ah (f:=65)));exact rfl;exact rfl;exact c4;exact rfl;exact rfl)
 | ((with_reducible apply (ah (f:=26)));exact rfl;exact rfl;exact c5;exact rfl;exact rfl)
 | (((with_reducible apply aa);exact rfl)<;>intro hg<;>(first|(exact absurd hg (by decide))|((try simp only [qz,ge_iff_le,List.cons.injEq,and_true] at hg);first|(exact absurd trivial hg)|(exfalso;omega)|(have hT:True:=hg;clear hT hg)|skip)))
 | (refine zs ?_)
 | fail
 )
 refine au (G:=Nat) (fun (j:Nat)=>j≤cs.length) (fun (j:Nat)=>cs.length - j) (fun (j:Nat)=>[(0,.c (LL l)),(10,.ptr 1 0),(11,.ptr 2 0),(12,.ptr 3 0),(15,.c (LYc bs)),(18,A (aw l)),(19,.ptr 4 0),(68,.c (LRc cs)),(69,A cs.length),(70,A j)]) (fun (j:Nat)=>[(4,some (.cells 85 [A (ey l),A 0,A 0,A (cz (cutD l) (cs.take j)),A 0])),(3,some (.cells 85 [A 0,A 0,A 0,A 0,A 0])),(2,some (.cells 28 [A r.chip,A r.dust,A r.fine])),(1,some (.cells 26 [A s.kerf,A s.trim,A s.pitch,A s.step])),(0,some (.cells 40 [A X.1,A X.2,A Y.1,A Y.2,.c (fY N)]))]) 5 0 ?_ (by refine ak rfl ?_ ?_<;>repeat (first|exact ai|exact ac|refine ae rfl rfl ?_|refine ab rfl rfl rfl ?_)) rfl ?_
 ·exact Nat.zero_le _
 rintro j hI
 try dsimp only at hI
 try dsimp only
 have bcj:=bc j
 have tkj:=htk cs j
 by_cases hj:j < cs.length
 ·have hS:=gc (cutD l) cs hj
  have cx:=box_con (gl:=gl) cs[j] (0,aw l)
  have cw:=Ge.ez (gl:=gl) l h.ln cs[j].1 cs[j].2 (0,aw l)
  have bw:=Ge.cD l cs[j].1 cs[j].2 (0,aw l)
  rw [show cutD l cs[j]=bH l cs[j].1 cs[j].2 (0,aw l) from rfl] at hS
  generalize bH l cs[j].1 cs[j].2 (0,aw l)=v at *
  generalize cz (cutD l) (cs.take j)=S at *
  generalize aw l=L at *
  repeat' (first
 | (refine aL (id:=15) 10 ?_ ?_;(kernel_rfl);(simp only [List.take_succ_cons,List.take_zero,List.drop_succ_cons,List.drop_zero]))
 | ((with_reducible apply (ah (f:=42)));exact rfl;exact rfl;exact cx;exact rfl;exact rfl)
 | ((with_reducible apply (ah (f:=64)));exact rfl;exact rfl;exact cw;exact rfl;exact rfl)
 | (((with_reducible apply aa);exact rfl)<;>intro hg<;>(first|(exact absurd hg (by decide))|((try simp only [qz,ge_iff_le,List.cons.injEq,and_true] at hg);first|(exact absurd trivial hg)|(exfalso;omega)|(have hT:True:=hg;clear hT hg)|skip)))
 | (refine zs ?_)
 | fail
 )
  rw [← hS]
  refine ⟨j+1,?_,?_,by refine ak rfl ?_ ?_<;>repeat (first|exact ai|exact ac|refine ae rfl rfl ?_|refine ab rfl rfl rfl ?_)⟩
  ·show cs.length - (j+1) < cs.length - j;omega
  ·show j+1≤cs.length;omega
 ·obtain rfl:j=cs.length:=by omega
  rw [List.take_length] at bcj ⊢
  generalize hD0:cz (cutD l) cs=D0 at *
  repeat' (first
 | (((with_reducible apply aa);exact rfl)<;>intro hg<;>(first|(exact absurd hg (by decide))|((try simp only [qz,ge_iff_le,List.cons.injEq,and_true] at hg);first|(exact absurd trivial hg)|(exfalso;omega)|(have hT:True:=hg;clear hT hg)|skip)))
 | (refine zs ?_)
 | fail
 )
  rw [show (A D0:AV)=A (D0+cz (brdD l s) (bs.take 0)) by rw [List.take_zero,gg,Int.add_zero]]
  refine au (G:=Nat) (fun (j:Nat)=>j≤bs.length) (fun (j:Nat)=>bs.length - j) (fun (j:Nat)=>[(0,.c (LL l)),(10,.ptr 1 0),(11,.ptr 2 0),(12,.ptr 3 0),(18,A (aw l)),(19,.ptr 4 0),(85,.c (LYc bs)),(86,A bs.length),(87,A j)]) (fun (j:Nat)=>[(4,some (.cells 85 [A (ey l),A (cz (brdB l) (bs.take j)),A 0,A (D0+cz (brdD l s) (bs.take j)),A (cz ptsV (bs.take j))])),(3,some (.cells 85 [A 0,A 0,A 0,A 0,A 0])),(2,some (.cells 28 [A r.chip,A r.dust,A r.fine])),(1,some (.cells 26 [A s.kerf,A s.trim,A s.pitch,A s.step])),(0,some (.cells 40 [A X.1,A X.2,A Y.1,A Y.2,.c (fY N)]))]) 5 0 ?_ (by refine ak rfl ?_ ?_<;>repeat (first|exact ai|exact ac|refine ae rfl rfl ?_|refine ab rfl rfl rfl ?_)) rfl ?_
  ·exact Nat.zero_le _
  rintro j hI
  try dsimp only at hI
  try dsimp only
  have bbj:=bb j
  have bdj:=bd j
  have bpj:=bp j
  have tbj:=htk bs j
  by_cases hj:j < bs.length
  ·have hB:=gc (brdB l) bs hj
   have hD:=gc (brdD l s) bs hj
   have hP:=gc ptsV bs hj
   obtain ⟨o1,o2,o3⟩:=hok bs[j] (List.getElem_mem hj)
   obtain ⟨g1,g2,g3⟩:=within_get o3
   have w0:=Ge.ez (gl:=gl) l h.ln bs[j].2.2.1.1 bs[j].2.2.1.2 bs[j].2.2.2.1
   have w1:=Ge.ez (gl:=gl) l h.ln bs[j].2.2.1.1 bs[j].2.2.1.2 (max 0 (bs[j].2.2.2.1.1 - s.trim),bs[j].2.2.2.1.1)
   have w2:=Ge.ez (gl:=gl) l h.ln bs[j].2.2.1.1 bs[j].2.2.1.2 (bs[j].2.2.2.1.2,min (bs[j].2.2.2.1.2+s.trim) (aw l))
   have x1:=box_con (gl:=gl) bs[j].2.2.1 (max 0 (bs[j].2.2.2.1.1 - s.trim),bs[j].2.2.2.1.1)
   have x2:=box_con (gl:=gl) bs[j].2.2.1 (bs[j].2.2.2.1.2,min (bs[j].2.2.2.1.2+s.trim) (aw l))
   have q0:=Ge.cD l bs[j].2.2.1.1 bs[j].2.2.1.2 bs[j].2.2.2.1
   have q1:=Ge.cD l bs[j].2.2.1.1 bs[j].2.2.1.2 (max 0 (bs[j].2.2.2.1.1 - s.trim),bs[j].2.2.2.1.1)
   have q2:=Ge.cD l bs[j].2.2.1.1 bs[j].2.2.1.2 (bs[j].2.2.2.1.2,min (bs[j].2.2.2.1.2+s.trim) (aw l))
   rw [show brdB l bs[j]=bH l bs[j].2.2.1.1 bs[j].2.2.1.2 bs[j].2.2.2.1 from rfl] at hB
   rw [show brdD l s bs[j]=bH l bs[j].2.2.1.1 bs[j].2.2.1.2 (max 0 (bs[j].2.2.2.1.1 - s.trim),bs[j].2.2.2.1.1)+bH l bs[j].2.2.1.1 bs[j].2.2.1.2 (bs[j].2.2.2.1.2,min (bs[j].2.2.2.1.2+s.trim) (aw l)) from rfl] at hD
   rw [show ptsV bs[j]=1000000 * bs[j].2.2.2.2 from rfl] at hP
   generalize bH l bs[j].2.2.1.1 bs[j].2.2.1.2 bs[j].2.2.2.1=v0 at *
   generalize bH l bs[j].2.2.1.1 bs[j].2.2.1.2 (max 0 (bs[j].2.2.2.1.1 - s.trim),bs[j].2.2.2.1.1)=v1 at *
   generalize bH l bs[j].2.2.1.1 bs[j].2.2.1.2 (bs[j].2.2.2.1.2,min (bs[j].2.2.2.1.2+s.trim) (aw l))=v2 at *
   generalize cz (brdB l) (bs.take j)=SB at *
   generalize cz (brdD l s) (bs.take j)=SD at *
   generalize cz ptsV (bs.take j)=SP at *
   generalize aw l=L at *
   repeat' (first
 | (refine aL (id:=20) 8 ?_ ?_;(kernel_rfl);(simp only [List.take_succ_cons,List.take_zero,List.drop_succ_cons,List.drop_zero]))
 | (refine aL (id:=24) 17 ?_ ?_;(kernel_rfl);(simp only [List.take_succ_cons,List.take_zero,List.drop_succ_cons,List.drop_zero]))
 | (refine aL (id:=25) 18 ?_ ?_;(kernel_rfl);(simp only [List.take_succ_cons,List.take_zero,List.drop_succ_cons,List.drop_zero]))
 | ((with_reducible apply (ah (f:=42)));exact rfl;exact rfl;(first|exact x1|exact x2);exact rfl;exact rfl)
 | ((with_reducible apply (ah (f:=64)));exact rfl;exact rfl;(first|exact w0|exact w1|exact w2);exact rfl;exact rfl)
 | (((with_reducible apply aa);exact rfl)<;>intro hg<;>(first|(exact absurd hg (by decide))|((try simp only [qz,ge_iff_le,List.cons.injEq,and_true] at hg);first|(exact absurd trivial hg)|(exfalso;omega)|(have hT:True:=hg;clear hT hg)|skip)))
 | (refine zs ?_)
 | fail
 )
   rw [show D0+SD+v1+v2=D0+cz (brdD l s) (bs.take (j+1)) by rw [hD];omega,← hB,← hP]
   refine ⟨j+1,?_,?_,by refine ak rfl ?_ ?_<;>repeat (first|exact ai|exact ac|refine ae rfl rfl ?_|refine ab rfl rfl rfl ?_)⟩
   ·show bs.length - (j+1) < bs.length - j;omega
   ·show j+1≤bs.length;omega
  ·obtain rfl:j=bs.length:=by omega
   rw [List.take_length] at bbj bdj bpj ⊢
   generalize cz (brdB l) bs=SB at *
   generalize cz (brdD l s) bs=SD at *
   generalize cz ptsV bs=SP at *
   have m1:-900000000000000000≤r.chip * (ey l - SB - (D0+SD))∧r.chip * (ey l - SB - (D0+SD))≤900000000000000:=by
    have e:=d8 (b:=SB+(D0+SD)) (m:=400000000000000) ⟨r1,r2⟩ ⟨by omega,by omega⟩
    have e2:=d8 ⟨r1,r2⟩ b5
    rw [Int.sub_sub,Int.mul_sub];omega
   have m2:=d8 (b:=D0+SD) (m:=300000000000000) ⟨r3,r4⟩ ⟨by omega,by omega⟩
   have f1:aQ (r.chip * (ey l - SB - (D0+SD))):=by unfold aQ;omega
   have f2:aQ (r.dust * (D0+SD)):=by unfold aQ;omega
   repeat' (first
 | (((with_reducible apply aa);exact rfl)<;>intro hg<;>(first|(exact absurd hg (by decide))|((try simp only [qz,ge_iff_le,List.cons.injEq,and_true] at hg);first|(exact absurd trivial hg)|(exfalso;omega)|(have hT:True:=hg;clear hT hg)|skip)))
 | (refine zs ?_)
 | fail
 )
   all_goals exact bJ (.cons (.cell_a inferInstance rfl rfl rfl rfl (al ap (al ap (al ap (al ap (al ap bj)))))) (.cons (.tmp rfl ap) .nil))
end Go.Proofs.YtdndfncpglfdeaaGreatDoor.Tp

namespace Go.Proofs.YtdndfncpglfdeaaGreatDoor.Tp
set_option linter.unusedVariables false
set_option linter.unusedSimpArgs false
open Go.RowKit Go.Proofs.YtdndfncpglfdeaaGreatDoor.Ev
open Go.Proofs.YtdndfncpglfdeaaGreatDoor.Cu (I LI LS gw ef bestC LP pcC bestS bC TV aR chk perm OKs)
open Go.Proofs.YtdndfncpglfdeaaGreatDoor.Ge (an Slc Dfc dfC LL LD fz cZ pos aw aX inS cI bH)
variable {gl:List (Nat×List CV)}
theorem eline_gain {l:List Slc} {d:List Dfc} {c:List Pr} {s:Sw} {r:Rt} (h:Hy l d c s r) {X Y:an} (hX:aJ X) (hY:aJ Y) {i:Nat} (hi:i < (cB c (Y.2 - Y.1)).length) (p:Nat) (hp:(p:Int)+((cB c (Y.2 - Y.1)).getD i (0,0)).1≤X.2 - X.1) :
  -1≤f8 l d c X Y s r ((cB c (Y.2 - Y.1)).getD i (0,0)).1 ((cB c (Y.2 - Y.1)).getD i (0,0)).2 p∧f8 l d c X Y s r ((cB c (Y.2 - Y.1)).getD i (0,0)).1 ((cB c (Y.2 - Y.1)).getD i (0,0)).2 p≤701000000000000:=by
 obtain ⟨i1,i2,hz1,hz2⟩:=sz_get hi
 obtain ⟨pi,p1,p2,p3,p4,p5⟩:=sz_mem h.pro (h:=Y.2 - Y.1) c.length (Nat.le_refl _) _ hz2
 rw [hz1] at hp ⊢
 dsimp only at hp p2 p3 p4 p5 ⊢
 obtain ⟨x1,x2,x3⟩:=hX
 unfold f8
 split
 ·rename_i hm
  have hwq:Wq l d (fF c pi) (X.1+p,X.1+(p+((cB c (Y.2 - Y.1)).map Prod.fst)[i])) Y:=h.wq p1 (X:=(X.1+p,X.1+(p+((cB c (Y.2 - Y.1)).map Prod.fst)[i]))) (Y:=Y) ⟨by dsimp only;omega,by dsimp only;omega,by dsimp only;omega⟩ hY (by
   dsimp only
   rcases p5 with ⟨a,b⟩|⟨a,b⟩
   ·exact .inl ⟨by omega,by omega⟩
   ·exact .inr ⟨by omega,by omega⟩)
  rw [show (((cB c (Y.2 - Y.1)).map Prod.snd)[i]).toNat=pi by omega]
  rcases gain_bd hwq h.sw h.rt with ⟨_,e⟩|⟨_,e1,e2⟩
  ·rw [e];decide
  ·exact ⟨by omega,e2⟩
 ·decide
theorem dG {α:Type} (f:Nat→α) {n i:Nat} (h:i < (aN f n).length):(aN f n)[i]=f i:=by
 exact genN_get f n i h
theorem eH {l:List Slc} {d:List Dfc} {c:List Pr} {s:Sw} {r:Rt} (h:Hy l d c s r) {X Y:an} (hX:aJ X) (hY:aJ Y):Cu.Valid (aU l d c X Y s r):=by
 have g:=fun i hi p hp=>eline_gain h hX hY (i:=i) hi p hp
 have hmem:=sz_mem h.pro (h:=Y.2 - Y.1) c.length (Nat.le_refl _)
 have hzl:=szN_le c (Y.2 - Y.1) c.length
 have hcl:=cU h.pro
 change ∀ x∈cB c (Y.2 - Y.1),_ at hmem
 change (cB c (Y.2 - Y.1)).length≤_ at hzl
 obtain ⟨x1,x2,x3⟩:=hX
 obtain ⟨s1,s2,s3,s4,s5,s6,s7,s8⟩:=h.sw
 obtain ⟨r1,r2,r3,r4,r5,r6⟩:=h.rt
 have hsz:∀ i (hi:i < ((cB c (Y.2 - Y.1)).map Prod.fst).length),5≤((cB c (Y.2 - Y.1)).map Prod.fst)[i]∧((cB c (Y.2 - Y.1)).map Prod.fst)[i]≤600:=by
  intro i hi
  rw [List.getElem_map]
  obtain ⟨pi,p1,p2,p3,p4,p5⟩:=hmem _ (List.getElem_mem (by simpa using hi))
  exact ⟨p3,p4⟩
 have hwood:∀ k p,0≤k→k≤1000→-1125899906842624≤dU l X Y k p∧dU l X Y k p≤1125899906842624:=by
  intro k p k0 k1
  have:=d8 ⟨k0,k1⟩ (Ge.cD l (X.1+(p:Int),X.1+((p:Int)+1)) Y (0,aw l))
  unfold dU;omega
 refine ⟨?_,⟨s1,s2⟩,?_,?_,?_,?_,?_,?_,?_,?_,?_,?_⟩
 ·show 0≤X.2 - X.1∧X.2 - X.1≤2000;omega
 ·show (1:Int)≤1∧(1:Int)≤2000;decide
 ·show ((cB c (Y.2 - Y.1)).map Prod.fst).length≤32
  rw [List.length_map];omega
 ·intro i hi
  have:=hsz i hi
  show 1≤((cB c (Y.2 - Y.1)).map Prod.fst)[i]∧((cB c (Y.2 - Y.1)).map Prod.fst)[i]≤2000
  exact ⟨by omega,by omega⟩
 ·show (aN _ _).length=((cB c (Y.2 - Y.1)).map Prod.fst).length
  rw [aT,List.length_map]
 ·show ((aN _ _).length:Int)=X.2 - X.1
  rw [aT];omega
 ·show ((aN _ _).length:Int)=X.2 - X.1
  rw [aT];omega
 ·intro i hi hi2
  have hi2':i < ((cB c (Y.2 - Y.1)).map Prod.fst).length:=hi2
  have hi3:i < (cB c (Y.2 - Y.1)).length:=by rw [List.length_map] at hi2';exact hi2'
  obtain ⟨i1,i2,hz1,hz2⟩:=sz_get hi3
  have e:(aU l d c X Y s r).gain[i]=gi l d c X Y s r i:=dG _ _
  rw [e]
  show _=max 0 (X.2 - X.1 - ((cB c (Y.2 - Y.1)).map Prod.fst)[i]+1)
  unfold gi
  rw [aT,hz1]
  unfold cA;dsimp only;omega
 ·intro i hi j hj
  have hi3:i < (cB c (Y.2 - Y.1)).length:=by have h9:=hi;unfold aU at h9;dsimp only at h9;rw [aT] at h9;exact h9
  have e:(aU l d c X Y s r).gain[i]=gi l d c X Y s r i:=dG _ _
  have hj2:j < (gi l d c X Y s r i).length:=by rw [← e];exact hj
  have e2:((aU l d c X Y s r).gain[i])[j]=(gi l d c X Y s r i)[j]:=by congr 1
  rw [e2]
  unfold gi at hj2 ⊢
  rw [dG]
  rw [aT] at hj2
  have:=g i hi3 j (by unfold cA at hj2;omega)
  omega
 ·intro i hi
  have e:(aU l d c X Y s r).chip[i]=dU l X Y r.chip i:=dG _ _
  rw [e];exact hwood _ _ r1 r2
 ·intro i hi
  have e:(aU l d c X Y s r).dust[i]=dU l X Y r.dust i:=dG _ _
  rw [e];exact hwood _ _ r3 r4
def dE (a:Int) (l:Cu.Line) (x:Cu.bI):an:=(a+x.2,a+(x.2+aR l x.1))
theorem rowOk_of {l:Cu.Line} (v:Cu.Valid l) (hp:l.pitch=1) {A:Int}:∀ (p:List Cu.bI) (e:Int),OKs l e p→eK l.kerf (A+l.len) (A+e) (p.map (dE A l))
 | [],_,_=>trivial
 | x::p,e,h=>by
  obtain ⟨q1,q2,q3,q4,q5,q6,q7⟩:=Cu.gI (l:=l) (e:=e) (s:=x.1) (p:=x.2) h.1
  have hz:=Cu.fg v h.1
  have hk:=v.kerf
  have ho:=okg_of v hp (x::p) e h
  obtain ⟨o1,o2,o3,o4,o5⟩:=ho
  dsimp only at o1 o2 o3 o4 o5
  refine ⟨?_,?_,?_,?_,?_⟩
  ·show A+x.2 < A+(x.2+_);omega
  ·show A+(x.2+_)≤_;omega
  ·show A+x.2=A+e∨A+e+l.kerf+1≤A+x.2
   rcases o4 with h|h
   ·exact .inl (by omega)
   ·exact .inr (by omega)
  ·intro hb
   have hb:A+(x.2+aR l x.1)=A+l.len:=hb
   cases p with
   | nil=>rfl
   | cons y p =>
    exfalso
    have h2:=h.2
    have:Cu.aA l (x.2+aR l x.1)=-1:=by unfold Cu.aA;rw [if_pos (by omega)]
    rw [this] at h2
    have:=(Cu.gI (l:=l) (e:=-1) (s:=y.1) (p:=y.2) h2.1).2.2.2.2.1
    omega
  ·show eK l.kerf (A+l.len) (min (A+(x.2+aR l x.1)+l.kerf) (A+l.len)) (p.map (dE A l))
   rcases beh_of v (b:=x.2+aR l x.1) (by omega) o3 with ⟨b1,b2⟩|⟨b1,b2,b3,b4⟩
   ·cases p with
    | nil=>trivial
    | cons y p =>
     exfalso
     have h2:=h.2
     rw [b2] at h2
     have:=(Cu.gI (l:=l) (e:=-1) (s:=y.1) (p:=y.2) h2.1).2.2.2.2.1
     omega
   ·have ih:=rowOk_of v hp (A:=A) p _ h.2
    rw [b4] at ih
    rw [show min (A+(x.2+aR l x.1)+l.kerf) (A+l.len)=A+min (x.2+aR l x.1+l.kerf) l.len by omega]
    exact ih
theorem ia {k ax B:Int}:∀ (ps:List (an×List Nd)) (e:Int),(bS k ax B e ps).length≤1+3 * ps.length+(ps.map (fun x=>x.2.length)).sum
 | [],_=>by simp [bS]
 | x::ps,e=>by
  have ih:=ia (k:=k) (ax:=ax) (B:=B) ps (min (x.1.2+k) B)
  simp only [bS,List.length_append,List.length_cons,List.map_cons,List.sum_cons]
  have h1:(if e < x.1.1 then [(ax,x.1.1 - k),((0:Int),(0:Int))] else []).length≤2:=by split<;>simp
  have h2:(if x.1.2 < B then [(ax,x.1.2)] else []).length≤1:=by split<;>simp
  have h3:(if x.1.2 < B then bS k ax B (min (x.1.2+k) B) ps else []).length≤(bS k ax B (min (x.1.2+k) B) ps).length:=by split<;>simp
  omega
section
theorem slices_clone_con (x:Nd):bm Tryz.prog gl 144 [fY [x]] (fY [x]):=by
 refine ao Tryz.func144 rfl (by kernel_rfl) rfl ?_
 simp only [Tryz.ntmps144,Tryz.results144,am,ofC,aZ,List.map]
 repeat' (first
 | ((with_reducible apply r_eqnil);(iterate 3 exact rfl);intro nb hnb)
 | ((with_reducible apply (aH (enc:=ndC) (l:=[]) (l2:=[x])));exact rfl;exact rfl;exact inferInstance;exact rfl;exact rfl;exact (by show 0+1 < _;omega);exact (by show (0+1) * _≤_;omega);exact rfl)
 | (((with_reducible apply aa);exact rfl)<;>intro hg<;>(first|(exact absurd hg (by decide))|((try simp only [qz,ge_iff_le,List.cons.injEq,and_true] at hg);first|(exact absurd trivial hg)|(exfalso;omega)|(have hT:True:=hg;clear hT hg)|skip)))
 | (refine zs ?_)
 | fail
 )
 ·exfalso
  have:=hnb (by simp [ndC]);subst this;cases hg
 all_goals exact cL (.tmp rfl (bx rfl (by rfl)))
end
theorem im (l:Cu.Line):∀ (n:Nat) (e:Int),(bC l n e).length≤n
 | 0,e=>by simp [bC]
 | n+1,e=>by
  unfold bC
  split
  ·simp
  ·have:=im l n (Cu.aA l ((Cu.TT l e).2.1+aR l (Cu.TT l e).1))
   simp only [List.length_cons];omega
theorem oks_mem {l:Cu.Line} (v:Cu.Valid l):∀ (p:List Cu.bI) (e:Int),OKs l e p→∀ x∈p,0≤x.1∧x.1.toNat < l.sizes.length∧0≤x.2∧x.2+aR l x.1≤l.len∧0≤Cu.gOf l x.1 x.2
 | [],_,_,_,hx=>absurd hx List.not_mem_nil
 | y::p,e,h,x,hx=>by
  rcases List.mem_cons.1 hx with rfl|hx
  ·obtain ⟨q1,q2,q3,q4,q5,q6,q7⟩:=Cu.gI (l:=l) (e:=e) (s:=x.1) (p:=x.2) h.1
   exact ⟨q1,by omega,q3,by omega,q7⟩
  ·exact oks_mem v p _ h.2 x hx
def nodeP (ps:List Int) (x:Cu.bI):List Nd:=[(1,ps.getD x.1.toNat 0)]
noncomputable def eP (l:List Slc) (d:List Dfc) (c:List Pr) (X Y:an) (s:Sw) (r:Rt):List Cu.bI:=bC (aU l d c X Y s r) ((X.2 - X.1).toNat+2) 0
noncomputable def ePs (l:List Slc) (d:List Dfc) (c:List Pr) (X Y:an) (s:Sw) (r:Rt):List (an×List Nd) :=
 ((eP l d c X Y s r).map (dE X.1 (aU l d c X Y s r))).zip ((eP l d c X Y s r).map (nodeP ((cB c (Y.2 - Y.1)).map Prod.snd)))
noncomputable def bV (l:List Slc) (d:List Dfc) (c:List Pr) (X Y:an) (s:Sw) (r:Rt):List Nd:=bS s.kerf 2 X.2 X.1 (ePs l d c X Y s r)
theorem ebest_con {l:List Slc} {d:List Dfc} {c:List Pr} {s:Sw} {r:Rt} (h:Hy l d c s r) (X Y:an) (hX:aJ X) (hY:aJ Y) :
  bm Tryz.prog Cu.G 54 [LL l,LD d,fj c,.agg (cQ X Y),swC s,rtC r] (.tup [fY (if (bV l d c X Y s r).length≤127 then bV l d c X Y s r else []),I (if (bV l d c X Y s r).length≤127 then TV (aU l d c X Y s r) 0 else 0),I (if (bV l d c X Y s r).length≤127 then 0 else 4)]):=by
 have c1:=eline_con (gl:=Cu.G) h X Y hX hY
 have v:=eH h hX hY
 have hck:=Cu.chk_valid v
 have c2:=Cu.best_con (aU l d c X Y s r)
 rw [Cu.best_ok hck] at c2
 have c3:=esizes_con (gl:=Cu.G) c h.pro (Y.2 - Y.1)
 have hpn:∀ x:Cu.bI,nodeP ((cB c (Y.2 - Y.1)).map Prod.snd) x=[(1,((cB c (Y.2 - Y.1)).map Prod.snd).getD x.1.toNat 0)]:=fun x=>rfl
 obtain ⟨hOK,_⟩:=Cu.fX v ((X.2 - X.1).toNat+2) 0 (by decide) v.len.1 (by show X.2 - X.1 - 0+1≤_;omega)
 have hro:=rowOk_of (A:=X.1) v rfl _ 0 hOK
 have eB:X.1+(aU l d c X Y s r).len=X.2:=by show X.1+(X.2 - X.1)=X.2;omega
 have ek:(aU l d c X Y s r).kerf=s.kerf:=rfl
 have hel:(aU l d c X Y s r).len=X.2 - X.1:=rfl
 rw [eB,Int.add_zero,ek] at hro
 have hmem:=oks_mem v _ 0 hOK
 have hsb:=v.size
 change ∀ i (h:i < ((cB c (Y.2 - Y.1)).map Prod.fst).length),1≤((cB c (Y.2 - Y.1)).map Prod.fst)[i]∧((cB c (Y.2 - Y.1)).map Prod.fst)[i]≤2000 at hsb
 have hlen:=im (aU l d c X Y s r) ((X.2 - X.1).toNat+2) 0
 have hcl:=cU h.pro
 have hzl:=szN_le c (Y.2 - Y.1) c.length
 change (cB c (Y.2 - Y.1)).length≤_ at hzl
 have hszs:(aU l d c X Y s r).sizes=(cB c (Y.2 - Y.1)).map Prod.fst:=rfl
 rw [hszs] at hmem
 have hsz:∀ x:Cu.bI,aR (aU l d c X Y s r) x.1=((cB c (Y.2 - Y.1)).map Prod.fst).getD x.1.toNat 0:=fun x=>rfl
 have hX0:=hX
 have hY0:=hY
 obtain ⟨x1,x2,x3⟩:=hX
 obtain ⟨y1,y2,y3⟩:=hY
 obtain ⟨s1,s2,s3,s4,s5,s6,s7,s8⟩:=h.sw
 have hT:=ia (k:=s.kerf) (ax:=2) (B:=X.2) (ePs l d c X Y s r) X.1
 unfold bV
 unfold ePs at hT ⊢
 change bm Tryz.prog Cu.G 22 _ (.tup [LP (eP l d c X Y s r),I (TV (aU l d c X Y s r) 0),I 0]) at c2
 change OKs _ 0 (eP l d c X Y s r) at hOK
 change eK _ _ _ ((eP l d c X Y s r).map _) at hro
 change ∀ x∈eP l d c X Y s r,_ at hmem
 change (eP l d c X Y s r).length≤_ at hlen
 have hpl:((cB c (Y.2 - Y.1)).map Prod.snd).length=((cB c (Y.2 - Y.1)).map Prod.fst).length:=by rw [List.length_map,List.length_map]
 have hwl:((cB c (Y.2 - Y.1)).map Prod.fst).length=(cB c (Y.2 - Y.1)).length:=List.length_map ..
 have hspf:∀ x,dE X.1 (aU l d c X Y s r) x=(X.1+x.2,X.1+(x.2+aR (aU l d c X Y s r) x.1)):=fun x=>rfl
 generalize hPS:nodeP ((cB c (Y.2 - Y.1)).map Prod.snd)=ND at *
 generalize hSP:dE X.1 (aU l d c X Y s r)=SP at *
 generalize hP:eP l d c X Y s r=P at *
 generalize hTV:TV (aU l d c X Y s r) 0=tv at *
 generalize (cB c (Y.2 - Y.1)).map Prod.fst=ws at *
 generalize (cB c (Y.2 - Y.1)).map Prod.snd=ps at *
 have hns:((List.zip (P.map SP) (P.map ND)).map (fun x=>x.2.length)).sum≤P.length:=by
  clear hT hmem hOK hro hlen c2 hP
  induction P with
  | nil=>simp
  | cons x P ih=>simp only [List.map_cons,List.zip_cons_cons,List.sum_cons,List.length_cons];rw [hpn x];simp only [List.length_cons,List.length_nil];omega
 have hzl2:(List.zip (P.map SP) (P.map ND)).length=P.length:=by simp
 have c4:=row_con (gl:=Cu.G) (X,Y) 2 s.kerf (.inl rfl) ⟨s1,s2⟩ hX0 hY0 (P.map SP) (P.map ND) (by simp) (by simp;omega) hro (by show (bS s.kerf 2 X.2 X.1 _).length≤_;omega)
 change bm Tryz.prog Cu.G 25 _ (.tup [fY (if (bS s.kerf 2 X.2 X.1 (List.zip (P.map SP) (P.map ND))).length≤127 then bS s.kerf 2 X.2 X.1 (List.zip (P.map SP) (P.map ND)) else []),I (if (bS s.kerf 2 X.2 X.1 (List.zip (P.map SP) (P.map ND))).length≤127 then 0 else 4)]) at c4
 generalize bS s.kerf 2 X.2 X.1 (List.zip (P.map SP) (P.map ND))=R at *
 obtain ⟨X1,X2⟩:=X
 obtain ⟨Y1,Y2⟩:=Y
 dsimp only at *
 refine ao Tryz.func54 rfl (by kernel_rfl) rfl ?_
 simp only [Tryz.ntmps54,Tryz.results54,am,ofC,aZ,List.map,ef,Cu.lineL]
 repeat' (first
 | ((with_reducible apply (ah (f:=102)));exact rfl;exact rfl;exact c1;exact rfl;exact rfl)
 | ((with_reducible apply (ah (f:=22)));exact rfl;exact rfl;exact c2;exact rfl;exact rfl)
 | ((with_reducible apply (ah (f:=103)));exact rfl;exact rfl;exact c3;exact rfl;exact rfl)
 | (((with_reducible apply aa);exact rfl)<;>intro hg<;>(first|(exact absurd hg (by decide))|((try simp only [qz,ge_iff_le,List.cons.injEq,and_true] at hg);first|(exact absurd trivial hg)|(exfalso;omega)|(have hT:True:=hg;clear hT hg)|skip)))
 | (refine zs ?_)
 | fail
 )
 refine bo 21 35 2 rfl rfl ?_
 refine bo 22 31 1 rfl rfl ?_
 refine au (G:=Nat) (fun (j:Nat)=>j≤P.length) (fun (j:Nat)=>P.length - j) (fun (j:Nat)=>[(9,.ptr 0 0),(10,.ptr 1 0),(18,A tv),(19,.c (LI ws)),(20,.c (LI ps)),(21,.vec 4 j),(22,.vec 5 j),(60,.c (LP P)),(61,A P.length),(62,A j)]) (fun (j:Nat)=>[(5,some (.vec 31 1 (((P.take j).map ND).flatMap ndsC))),(4,some (.vec 35 2 (((P.take j).map SP).flatMap gw))),(1,some (.cells 26 [A s.kerf,A s.trim,A s.pitch,A s.step])),(0,some (.cells 37 [A X1,A X2,A Y1,A Y2]))]) 6 0 ?_ (by refine ak rfl ?_ ?_<;>repeat (first|exact ai|exact ac|refine ae rfl rfl ?_|refine ab rfl rfl rfl ?_)) rfl ?_
 ·exact Nat.zero_le _
 rintro j hI
 try dsimp only at hI
 try dsimp only
 by_cases hj:j < P.length
 ·have l1:((P.take j).map SP).length=j:=by rw [List.length_map,List.length_take];omega
  have l2:((P.take j).map ND).length=j:=by rw [List.length_map,List.length_take];omega
  obtain ⟨m1,m2,m3,m4,m5⟩:=hmem P[j] (List.getElem_mem hj)
  have hsz2:=hsz P[j]
  have hSPj:=hspf P[j]
  have hNDj:=hpn P[j]
  rw [hsz2,List.getD_eq_getElem?_getD,List.getElem?_eq_getElem m2,Option.getD_some] at hSPj
  rw [hsz2,List.getD_eq_getElem?_getD,List.getElem?_eq_getElem m2,Option.getD_some] at m4
  rw [List.getD_eq_getElem?_getD,List.getElem?_eq_getElem (by omega),Option.getD_some] at hNDj
  have hwlo:-1000000≤ws[P[j].1.toNat]∧ws[P[j].1.toNat]≤1000000:=by
   have:=hsb _ m2
   omega
  have cp:=epart_con (gl:=Cu.G) (X1,X2) (Y1,Y2) P[j].2 (P[j].2+ws[P[j].1.toNat]) ⟨by unfold aQ;dsimp only;omega,by unfold aQ;dsimp only;omega⟩
  have cc:=slices_clone_con (gl:=Cu.G) (1,ps[P[j].1.toNat])
  repeat' (first
 | (refine aL 15 ?_ ?_;(kernel_rfl);(simp only [List.take_succ_cons,List.take_zero,List.drop_succ_cons,List.drop_zero]))
 | ((with_reducible apply bg);iterate 7 exact rfl)
 | ((with_reducible apply (ah (f:=104)));exact rfl;exact rfl;exact cp;exact rfl;exact rfl)
 | ((with_reducible apply (r_in Tryz.func105 rfl Tryz.results105 (by kernel_rfl) Tryz.ntmps105));iterate 4 exact rfl)
 | ((with_reducible apply co);exact rfl)
 | ((with_reducible apply (ah (f:=144)));exact rfl;exact rfl;exact cc;exact rfl;exact rfl)
 | ((with_reducible apply (aH (enc:=gw) (l2:=[(X1+P[j].2,X1+(P[j].2+ws[P[j].1.toNat]))])));exact rfl;exact rfl;exact inferInstance;exact l1;exact rfl;exact (by show _+1 < _;omega);exact (by show (_+1) * _≤_;omega);exact rfl)
 | ((with_reducible apply (aH (enc:=ndsC) (l2:=[[((1:Int),ps[P[j].1.toNat])]])));exact rfl;exact rfl;exact inferInstance;exact l2;exact rfl;exact (by show _+1 < _;omega);exact (by show (_+1) * _≤_;omega);exact rfl)
 | (((with_reducible apply aa);exact rfl)<;>intro hg<;>(first|(exact absurd hg (by decide))|((try simp only [qz,ge_iff_le,List.cons.injEq,and_true] at hg);first|(exact absurd trivial hg)|(exfalso;omega)|(have hT:True:=hg;clear hT hg)|skip)))
 | (refine zs ?_)
 | fail
 )
  rw [show (P.take j).map SP++[(X1+P[j].2,X1+(P[j].2+ws[P[j].1.toNat]))]=(P.take (j+1)).map SP from by rw [List.take_succ_eq_append_getElem hj,List.map_append,← hSPj];rfl,show (P.take j).map ND++[[((1:Int),ps[P[j].1.toNat])]]=(P.take (j+1)).map ND from by rw [List.take_succ_eq_append_getElem hj,List.map_append,← hNDj];rfl]
  refine ⟨j+1,?_,?_,by refine ak rfl ?_ ?_<;>repeat (first|exact ai|exact ac|refine ae rfl rfl ?_|refine ab rfl rfl rfl ?_)⟩
  ·show P.length - (j+1) < P.length - j;omega
  ·show j+1≤P.length;omega
 ·obtain rfl:j=P.length:=by omega
  rw [List.take_length]
  have l1:(P.map SP).length=P.length:=by rw [List.length_map]
  have l2:(P.map ND).length=P.length:=by rw [List.length_map]
  by_cases h127:R.length≤127
  ·rw [if_pos h127,if_pos h127] at c4
   rw [if_pos h127,if_pos h127,if_pos h127]
   repeat' (first
 | ((with_reducible apply (ck 96));exact rfl;exact rfl;exact (by rw [av EncL.len,l1]))
 | ((with_reducible apply (ck 97));exact rfl;exact rfl;exact (by rw [av EncL.len,l2]))
 | ((with_reducible apply (ah (f:=25)));exact rfl;exact rfl;exact c4;exact rfl;exact rfl)
 | (((with_reducible apply aa);exact rfl)<;>intro hg<;>(first|(exact absurd hg (by decide))|((try simp only [qz,ge_iff_le,List.cons.injEq,and_true] at hg);first|(exact absurd trivial hg)|(exfalso;omega)|(have hT:True:=hg;clear hT hg)|skip)))
 | (refine zs ?_)
 | fail
 )
   all_goals exact bJ (.cons (.tmp rfl ap) (.cons (.tmp rfl ap) (.cons (.tmp rfl ap) .nil)))
  ·rw [if_neg h127,if_neg h127] at c4
   rw [if_neg h127,if_neg h127,if_neg h127]
   repeat' (first
 | ((with_reducible apply (ck 96));exact rfl;exact rfl;exact (by rw [av EncL.len,l1]))
 | ((with_reducible apply (ck 97));exact rfl;exact rfl;exact (by rw [av EncL.len,l2]))
 | ((with_reducible apply (ah (f:=25)));exact rfl;exact rfl;exact c4;exact rfl;exact rfl)
 | (((with_reducible apply aa);exact rfl)<;>intro hg<;>(first|(exact absurd hg (by decide))|((try simp only [qz,ge_iff_le,List.cons.injEq,and_true] at hg);first|(exact absurd trivial hg)|(exfalso;omega)|(have hT:True:=hg;clear hT hg)|skip)))
 | (refine zs ?_)
 | fail
 )
   all_goals exact bJ (.cons (.tmp rfl bP) (.cons (.tmp rfl ap) (.cons (.tmp rfl ap) .nil)))
end Go.Proofs.YtdndfncpglfdeaaGreatDoor.Tp

namespace Go.Proofs.YtdndfncpglfdeaaGreatDoor.Tp
set_option linter.unusedVariables false
set_option linter.unusedSimpArgs false
open Go.RowKit Go.Proofs.YtdndfncpglfdeaaGreatDoor.Ev
open Go.Proofs.YtdndfncpglfdeaaGreatDoor.Cu (I LI ce)
variable {gl:List (Nat×List CV)}
section
variable {base:Nat} {w0:W0} {st:St} {M:Wd} {a:Act}
abbrev putI (w:World) (g:Nat) (l:List Int):World:=Go.Sort.putRow (Value.int .i64) w g 0 l.toArray
theorem eI (l:List Int):l.flatMap ce=l.map I:=by
 induction l with
 | nil=>rfl
 | cons x l ih=>simp [List.flatMap_cons,ih,ce]
theorem own_ints {b E n:Nat} {l:List Int} (hs:Sim base w0 st M a) (hMH:M.H b=some (.vec E 1 (l.flatMap ce))) (hn:l.length=n) (h0:0 < n) :
  ∃ g cap cur,M.m b=.row (.slice (some ⟨g,0,none⟩) n cap)∧base≤g∧g < M.w.heap.size∧M.w.heap[g]?=some (.cells cur E (0,0))∧n≤cap∧cap≤maxLen∧cur.size=cap∧cur.toList.take n=l.map (Value.int .i64)∧¬ M.F g:=by
 obtain ⟨v0,n0,cs,v1,v2,v3,v4,v5,v6⟩:=hs.heap.vec b E 1 _ hMH
 rw [eI,List.length_map,hn] at v2
 have hn0:n0=n:=by omega
 subst hn0
 obtain ⟨w1,w2⟩:=v4
 rcases w2 with ⟨_,h⟩|⟨g,cap,cur,rfl,w3,w4,w5,w6,w7,w8⟩
 ·omega
 refine ⟨g,cap,cur,v1,w3,(Array.getElem?_eq_some_iff.1 w4).1,w4,w5,w6,by omega,?_,v6 g rfl⟩
 rw [Nat.mul_one] at w8
 rw [w8]
 refine List.ext_getElem? fun i=>?_
 rw [eI] at v5
 by_cases hi:i < n0
 ·have h1:(l.map I)[i]?=some (I l[i]):=by rw [List.getElem?_map,List.getElem?_eq_getElem (by omega)];rfl
  have h2:cs[i]?=some cs[i]:=List.getElem?_eq_getElem (by omega)
  have:=v5 i _ _ h1 h2
  rw [h2,List.getElem?_map,List.getElem?_eq_getElem (by omega)]
  generalize cs[i]=u at this
  cases this with
  | v x=>rfl
 ·rw [List.getElem?_eq_none (by omega),List.getElem?_eq_none (by rw [List.length_map];omega)]
theorem own_holds {w:World} {g E n:Nat} {cur:Array Value} {l:List Int} (h1:w.heap[g]?=some (.cells cur E (0,0))) (h2:cur.toList.take n=l.map (Value.int .i64)) (hn:l.length=n):Go.Sort.Holds (Value.int .i64) w g 0 l.toArray:=by
 intro j hj
 have hj:j < l.length:=by simpa using hj
 have hc:cur[j]?=some (Value.int .i64 l[j]):=by
  have:(cur.toList.take n)[j]?=some (Value.int .i64 l[j]):=by rw [h2,List.getElem?_map,List.getElem?_eq_getElem hj];rfl
  rw [List.getElem?_take_of_lt (by omega)] at this
  simpa using this
 have hb:l.toArray[j]! = l[j]:=by simp [hj]
 rw [hb]
 constructor
 ·unfold World.cell?;rw [h1];simpa using hc
 ·unfold World.frozen?;rw [h1];simp
theorem Sim.putI (hs:Sim base w0 st M a) {b E n g cap:Nat} {l l':List Int} (hMH:M.H b=some (.vec E 1 (l.flatMap ce))) (hn:l.length=n) (h0:0 < n) (hl':l'.length=n) (hg:M.m b=.row (.slice (some ⟨g,0,none⟩) n cap)) {k:Nat} {os:Array Obj} :
  ∃ M',M'.w=Go.Sort.grow (Tp.putI (Go.Sort.ahead M.w k) g l') os∧Sim base w0 (st.set b (.vec E 1 (l'.flatMap ce))) M' a∧Ext M M'∧M'.m b=M.m b:=by
 obtain ⟨g',cap',cur,e1,e2,e3,e4,e5,e6,e7,e8,e9⟩:=own_ints hs hMH hn h0
 rw [hg] at e1
 simp only [Conc.row.injEq,Value.slice.injEq,Option.some.injEq,Addr.mk.injEq,and_true,true_and] at e1
 obtain ⟨rfl,rfl⟩:=e1
 let w':=Go.Sort.grow (Tp.putI (Go.Sort.ahead M.w k) g l') os
 have hheap:w'.heap=M.w.heap.modify g (Go.Sort.onCells (Go.Sort.putCells (Value.int .i64) 0 l'.toArray))++os:=rfl
 have hlt:∀ j,j < M.w.heap.size→w'.heap[j]?=(M.w.heap.modify g (Go.Sort.onCells (Go.Sort.putCells (Value.int .i64) 0 l'.toArray)))[j]?:=fun j hj=>by
  rw [hheap,Array.getElem?_append_left (by simpa using hj)]
 have hbl:(M.m b).block=some g:=by rw [hg];rfl
 refine ⟨M.set st b (.vec E 1 (l'.flatMap ce)) (M.m b) w',rfl,?_⟩
 have hsz:M.w.heap.size≤w'.heap.size:=by rw [hheap];simp
 have hc:=hs.change (b:=b) (x:=.vec E 1 (l'.flatMap ce)) (c:=M.m b) (w':=w') (by rw [hMH];simp) (fun j hj hne=>by rw [hlt j hj,Array.getElem?_modify,if_neg (fun e=>hne (by rw [hbl,e]))]) hsz rfl rfl rfl (fun j hj=>by rw [hbl] at hj;cases hj;exact e2) (fun j hj=>.inl hj) (fun j hj=>by rw [hbl] at hj;cases hj;exact e9) (fun _ h=>h) ?_ (fun _ _ _ _ _ _ h=>by cases h) ?_
 ·refine ⟨hc.1,hc.2,?_⟩
  show (if b=b then M.m b else M.m b)=M.m b
  rw [if_pos rfl]
 ·intro E' size' l2 h
  simp only [AB.vec.injEq] at h
  obtain ⟨rfl,rfl,rfl⟩:=h
  exact ⟨_,hMH,by rw [eI,eI,List.length_map,List.length_map,hn,hl'];exact Nat.le_refl n,fun _=>rfl⟩
 ·intro E' size' l2 h
  simp only [AB.vec.injEq] at h
  obtain ⟨rfl,rfl,rfl⟩:=h
  refine ⟨.slice (some ⟨g,0,none⟩) n cap,n,l'.map (Value.int .i64),hg,by rw [eI,List.length_map,hl',Nat.mul_one],by decide,⟨by rw [List.length_map,hl',Nat.mul_one],.inr ⟨g,cap,Go.Sort.putCells (Value.int .i64) 0 l'.toArray cur,rfl,e2,?_,e5,e6,by simp [Go.Sort.putCells,e7],?_⟩⟩,fun i x u hx hu=>?_⟩
  ·rw [hlt g e3,Array.getElem?_modify,if_pos rfl,e4];rfl
  ·rw [Nat.mul_one]
   refine List.ext_getElem? fun i=>?_
   by_cases hi:i < n
   ·rw [List.getElem?_take_of_lt hi,List.getElem?_map,List.getElem?_eq_getElem (l:=l') (by omega)]
    have hic:i < cur.size:=by omega
    simp only [Go.Sort.putCells,Array.getElem?_toList,Array.getElem?_mapIdx,Array.getElem?_eq_getElem hic,Option.map_some]
    rw [if_pos ⟨Nat.zero_le _,by simp;omega⟩]
    have:i < l'.length:=by omega
    simp [this]
   ·rw [List.getElem?_eq_none (by rw [List.length_take];omega),List.getElem?_eq_none (by rw [List.length_map];omega)]
  ·rw [eI,List.getElem?_map] at hx
   rw [List.getElem?_map] at hu
   cases he:l'[i]? with
   | none=>rw [he] at hx;cases hx
   | some z =>
    rw [he] at hx hu
    simp only [Option.map_some,Option.some.injEq] at hx hu
    subst hx;subst hu
    exact .v _
end
section
variable {P:Program} {ops:Array Oper} {Q:Exit→St→Prop} {rest:List Oper} {ty:TypeId} {pos:String} {af:Array Edge} {d:Nat} {n:Nat} {env:List (Nat×AV)} {heap:List (Nat×Option AB)} {nx:Nat}
def Sorts (P:Program) (f:FuncId) (g:List Int→List Int):Prop :=
 bB P f=true∧(∀ l,(g l).length=l.length)∧∀ (blk off cap:Nat) (zs:List Int) (w:World),Go.Sort.Holds (Value.int .i64) w blk off zs.toArray→blk < w.heap.size→zs.length < 4611686018427387904 →
  Calls P f #[.slice (some ⟨blk,off,none⟩) zs.length cap] w fun e w'=>e=.returned (.tuple #[])∧∃ n os,w'=Go.Sort.grow (Go.Sort.putRow (Value.int .i64) (Go.Sort.ahead w n) blk off (g zs).toArray) os
def Compacts (P:Program) (f:FuncId):Prop :=
 bB P f=true∧∀ (blk off cap:Nat) (zs:List Int) (w:World),Go.Sort.Holds (Value.int .i64) w blk off zs.toArray→zs.length≤9223372036854775807→zs.length≤cap →
  Calls P f #[.slice (some ⟨blk,off,none⟩) zs.length cap] w fun e w'=>e=.returned (.slice (some ⟨blk,off,none⟩) (Go.Lib.compact zs).length cap)∧∃ q,w'=Go.Sort.putRow (Value.int .i64) (Go.Sort.ahead w q) blk off (Go.Lib.compact zs++List.replicate (zs.length - (Go.Lib.compact zs).length) 0).toArray
theorem r_sortV {f:FuncId} {g:List Int→List Int} (hC:Sorts P f g) {x:Operand} {tys:Array TypeId} {b n' E:Nat} {l:List Int} (hx:St.ev ⟨n,env,heap,nx,gl⟩ x=some (.vec b n')) (hH:St.H ⟨n,env,heap,nx,gl⟩ b=some (.vec E 1 (l.flatMap ce))) (hn:l.length=n') (h0:0 < n') (hbig:n'≤1000000000000) (hd:Nat.blt d n=true)
  (h:aP P ops Q rest ⟨n,(d,.tup [])::env,(b,some (.vec E 1 ((g l).flatMap ce)))::heap,nx,gl⟩) :
  aP P ops Q (⟨some d,.call ⟨.value (.func f),#[x],tys⟩,ty,pos,af,none⟩::rest) ⟨n,env,heap,nx,gl⟩:=by
 obtain ⟨c1,c2,c3⟩:=hC
 intro base w0 M a hs
 have hMH:M.H b=some (.vec E 1 (l.flatMap ce)):=by rw [hs.H];exact hH
 obtain ⟨g1,cap,cur,e1,e2,e3,e4,e5,e6,e7,e8,e9⟩:=own_ints hs hMH hn h0
 have hv:=hs.ev hx
 have hav:a.eval x=.slice (some ⟨g1,0,none⟩) n' cap:=by
  cases hv with
  | vec hb ho hh =>
   have:=(hh _ _ _ hMH).2 (by rw [eI,List.length_map,hn,Nat.mul_one])
   rw [e1] at this
   injection this with this
   exact this.symm
 have hcall:=c3 g1 0 cap l M.w (own_holds e4 e8 hn) e3 (by omega)
 rw [hn,← hav] at hcall
 refine eS (w':=M.w) (f:=f) (args:=#[a.eval x]) rfl (eQ (args:=[x]) c1 a M.w) (R:=fun v w'=>v=.tuple #[]∧∃ k os,w'=Go.Sort.grow (putI (Go.Sort.ahead M.w k) g1 (g l)) os) (hcall.mono fun e w' ⟨h1,k,os,h2⟩=>⟨_,h1,rfl,k,os,h2⟩) ?_
 rintro v w'' ⟨rfl,k,os,rfl⟩
 obtain ⟨M',m1,m2,m3,m4⟩:=Sim.putI hs hMH hn h0 (l':=g l) (by rw [c2,hn]) e1 (k:=k) (os:=os)
 rw [← m1]
 exact aM (fun e a w=>bN.ext m3) _ _ _ (h base w0 M' _ (m2.put hd (.tup rfl (fun i x u h=>by simp at h))))
theorem compact_len (l:List Int):(Go.Lib.compact l).length≤l.length:=by
 unfold Go.Lib.compact Go.Lib.compactUpTo
 rw [List.length_map]
 have:=List.length_filter_le (Go.Lib.keeps l.toArray) (List.range l.length)
 rwa [List.length_range] at this
theorem compact_sub (l:List Int):∀ x∈Go.Lib.compact l,x∈l:=by
 intro x hx
 unfold Go.Lib.compact Go.Lib.compactUpTo at hx
 obtain ⟨j,hj,rfl⟩:=List.mem_map.1 hx
 have hj:=List.mem_range.1 (List.mem_filter.1 hj).1
 show l.toArray[j]!∈l
 simp [hj]
theorem compact_all_in (l:List Int):∀ x∈l,x∈Go.Lib.compact l:=by
 intro x hx
 obtain ⟨j,hj,rfl⟩:=List.mem_iff_getElem.1 hx
 unfold Go.Lib.compact Go.Lib.compactUpTo
 have:∀ j (hj:j < l.length),∃ i,i≤j∧Go.Lib.keeps l.toArray i=true∧l.toArray[i]! = l.toArray[j]!:=by
  intro j
  induction j with
  | zero=>intro hj;exact ⟨0,Nat.le_refl _,by simp [Go.Lib.keeps],rfl⟩
  | succ j ih =>
   intro hj
   by_cases hk:Go.Lib.keeps l.toArray (j+1)=true
   ·exact ⟨j+1,Nat.le_refl _,hk,rfl⟩
   ·obtain ⟨i,h1,h2,h3⟩:=ih (by omega)
    unfold Go.Lib.keeps at hk
    simp only [decide_eq_true_eq,not_or,Decidable.not_not] at hk
    exact ⟨i,by omega,h2,by rw [h3,hk.2];rfl⟩
 obtain ⟨i,h1,h2,h3⟩:=this j hj
 refine List.mem_map.2 ⟨i,List.mem_filter.2 ⟨List.mem_range.2 (by omega),h2⟩,?_⟩
 show l.toArray[i]! = l[j]
 rw [h3];simp [hj]
theorem r_compactV {f:FuncId} (hC:Compacts P f) {x:Operand} {tys:Array TypeId} {b n' E:Nat} {l:List Int} (hx:St.ev ⟨n,env,heap,nx,gl⟩ x=some (.vec b n')) (hH:St.H ⟨n,env,heap,nx,gl⟩ b=some (.vec E 1 (l.flatMap ce))) (hn:l.length=n') (h0:0 < n') (hbig:n'≤1000000000000) (hd:Nat.blt d n=true)
  (h:aP P ops Q rest ⟨n,(d,.vec nx (Go.Lib.compact l).length)::env,(nx,some (.vec E 1 ((Go.Lib.compact l).flatMap ce)))::(b,none)::heap,nx+1,gl⟩) :
  aP P ops Q (⟨some d,.call ⟨.value (.func f),#[x],tys⟩,ty,pos,af,none⟩::rest) ⟨n,env,heap,nx,gl⟩:=by
 obtain ⟨c1,c3⟩:=hC
 have h:=ao_heapEq (heap:=(nx,some (.vec E 1 ((Go.Lib.compact l).flatMap ce)))::(b,none)::(b,some (.vec E 1 ((Go.Lib.compact l++List.replicate (l.length - (Go.Lib.compact l).length) 0).flatMap ce)))::heap) (fun k=>by
  unfold St.H
  simp only [az]
  by_cases h1:nx=k
  ·simp [h1]
  ·by_cases h2:b=k
   ·simp [h1,h2]
   ·simp [h1,h2]) h
 intro base w0 M a hs
 have hMH:M.H b=some (.vec E 1 (l.flatMap ce)):=by rw [hs.H];exact hH
 obtain ⟨g1,cap,cur,e1,e2,e3,e4,e5,e6,e7,e8,e9⟩:=own_ints hs hMH hn h0
 have hv:=hs.ev hx
 have hav:a.eval x=.slice (some ⟨g1,0,none⟩) n' cap:=by
  cases hv with
  | vec hb ho hh =>
   have:=(hh _ _ _ hMH).2 (by rw [eI,List.length_map,hn,Nat.mul_one])
   rw [e1] at this
   injection this with this
   exact this.symm
 have hcall:=c3 g1 0 cap l M.w (own_holds e4 e8 hn) (by omega) (by omega)
 rw [hn,← hav] at hcall
 refine eS (w':=M.w) (f:=f) (args:=#[a.eval x]) rfl (eQ (args:=[x]) c1 a M.w) (R:=fun v w'=>v=.slice (some ⟨g1,0,none⟩) (Go.Lib.compact l).length cap∧∃ k,w'=Go.Sort.grow (putI (Go.Sort.ahead M.w k) g1 (Go.Lib.compact l++List.replicate (l.length - (Go.Lib.compact l).length) 0)) #[]) (hcall.mono fun e w' ⟨h1,k,h2⟩=>⟨_,h1,rfl,k,by rw [Go.Sort.grow_empty,hn];exact h2⟩) ?_
 rintro v w'' ⟨rfl,k,rfl⟩
 have hcl:=compact_len l
 have hl':(Go.Lib.compact l++List.replicate (l.length - (Go.Lib.compact l).length) (0:Int)).length=n':=by rw [List.length_append,List.length_replicate];omega
 obtain ⟨M',m1,m2,m3,m4⟩:=Sim.putI hs hMH hn h0 (l':=Go.Lib.compact l++List.replicate (l.length - (Go.Lib.compact l).length) 0) hl' e1 (k:=k) (os:=#[])
 have hMH':M'.H b=some (.vec E 1 ((Go.Lib.compact l++List.replicate (l.length - (Go.Lib.compact l).length) 0).flatMap ce)):=by rw [m2.H,H_set,if_pos rfl]
 obtain ⟨g2,cap2,p1,p2,M2,p3,p4,p5,p6⟩:=m2.pop hMH' (n':=n') (m:=(Go.Lib.compact l).length) (by rw [eI,List.length_map,hl',Nat.mul_one]) h0 (by omega)
 rw [m4,e1] at p1
 simp only [Conc.row.injEq,Value.slice.injEq,Option.some.injEq,Addr.mk.injEq,and_true,true_and] at p1
 obtain ⟨rfl,rfl⟩:=p1
 have p9:List.take ((Go.Lib.compact l).length * 1) (List.flatMap ce (Go.Lib.compact l++List.replicate (l.length - (Go.Lib.compact l).length) (0:Int)))=(Go.Lib.compact l).flatMap ce:=by
  rw [eI,eI,Nat.mul_one,List.map_append,List.take_append_of_le_length (by simp),List.take_of_length_le (by simp)]
 rw [p9] at p4
 rw [← m1,← p3]
 exact aM (fun e a w=>bN.ext (m3.trans p5)) _ _ _ (h base w0 M2 _ (p4.put hd p6))
end
end Go.Proofs.YtdndfncpglfdeaaGreatDoor.Tp

namespace Go.Proofs.YtdndfncpglfdeaaGreatDoor.Tp
set_option linter.unusedVariables false
set_option linter.unusedSimpArgs false
open Go.RowKit Go.Proofs.YtdndfncpglfdeaaGreatDoor.Ev
open Go.Shelf Go.Sort
def sh_lays189_ren:Go.Shelf.Ren:=⟨fun|189=>100|125=>140|257=>139|128=>159|129=>160|294=>150|295=>151|296=>152|297=>153|298=>154|299=>155|216=>156|300=>157|301=>158|328=>161|329=>162|330=>163|331=>164|332=>165|215=>166|343=>167|n=>n,fun|28=>58|3=>3|46=>216|0=>0|51=>238|53=>222|4=>4|183=>231|182=>230|131=>172|5=>5|9=>9|218=>239|222=>243|228=>245|229=>146|n=>n,fun|n=>n⟩
theorem sh_lays189:Go.Proofs.Lays.n189 Tryz.prog sh_lays189_ren:={
 mixed:=by kernel_rfl
 f125:=Tryz.func140.trans (congrArg some (by kernel_rfl))
 f128:=Tryz.func159.trans (congrArg some (by kernel_rfl))
 f129:=Tryz.func160.trans (congrArg some (by kernel_rfl))
 f189:=Tryz.func100.trans (congrArg some (by kernel_rfl))
 f215:=Tryz.func166.trans (congrArg some (by kernel_rfl))
 f216:=Tryz.func156.trans (congrArg some (by kernel_rfl))
 f257:=Tryz.func139.trans (congrArg some (by kernel_rfl))
 f294:=Tryz.func150.trans (congrArg some (by kernel_rfl))
 f295:=Tryz.func151.trans (congrArg some (by kernel_rfl))
 f296:=Tryz.func152.trans (congrArg some (by kernel_rfl))
 f297:=Tryz.func153.trans (congrArg some (by kernel_rfl))
 f298:=Tryz.func154.trans (congrArg some (by kernel_rfl))
 f299:=Tryz.func155.trans (congrArg some (by kernel_rfl))
 f300:=Tryz.func157.trans (congrArg some (by kernel_rfl))
 f301:=Tryz.func158.trans (congrArg some (by kernel_rfl))
 f328:=Tryz.func161.trans (congrArg some (by kernel_rfl))
 f329:=Tryz.func162.trans (congrArg some (by kernel_rfl))
 f330:=Tryz.func163.trans (congrArg some (by kernel_rfl))
 f331:=Tryz.func164.trans (congrArg some (by kernel_rfl))
 f332:=Tryz.func165.trans (congrArg some (by kernel_rfl))
 f343:=Tryz.func167.trans (congrArg some (by kernel_rfl))
 t0:=Tryz.underlying0
 a0:=Tryz.isAgg0
 z0:=Tryz.sizeOf0
 v0:=Tryz.zeroValue0
 t3:=Tryz.underlying3
 a3:=Tryz.isAgg3
 z3:=Tryz.sizeOf3
 v3:=Tryz.zeroValue3
 t4:=Tryz.underlying4
 a4:=Tryz.isAgg4
 z4:=Tryz.sizeOf4
 v4:=Tryz.zeroValue4
 t5:=Tryz.underlying5
 a5:=Tryz.isAgg5
 z5:=Tryz.sizeOf5
 v5:=Tryz.zeroValue5
 t9:=Tryz.underlying9
 a9:=Tryz.isAgg9
 z9:=Tryz.sizeOf9
 v9:=Tryz.zeroValue9
 t28:=Tryz.underlying58
 a28:=Tryz.isAgg58
 z28:=Tryz.sizeOf58
 v28:=Tryz.zeroValue58
 t46:=Tryz.underlying216
 a46:=Tryz.isAgg216
 z46:=Tryz.sizeOf216
 v46:=Tryz.zeroValue216
 t51:=Tryz.underlying238
 a51:=Tryz.isAgg238
 z51:=Tryz.sizeOf238
 v51:=Tryz.zeroValue238
 t53:=Tryz.underlying222
 a53:=Tryz.isAgg222
 z53:=Tryz.sizeOf222
 v53:=Tryz.zeroValue222
 t131:=Tryz.underlying172
 a131:=Tryz.isAgg172
 z131:=Tryz.sizeOf172
 v131:=Tryz.zeroValue172
 t182:=Tryz.underlying230
 a182:=Tryz.isAgg230
 z182:=Tryz.sizeOf230
 v182:=Tryz.zeroValue230
 t183:=Tryz.underlying231
 a183:=Tryz.isAgg231
 z183:=Tryz.sizeOf231
 v183:=Tryz.zeroValue231
 t218:=Tryz.underlying239
 a218:=Tryz.isAgg239
 z218:=Tryz.sizeOf239
 v218:=Tryz.zeroValue239
 t222:=Tryz.underlying243
 a222:=Tryz.isAgg243
 z222:=Tryz.sizeOf243
 v222:=Tryz.zeroValue243
 t228:=Tryz.underlying245
 a228:=Tryz.isAgg245
 z228:=Tryz.sizeOf245
 v228:=Tryz.zeroValue245
 t229:=Tryz.underlying146
 a229:=Tryz.isAgg146
 z229:=Tryz.sizeOf146
 v229:=Tryz.zeroValue146 }
theorem sh_slices_Sort_int (blk off cap:Nat) (zs:List Int) (w:World) (hH:Holds (Value.int .i64) w blk off zs.toArray) (hblk:blk < w.heap.size) (hsz:zs.length < 4611686018427387904) :
  Calls Tryz.prog 100 #[.slice (some ⟨blk,off,none⟩) zs.length cap] w fun e w' =>
   e=.returned (.tuple #[])∧∃ n os,w'=grow (putRow (Value.int .i64) (Sort.ahead w n) blk off (zs.mergeSort fun x y=>decide (x≤y)).toArray) os:=Any.slices_Sort_int sh_lays189 blk off cap zs w hH hblk hsz
def sh_laysNm220_ren:Go.Shelf.Ren:=⟨fun|20=>101|n=>n,fun|22=>58|3=>3|4=>4|0=>0|n=>n,fun|n=>n⟩
theorem sh_laysNm220:Go.Proofs.Lays2.n20 Tryz.prog sh_laysNm220_ren:={
 mixed:=by kernel_rfl
 f20:=Tryz.func101.trans (congrArg some (by kernel_rfl))
 t0:=Tryz.underlying0
 a0:=Tryz.isAgg0
 z0:=Tryz.sizeOf0
 v0:=Tryz.zeroValue0
 t3:=Tryz.underlying3
 a3:=Tryz.isAgg3
 z3:=Tryz.sizeOf3
 v3:=Tryz.zeroValue3
 t4:=Tryz.underlying4
 a4:=Tryz.isAgg4
 z4:=Tryz.sizeOf4
 v4:=Tryz.zeroValue4
 t22:=Tryz.underlying58
 a22:=Tryz.isAgg58
 z22:=Tryz.sizeOf58
 v22:=Tryz.zeroValue58
 i3:=by kernel_rfl }
theorem sh_slices_Compact_int (blk off cap:Nat) (zs:List Int) (w:World) (hH:Holds (Value.int .i64) w blk off zs.toArray) (hsz:zs.length≤9223372036854775807) (hcap:zs.length≤cap) :
  Calls Tryz.prog 101 #[.slice (some ⟨blk,off,none⟩) zs.length cap] w fun e w'=>e=.returned (.slice (some ⟨blk,off,none⟩) (Lib.compact zs).length cap)∧∃ q,w'=putRow (Value.int .i64) (Sort.ahead w q) blk off (Lib.compact zs++List.replicate (zs.length - (Lib.compact zs).length) 0).toArray:=Any.slices_Compact_int sh_laysNm220 blk off cap zs w hH hsz hcap
theorem fL (a:Option Addr) (cap:Nat) (w:World) :
  Calls Tryz.prog 101 #[.slice a 0 cap] w fun e w'=>e=.returned (.slice a 0 cap)∧w'=w:=Any.slices_Compact_int_empty sh_laysNm220 a cap w
theorem iV (p:Option Addr) (cap:Nat) (w:World) :
  Calls Tryz.prog 100 #[.slice p 0 cap] w fun e w'=>e=.returned (.tuple #[])∧w'=w:=Any.slices_Sort_int_none sh_lays189 p cap w
theorem sorts:Sorts Tryz.prog 100 (fun l=>l.mergeSort fun x y=>decide (x≤y)) :=
 ⟨by decide +kernel,fun l=>List.length_mergeSort l,fun blk off cap zs w h1 h2 h3=>sh_slices_Sort_int blk off cap zs w h1 h2 h3⟩
theorem compacts:Compacts Tryz.prog 101 :=
 ⟨by decide +kernel,fun blk off cap zs w h1 h2 h3=>sh_slices_Compact_int blk off cap zs w h1 h2 h3⟩
end Go.Proofs.YtdndfncpglfdeaaGreatDoor.Tp
