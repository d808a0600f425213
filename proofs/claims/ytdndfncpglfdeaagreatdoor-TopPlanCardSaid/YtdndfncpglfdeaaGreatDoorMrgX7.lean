/- PW PY: texts laid together. -/
import Derived.Test.YtdndfncpglfdeaaGreatDoorMrgX5
import Derived.Test.YtdndfncpglfdeaaGreatDoorMrgX6
import Derived.Test.YtdndfncpglfdeaaGreatDoorMrgX3
import Derived.Test.YtdndfncpglfdeaaGreatDoorMrgE6
import Derived.Test.YtdndfncpglfdeaaGreatDoorMrgS
set_option maxRecDepth 100000
set_option maxHeartbeats 64000000

namespace Go.Proofs.YtdndfncpglfdeaaGreatDoor.Tp
set_option linter.unusedVariables false
set_option linter.unusedSimpArgs false
open Go.RowKit Go.Proofs.YtdndfncpglfdeaaGreatDoor.Ev
open Go.Proofs.YtdndfncpglfdeaaGreatDoor.Cu (I LI LS gw ce)
open Go.Proofs.YtdndfncpglfdeaaGreatDoor.Ge (an aG)
variable {gl:List (Nat×List CV)}
def anyB (_:aG) (p:Int):Prop:=0≤p∧p < 16
section
variable {X Y:an} {k:Int} {T:Tr}
theorem chkany_con (hX:aJ X) (hY:aJ Y) (hk:0≤k∧k≤20) (hT:OkG k anyB (X,Y) T) (hN:(aq T).length≤127) :
  bm Tryz.prog gl 80 [fI X Y (aq T),I k,fnV 81] (I 0):=by
 have hdep:=(cC T).2
 have cF:=isFrame_con (gl:=gl) X Y hX hY
 generalize hBdd:anyB=Bd at *
 generalize hNN:aq T=N at *
 refine con_ofY Tryz.func80 rfl (by kernel_rfl) rfl ?_
 simp only [Tryz.ntmps80,Tryz.results80,am,ofC,aZ,List.map]
 repeat' (first
 | ((with_reducible apply (ah (f:=60)));exact rfl;exact rfl;exact cF;exact rfl;exact rfl)
 | ((with_reducible apply (r_in Tryz.func82 rfl Tryz.results82 (by kernel_rfl) Tryz.ntmps82));iterate 4 exact rfl)
 | ((with_reducible apply co);exact rfl)
 | ((with_reducible apply gb);exact rfl;exact rfl)
 | ((with_reducible apply awy_cond))
 | ((first|((with_reducible apply aj);iterate 4 exact rfl)|((with_reducible apply aa);exact rfl))<;>intro hg<;>(first|(exact absurd hg (by decide))|((try simp only [qz,ge_iff_le,List.cons.injEq,and_true] at hg);first|(exact absurd trivial hg)|(exfalso;omega)|(have hT:True:=hg;clear hT hg)|skip)))
 | (refine zs ?_)
 | fail
 )
 refine awy_hide fun QM hQM=>?_
 refine iv Tryz.func124 rfl Tryz.results124 (by kernel_rfl) rfl rfl ?_
 intro l rr ha hb hp hst hpe
 rw [Tryz.ntmps124]
 dsimp only
 refine awx_hide fun QQ hQQ=>?_
 have hno:gA QQ:=by
  subst hQQ;intro _ hh
  rcases hh.1 with h|h<;>cases h
 repeat' (first
 | (((with_reducible apply aF);exact rfl)<;>intro hg<;>(first|(exact absurd hg (by decide))|((try simp only [qz,ge_iff_le,List.cons.injEq,and_true] at hg);first|(exact absurd trivial hg)|(exfalso;omega)|(have hT:True:=hg;clear hT hg)|skip)))
 | (refine zs ?_)
 | fail
 )
 refine gh (G:=List fy×Nat) (fun ((O,i):List fy×Nat)=>i≤N.length∧N.drop i=dv O∧∀ x∈O,gq k Bd x) (fun ((O,i):List fy×Nat)=>N.length - i) (fun ((O,i):List fy×Nat)=>[(0,.c (.v (.func (.yield l) #[] #[]))),(1,.ptr 4 0),(2,.ptr 5 0),(4,.vec 9 O.length),(5,A i)]) (fun ((O,i):List fy×Nat)=>[(9,some (.vec 165 5 (O.flatMap plC))),(7,some (.obj (eD rr))),(6,some (.obj io)),(5,some (.cells 3 [A k])),(4,some (.cells 40 [A X.1,A X.2,A Y.1,A Y.2,.c (fY N)])),(3,some (.cells 3 [A i])),(2,some (.cells 41 [A 0])),(1,some (.cells 159 [.c (fnV 81)])),(0,some (.cells 40 [A X.1,A X.2,A Y.1,A Y.2,.c (fY N)]))]) 10 ([((X,Y),1,T)],0) ?_ [(9,8)] (by refine dw [(9,8)] rfl rfl rfl ?_ ?_<;>repeat (first|exact bQ|exact bG|refine bF rfl rfl ?_|refine bz rfl rfl rfl ?_)) ?_
 ·refine ⟨Nat.zero_le _,by rw [← hNN];simp [dv],?_⟩
  intro x hx
  rw [List.mem_singleton] at hx;subst hx
  refine ⟨hT,by show (0:Int)≤1;decide,?_,?_⟩
  ·show 1+dK T≤65;omega
  ·exact ⟨hX.1,hX.2.2,hY.1,hY.2.2⟩
 rintro ⟨O,i⟩ hI
 try dsimp only at hI
 try dsimp only
 obtain ⟨hi,hNi,hgood⟩:=hI
 rcases snoc_of O with rfl|⟨O,⟨r,lv,t⟩,rfl⟩
 ·have hiN:i=N.length:=by
   have h1:=congrArg List.length hNi
   rw [List.length_drop] at h1
   have h2:(dv []).length=0:=rfl
   omega
  subst hiN
  repeat' (first
 | (((with_reducible apply aF);exact rfl)<;>intro hg<;>(first|(exact absurd hg (by decide))|((try simp only [qz,ge_iff_le,List.cons.injEq,and_true] at hg);first|(exact absurd trivial hg)|(exfalso;omega)|(have hT:True:=hg;clear hT hg)|skip)))
 | (refine zs ?_)
 | fail
 )
  subst hQQ
  refine ⟨.inl rfl,rfl,rfl,rfl,?_⟩
  subst hQM
  try dsimp only
  repeat' (first
 | (((with_reducible apply aF);exact rfl)<;>intro hg<;>(first|(exact absurd hg (by decide))|((try simp only [qz,ge_iff_le,List.cons.injEq,and_true] at hg);first|(exact absurd trivial hg)|(exfalso;omega)|(have hT:True:=hg;clear hT hg)|skip)))
 | (refine zs ?_)
 | fail
 )
  intro D
  repeat' (first
 | ((with_reducible apply bR);exact rfl)
 | ((with_reducible apply aox_store_p);iterate 6 exact rfl)
 | (((with_reducible apply aF);exact rfl)<;>intro hg<;>(first|(exact absurd hg (by decide))|((try simp only [qz,ge_iff_le,List.cons.injEq,and_true] at hg);first|(exact absurd trivial hg)|(exfalso;omega)|(have hT:True:=hg;clear hT hg)|skip)))
 | (refine zs ?_)
 | fail
 )
  exact ⟨rfl,cL (.cell_s inferInstance rfl rfl rfl ap)⟩
 ·have hln:(O++[((r,lv,t):fy)]).length=O.length+1:=by rw [List.length_append];rfl
  have hOb:O.length+1≤127:=by
   have h1:=iW (O++[((r,lv,t):fy)])
   rw [← hNi,List.length_drop,hln] at h1;omega
  rw [hln]
  have hgx:=hgood (r,lv,t) (List.mem_append_right _ (List.mem_singleton.2 rfl))
  have hgO:∀ x∈O,gq k Bd x:=fun x hx=>hgood x (List.mem_append_left _ hx)
  have hlv0:0≤lv:=hgx.2.1
  have hlv1:lv≤64:=by
   have h1:=hgx.2.2.1
   have h2:=(cC t).1
   have h1:lv+dK t≤65:=h1
   omega
  rw [bU] at hNi
  try dsimp only at hNi
  have hget:(O++[((r,lv,t):fy)])[O.length]?=some (r,lv,t):=by simp
  have htake:(O++[((r,lv,t):fy)]).take O.length=O:=by simp
  cases t with
  | leaf n =>
   obtain ⟨hil,hni,hdi⟩:=bk hNi
   have hBd:n=(0,0)∨(n.1=1∧Bd r n.2):=hgx.1
   have hk1:N[i].1=0∧N[i].2=0∨N[i].1=1:=by
    rw [hni]
    rcases hBd with h|⟨h,_⟩
    ·rw [h];exact .inl ⟨rfl,rfl⟩
    ·exact .inr h
   rw [← hni] at hBd
   have cr:bm Tryz.prog gl 59 [I N[i].1] (BO false):=by
    have:=cX (gl:=gl) N[i].1
    rwa [show (decide (N[i].1=2) || decide (N[i].1=3))=false by rcases hk1 with ⟨h,_⟩|h<;>rw [h]<;>rfl] at this
   have cn:=node_leaf (gl:=gl) N[i] r lv (by rcases hk1 with h|h;exact .inl h;exact .inr h) hlv1
   repeat' (first
 | ((with_reducible apply (bR (id:=6)));exact rfl)
 | ((with_reducible apply (cN (k:=O.length)));exact rfl;exact rfl;exact inferInstance;exact hln;exact rfl;omega;omega;exact rfl)
 | ((with_reducible apply (cK (r:=(r,lv,Tr.leaf n))));exact rfl;exact rfl;exact inferInstance;exact hln;exact hget;iterate 3 exact rfl)
 | ((with_reducible apply (r_pop (enc:=plC) O.length));exact rfl;exact rfl;exact inferInstance;exact hln;exact rfl;omega;omega;omega;exact rfl)
 | (((with_reducible apply aF);exact rfl)<;>intro hg<;>(first|(exact absurd hg (by decide))|((try simp only [qz,ge_iff_le,List.cons.injEq,and_true] at hg);first|(exact absurd trivial hg)|(exfalso;omega)|(have hT:True:=hg;clear hT hg)|skip)))
 | (refine zs ?_)
 | fail
 )
   rw [htake]
   refine dM (l:=l) (r:=rr) (bl:=7) (nC:=67) rfl rfl (by rw [hp]<;>rfl) rfl hst hpe (by rw [hp];intro t ht;revert t;decide) (by rw [hp]<;>rfl) rfl ?_
   rw [ha,hb]
   dsimp only
   repeat' (first
 | (((with_reducible apply aF);exact rfl)<;>intro hg<;>(first|(exact absurd hg (by decide))|((try simp only [qz,ge_iff_le,List.cons.injEq,and_true] at hg);first|(exact absurd trivial hg)|(exfalso;omega)|(have hT:True:=hg;clear hT hg)|skip)))
 | (refine zs ?_)
 | fail
 )
   refine ⟨rfl,rfl,?_⟩
   dsimp only
   rcases hk1 with ⟨hz,hz2⟩|hz
   ·skip
    repeat' (first
 | ((with_reducible apply (ah (f:=123)));exact rfl;exact rfl;exact cn;exact rfl;exact rfl)
 | ((first|((with_reducible apply aF);exact rfl)|((with_reducible apply aj);iterate 4 exact rfl))<;>intro hg<;>(first|(exact absurd hg (by decide))|((try simp only [qz,ge_iff_le,List.cons.injEq,and_true] at hg);first|(exact absurd trivial hg)|(exfalso;omega)|(have hT:True:=hg;clear hT hg)|skip)))
 | (refine zs ?_)
 | fail
 )
    refine ⟨rfl,rfl,rfl,?_⟩
    dsimp only
    repeat' (first
 | ((with_reducible apply (ah (f:=59)));exact rfl;exact rfl;exact cr;exact rfl;exact rfl)
 | (((with_reducible apply aF);exact rfl)<;>intro hg<;>(first|(exact absurd hg (by decide))|((try simp only [qz,ge_iff_le,List.cons.injEq,and_true] at hg);first|(exact absurd trivial hg)|(exfalso;omega)|(have hT:True:=hg;clear hT hg)|skip)))
 | (refine zs ?_)
 | fail
 )
    refine ⟨(O,i+1),[(9,11)],?_,?_,by refine dw [(9,11)] rfl rfl rfl ?_ ?_<;>repeat (first|exact bQ|exact bG|refine bF rfl rfl ?_|refine bz rfl rfl rfl ?_)⟩
    ·show N.length - (i+1) < N.length - i;omega
    ·exact ⟨hil,hdi,hgO⟩
   ·rcases hBd with hB0|⟨_,hB⟩
    ·rw [hB0] at hz;cases hz
    have cb:=any_con (gl:=gl) r N[i].2 (by rw [← hBdd] at hB;exact hB)
    repeat' (first
 | ((with_reducible apply (ah (f:=123)));exact rfl;exact rfl;exact cn;exact rfl;exact rfl)
 | ((with_reducible apply r_callfv);(iterate 3 exact rfl);exact cb;exact rfl;exact rfl)
 | ((first|((with_reducible apply aF);exact rfl)|((with_reducible apply aj);iterate 4 exact rfl))<;>intro hg<;>(first|(exact absurd hg (by decide))|((try simp only [qz,ge_iff_le,List.cons.injEq,and_true] at hg);first|(exact absurd trivial hg)|(exfalso;omega)|(have hT:True:=hg;clear hT hg)|skip)))
 | (refine zs ?_)
 | fail
 )
    refine ⟨rfl,rfl,rfl,?_⟩
    dsimp only
    repeat' (first
 | ((with_reducible apply (ah (f:=59)));exact rfl;exact rfl;exact cr;exact rfl;exact rfl)
 | (((with_reducible apply aF);exact rfl)<;>intro hg<;>(first|(exact absurd hg (by decide))|((try simp only [qz,ge_iff_le,List.cons.injEq,and_true] at hg);first|(exact absurd trivial hg)|(exfalso;omega)|(have hT:True:=hg;clear hT hg)|skip)))
 | (refine zs ?_)
 | fail
 )
    refine ⟨(O,i+1),[(9,11)],?_,?_,by refine dw [(9,11)] rfl rfl rfl ?_ ?_<;>repeat (first|exact bQ|exact bG|refine bF rfl rfl ?_|refine bz rfl rfl rfl ?_)⟩
    ·show N.length - (i+1) < N.length - i;omega
    ·exact ⟨hil,hdi,hgO⟩
  | rip ax a s t =>
   obtain ⟨hil,hni,hdi⟩:=bk hNi
   obtain ⟨g1,g2,g3,g4,g5,g6,g7,g8⟩:=good_rip hk.1 hgx
   have hk1:N[i].1=ax:=by rw [hni]
   have hk2:N[i].2=a:=by rw [hni]
   have hz:2≤N[i].1:=by omega
   have cr:bm Tryz.prog gl 59 [I N[i].1] (BO true):=by
    have:=cX (gl:=gl) N[i].1
    rwa [show (decide (N[i].1=2) || decide (N[i].1=3))=true by rw [hk1];rcases g1 with h|h<;>rw [h]<;>rfl] at this
   have cq:=parts_con (gl:=gl) r N[i] k (by unfold aQ;omega)
   have hlf:aQ (lv+1):=by unfold aQ;omega
   have cn:=node_rip (gl:=gl) N[i] r lv (by rw [hk1];exact g1) (by omega) (by rw [hk1,hk2];exact g2) (by rw [hk1,hk2];exact g3)
   repeat' (first
 | ((with_reducible apply (bR (id:=6)));exact rfl)
 | ((with_reducible apply (cN (k:=O.length)));exact rfl;exact rfl;exact inferInstance;exact hln;exact rfl;omega;omega;exact rfl)
 | ((with_reducible apply (cK (r:=(r,lv,Tr.rip ax a s t))));exact rfl;exact rfl;exact inferInstance;exact hln;exact hget;iterate 3 exact rfl)
 | ((with_reducible apply (r_pop (enc:=plC) O.length));exact rfl;exact rfl;exact inferInstance;exact hln;exact rfl;omega;omega;omega;exact rfl)
 | (((with_reducible apply aF);exact rfl)<;>intro hg<;>(first|(exact absurd hg (by decide))|((try simp only [qz,ge_iff_le,List.cons.injEq,and_true] at hg);first|(exact absurd trivial hg)|(exfalso;omega)|(have hT:True:=hg;clear hT hg)|skip)))
 | (refine zs ?_)
 | fail
 )
   rw [htake]
   refine dM (l:=l) (r:=rr) (bl:=7) (nC:=67) rfl rfl (by rw [hp]<;>rfl) rfl hst hpe (by rw [hp];intro t ht;revert t;decide) (by rw [hp]<;>rfl) rfl ?_
   rw [ha,hb]
   dsimp only
   repeat' (first
 | (((with_reducible apply aF);exact rfl)<;>intro hg<;>(first|(exact absurd hg (by decide))|((try simp only [qz,ge_iff_le,List.cons.injEq,and_true] at hg);first|(exact absurd trivial hg)|(exfalso;omega)|(have hT:True:=hg;clear hT hg)|skip)))
 | (refine zs ?_)
 | fail
 )
   refine ⟨rfl,rfl,?_⟩
   dsimp only
   repeat' (first
 | ((with_reducible apply (ah (f:=123)));exact rfl;exact rfl;exact cn;exact rfl;exact rfl)
 | ((first|((with_reducible apply aF);exact rfl)|((with_reducible apply aj);iterate 4 exact rfl))<;>intro hg<;>(first|(exact absurd hg (by decide))|((try simp only [qz,ge_iff_le,List.cons.injEq,and_true] at hg);first|(exact absurd trivial hg)|(exfalso;omega)|(have hT:True:=hg;clear hT hg)|skip)))
 | (refine zs ?_)
 | fail
 )
   refine ⟨rfl,rfl,rfl,?_⟩
   dsimp only
   repeat' (first
 | ((with_reducible apply (ah (f:=59)));exact rfl;exact rfl;exact cr;exact rfl;exact rfl)
 | ((with_reducible apply (ah (f:=117)));exact rfl;exact rfl;exact cq;exact rfl;exact rfl)
 | ((with_reducible apply bg);iterate 7 exact rfl)
 | ((with_reducible apply (aH (enc:=plC) (l2:=[(b8 k r N[i].1 N[i].2,lv+1,t),(aV r N[i].1 N[i].2,lv+1,s)])));exact rfl;exact rfl;exact inferInstance;exact rfl;exact rfl;exact (by show _+2 < _;omega);exact (by show (_+2) * _≤_;omega);exact rfl)
 | (((with_reducible apply aF);exact rfl)<;>intro hg<;>(first|(exact absurd hg (by decide))|((try simp only [qz,ge_iff_le,List.cons.injEq,and_true] at hg);first|(exact absurd trivial hg)|(exfalso;omega)|(have hT:True:=hg;clear hT hg)|skip)))
 | (refine zs ?_)
 | fail
 )
   rw [show O.length+[(b8 k r N[i].1 N[i].2,lv+1,t),(aV r N[i].1 N[i].2,lv+1,s)].length=(O++[(b8 k r N[i].1 N[i].2,lv+1,t),(aV r N[i].1 N[i].2,lv+1,s)]).length from (List.length_append ..).symm]
   refine ⟨(O++[(b8 k r N[i].1 N[i].2,lv+1,t),(aV r N[i].1 N[i].2,lv+1,s)],i+1),[(9,11)],?_,?_,by refine dw [(9,11)] rfl rfl rfl ?_ ?_<;>repeat (first|exact bQ|exact bG|refine bF rfl rfl ?_|refine bz rfl rfl rfl ?_)⟩
   ·show N.length - (i+1) < N.length - i;omega
   ·rw [hk1,hk2]
    have e2:O++[(b8 k r ax a,lv+1,t),(aV r ax a,lv+1,s)]=(O++[((b8 k r ax a,lv+1,t):fy)])++[(aV r ax a,lv+1,s)]:=by rw [List.append_assoc];rfl
    refine ⟨hil,?_,?_⟩
    ·show N.drop (i+1)=dv (O++[(b8 k r ax a,lv+1,t),(aV r ax a,lv+1,s)])
     rw [hdi,e2,bU,bU]
     exact List.append_assoc ..
    ·show ∀ x∈O++[(b8 k r ax a,lv+1,t),(aV r ax a,lv+1,s)],gq k Bd x
     intro x hx
     rcases List.mem_append.1 hx with hx|hx
     ·exact hgO x hx
     ·simp only [List.mem_cons,List.not_mem_nil,or_false] at hx
      rcases hx with rfl|rfl
      ·exact g8
      ·exact g7
end
end Go.Proofs.YtdndfncpglfdeaaGreatDoor.Tp

namespace Go.Proofs.YtdndfncpglfdeaaGreatDoor.Tp
set_option linter.unusedVariables false
set_option linter.unusedSimpArgs false
open Go.RowKit Go.Proofs.YtdndfncpglfdeaaGreatDoor.Ev
open Go.Proofs.YtdndfncpglfdeaaGreatDoor.Cu (I LI LS gw ce)
open Go.Proofs.YtdndfncpglfdeaaGreatDoor.Ge (an aG Slc Dfc dfC LL LD fz cZ pos aw aX inS cI bH)
variable {gl:List (Nat×List CV)}
theorem box_con (r:aG) (z:an):bm Tryz.prog gl 42 [dx r,.agg [I z.1,I z.2]] (.agg [I r.1.1,I r.1.2,I r.2.1,I r.2.2,I z.1,I z.2]):=by
 refine ao Tryz.func42 rfl (by kernel_rfl) rfl ?_
 simp only [Tryz.ntmps42,Tryz.results42,am,ofC,aZ,List.map]
 repeat' (first
 | (refine zs ?_)
 | fail
 )
 all_goals exact cL (.cell_a inferInstance rfl rfl rfl rfl (al ap (al ap (al ap (al ap (al ap (al ap bj)))))))
theorem ycheck_con {l:List Slc} {d:List Dfc} {c:List Pr} {s:Sw} {r:Rt} (h:Hy l d c s r) {X Y:an} {T:Tr} (hX:aJ X) (hY:aJ Y) (hT:OkG s.kerf (szB c) (X,Y) T) (hN:(aq T).length≤127) :
  bm Tryz.prog gl 38 [LL l,LD d,fj c,fI X Y (aq T),swC s,rtC r] (I 0):=by
 have c1:=Ge.eX (gl:=gl) l h.ln
 have c2:=Ge.iP (gl:=gl) d (Nat.le_trans h.dn (by decide))
 have c3:=fc (gl:=gl) c
 have c4:=wcheck_con (gl:=gl) s r
 have c5:=patcheck_con (gl:=gl) h.pro hX hY ⟨h.sw.1,h.sw.2.1⟩ hT hN
 rw [h.sol] at c1
 rw [h.def'] at c2
 rw [h.pro] at c3
 rw [go.2 ⟨h.sw,h.rt⟩] at c4
 generalize aq T=N at *
 refine ao Tryz.func38 rfl (by kernel_rfl) rfl ?_
 simp only [Tryz.ntmps38,Tryz.results38,am,ofC,aZ,List.map,swL,rtL]
 repeat' (first
 | ((with_reducible apply (ah (f:=48)));exact rfl;exact rfl;exact c1;exact rfl;exact rfl)
 | ((with_reducible apply (ah (f:=49)));exact rfl;exact rfl;exact c2;exact rfl;exact rfl)
 | ((with_reducible apply (ah (f:=50)));exact rfl;exact rfl;exact c3;exact rfl;exact rfl)
 | ((with_reducible apply (ah (f:=51)));exact rfl;exact rfl;exact c4;exact rfl;exact rfl)
 | ((with_reducible apply (ah (f:=79)));exact rfl;exact rfl;exact c5;exact rfl;exact rfl)
 | (((with_reducible apply aa);exact rfl)<;>intro hg<;>(first|(exact absurd hg (by decide))|((try simp only [qz,ge_iff_le,List.cons.injEq,and_true] at hg);first|(exact absurd trivial hg)|(exfalso;omega)|(have hT:True:=hg;clear hT hg)|skip)))
 | (refine zs ?_)
 | fail
 )
 all_goals exact aB rfl rfl
abbrev Yc:=Int×Int×aG×an×Int
def ycC (x:Yc):List CV:=[I x.1,I x.2.1,I x.2.2.1.1.1,I x.2.2.1.1.2,I x.2.2.1.2.1,I x.2.2.1.2.2,I x.2.2.2.1.1,I x.2.2.2.1.2,I x.2.2.2.2]
instance:EncL ycC 9:=⟨fun _=>rfl,by decide,fun _=>rfl⟩
abbrev LYc (l:List Yc):CV:=.lst 9 (l.flatMap ycC)
noncomputable def bd1 (l:List Slc) (d:List Dfc) (c:List Pr) (s:Sw) (fine:Int) (i:Int) (x:aG×Int):List Yc :=
 if x.2=-1 then [] else if (wbS l d (fF c x.2.toNat) x.1.1 x.1.2 s.step fine).2.2=true then [(i,x.2,x.1,(wbS l d (fF c x.2.toNat) x.1.1 x.1.2 s.step fine).1,(wbS l d (fF c x.2.toNat) x.1.1 x.1.2 s.step fine).2.1)] else []
noncomputable def bdN (l:List Slc) (d:List Dfc) (c:List Pr) (s:Sw) (fine:Int) (lv:List (aG×Int)):Nat→List Yc
 | 0=>[]
 | i+1=>bdN l d c s fine lv i++(match lv[i]? with|some x=>bd1 l d c s fine i x|none=>[])
theorem bd1_le {l:List Slc} {d:List Dfc} {c:List Pr} {s:Sw} {fine i:Int} {x:aG×Int}:(bd1 l d c s fine i x).length≤1:=by
 unfold bd1;split
 ·simp
 ·split<;>simp
theorem bdN_le {l:List Slc} {d:List Dfc} {c:List Pr} {s:Sw} {fine:Int} {lv:List (aG×Int)}:∀ n,(bdN l d c s fine lv n).length≤n
 | 0=>by simp [bdN]
 | n+1=>by
  have:=bdN_le (l:=l) (d:=d) (c:=c) (s:=s) (fine:=fine) (lv:=lv) n
  rw [bdN,List.length_append]
  cases lv[n]? with
  | none=>simp;omega
  | some x =>
   have:=bd1_le (l:=l) (d:=d) (c:=c) (s:=s) (fine:=fine) (i:=n) (x:=x)
   simp only;omega
def leafOk (c:List Pr) (x:aG×Int):Prop:=x.2=-1∨(szB c x.1 x.2∧Rb x.1)
theorem leaves_ok {c:List Pr} {k:Int} (hk:0≤k):∀ (t:Tr) (r:aG),OkG k (szB c) r t→Rb r→∀ x∈aC k r t,leafOk c x
 | .leaf n,r,h,hr,x,hx=>by
  simp only [aC,List.mem_singleton] at hx
  subst hx
  rcases h with rfl|⟨h1,h2⟩
  ·exact .inl rfl
  ·refine .inr ⟨?_,hr⟩
   dsimp only
   rw [if_neg (by omega)];exact h2
 | .rip ax a s t,r,⟨h1,h2,h3,h4,h5⟩,hr,x,hx=>by
  obtain ⟨r1,r2,r3,r4⟩:=hr
  have hb:-600≤(aD r ax).1∧(aD r ax).2≤600:=by unfold aD;split<;>omega
  simp only [aC,List.mem_append] at hx
  rcases hx with hx|hx
  ·refine leaves_ok hk s _ h4 ?_ x hx
   unfold aV bK;split
   ·exact ⟨by dsimp only;omega,by dsimp only;omega,by dsimp only;omega,by dsimp only;omega⟩
   ·exact ⟨by dsimp only;omega,by dsimp only;omega,by dsimp only;omega,by dsimp only;omega⟩
  ·refine leaves_ok hk t _ h5 ?_ x hx
   unfold b8 bK;split
   ·exact ⟨by dsimp only;omega,by dsimp only;omega,by dsimp only;omega,by dsimp only;omega⟩
   ·exact ⟨by dsimp only;omega,by dsimp only;omega,by dsimp only;omega,by dsimp only;omega⟩
theorem leaf_wq {l:List Slc} {d:List Dfc} {c:List Pr} {s:Sw} {r:Rt} (h:Hy l d c s r) {x:aG×Int} (hx:leafOk c x) (hn:x.2≠-1):∃ hc:x.2.toNat < c.length,0≤x.2∧Wq l d c[x.2.toNat] x.1.1 x.1.2:=by
 rcases hx with hx|⟨⟨b1,b2,b3⟩,r1,r2,r3,r4⟩
 ·exact absurd hx hn
 have hc:x.2.toNat < c.length:=by omega
 have hgs:=(prE_V h.pro hc).gs
 have hw:=h.wq hc (X:=x.1.1) (Y:=x.1.2) ⟨r1,by omega,r2⟩ ⟨r3,by omega,r4⟩ b3
 rw [fB hc] at hw
 exact ⟨hc,b1,hw⟩
theorem hy_fine {l:List Slc} {d:List Dfc} {c:List Pr} {s:Sw} {r:Rt} (h:Hy l d c s r):Hy l d c s ⟨0,0,r.fine⟩ :=
 ⟨h.sol,h.def',h.pro,h.sw,⟨by show (0:Int)≤0;decide,by show (0:Int)≤1000;decide,by show (0:Int)≤0;decide,by show (0:Int)≤1000;decide,h.rt.2.2.2.2.1,h.rt.2.2.2.2.2⟩⟩
theorem boards_con {l:List Slc} {d:List Dfc} {c:List Pr} {s:Sw} {fine:Int} (h:Hy l d c s ⟨0,0,fine⟩) {X Y:an} {T:Tr} (hX:aJ X) (hY:aJ Y) (hT:OkG s.kerf (szB c) (X,Y) T) (hN:(aq T).length≤127) :
  bm Tryz.prog gl 11 [LL l,LD d,fj c,fI X Y (aq T),swC s,I fine] (.tup [LYc (bdN l d c s fine (aC s.kerf (X,Y) T) (aC s.kerf (X,Y) T).length),I 0]):=by
 have c1:=ycheck_con (gl:=gl) h hX hY hT hN
 have hk:0≤s.kerf∧s.kerf≤20:=⟨h.sw.1,h.sw.2.1⟩
 have hany:∀ (t:Tr) (r:aG),OkG s.kerf (szB c) r t→OkG s.kerf anyB r t:=by
  intro t
  induction t with
  | leaf n =>
   intro r hr
   rcases hr with h1|⟨h1,h2,h3,_⟩
   ·exact .inl h1
   ·have:=cU h.pro
    exact .inr ⟨h1,h2,by omega⟩
  | rip ax a s t ih1 ih2 =>
   intro r hr
   exact ⟨hr.1,hr.2.1,hr.2.2.1,ih1 _ hr.2.2.2.1,ih2 _ hr.2.2.2.2⟩
 have c0:=chkany_con (gl:=gl) hX hY hk (hany T _ hT) hN
 have c2:=leaves_con (gl:=gl) hX hY hk (hany T _ hT) hN c0
 have hlo:=leaves_ok hk.1 T (X,Y) hT ⟨hX.1,hX.2.2,hY.1,hY.2.2⟩
 have hll:=fa s.kerf T (X,Y)
 obtain ⟨s1,s2,s3,s4,s5,s6,s7,s8⟩:=h.sw
 obtain ⟨r1,r2,r3,r4,r5,r6⟩:=h.rt
 dsimp only at r5 r6
 have hwb:∀ x,leafOk c x→x.2≠-1→_:=fun x=>leaf_wq (x:=x) h
 have hbl:=fun n=>bdN_le (l:=l) (d:=d) (c:=c) (s:=s) (fine:=fine) (lv:=aC s.kerf (X,Y) T) n
 have hbs:=fun n (hn:n < (aC s.kerf (X,Y) T).length)=>(show bdN l d c s fine (aC s.kerf (X,Y) T) (n+1)=bdN l d c s fine (aC s.kerf (X,Y) T) n++bd1 l d c s fine n (aC s.kerf (X,Y) T)[n] by rw [bdN,List.getElem?_eq_getElem hn])
 generalize aC s.kerf (X,Y) T=LV at *
 generalize aq T=N at *
 refine con_ofY Tryz.func11 rfl (by kernel_rfl) rfl ?_
 simp only [Tryz.ntmps11,Tryz.results11,am,ofC,aZ,List.map,swL]
 repeat' (first
 | ((with_reducible apply (ah (f:=38)));exact rfl;exact rfl;exact c1;exact rfl;exact rfl)
 | ((with_reducible apply (ah (f:=39)));exact rfl;exact rfl;exact c2;exact rfl;exact rfl)
 | (refine bO 6 0 118 9 rfl rfl rfl rfl ?_)
 | ((with_reducible apply (r_in Tryz.func40 rfl Tryz.results40 (by kernel_rfl) Tryz.ntmps40));iterate 4 exact rfl)
 | ((with_reducible apply co);exact rfl)
 | ((with_reducible apply gb);exact rfl;exact rfl)
 | ((with_reducible apply awy_cond))
 | (((with_reducible apply aa);exact rfl)<;>intro hg<;>(first|(exact absurd hg (by decide))|((try simp only [qz,ge_iff_le,List.cons.injEq,and_true] at hg);first|(exact absurd trivial hg)|(exfalso;omega)|(have hT:True:=hg;clear hT hg)|skip)))
 | (refine zs ?_)
 | fail
 )
 refine awy_hide fun QM hQM=>?_
 refine iv Tryz.func83 rfl Tryz.results83 (by kernel_rfl) rfl rfl ?_
 intro lp rr ha hb hp hst hpe
 rw [Tryz.ntmps83]
 dsimp only
 refine awx_hide fun QQ hQQ=>?_
 have hno:gA QQ:=by
  subst hQQ;intro _ hh
  rcases hh.1 with h|h<;>cases h
 repeat' (first
 | (((with_reducible apply aF);exact rfl)<;>intro hg<;>(first|(exact absurd hg (by decide))|((try simp only [qz,ge_iff_le,List.cons.injEq,and_true] at hg);first|(exact absurd trivial hg)|(exfalso;omega)|(have hT:True:=hg;clear hT hg)|skip)))
 | (refine zs ?_)
 | fail
 )
 refine gh (G:=Nat) (fun (j:Nat)=>j≤LV.length) (fun (j:Nat)=>LV.length - j) (fun (j:Nat)=>[(0,.c (.v (.func (.yield lp) #[] #[]))),(1,.ptr 8 0),(5,.c (LLf LV)),(6,A LV.length),(7,A j)]) (fun (j:Nat)=>[(10,some (.obj (eD rr))),(9,some (.obj io)),(8,some (.cells 100 [.c (LLf LV)])),(7,some (.vec 118 9 ((bdN l d c s fine LV j).flatMap ycC))),(6,some (.cells 50 [.vec 7 (bdN l d c s fine LV j).length])),(5,some (.cells 3 [A fine])),(4,some (.cells 26 [A s.kerf,A s.trim,A s.pitch,A s.step])),(3,some (.cells 40 [A X.1,A X.2,A Y.1,A Y.2,.c (fY N)])),(2,some (.cells 24 [.c (fj c)])),(1,some (.cells 23 [.c (LD d)])),(0,some (.cells 22 [.c (LL l)]))]) 11 0 ?_ [] (by refine dw [] rfl rfl rfl ?_ ?_<;>repeat (first|exact bQ|exact bG|refine bF rfl rfl ?_|refine bz rfl rfl rfl ?_)) ?_
 ·exact Nat.zero_le _
 rintro j hI
 try dsimp only at hI
 try dsimp only
 have hbj:=hbl j
 by_cases hj:j < LV.length
 ·have hlj:=hlo LV[j] (List.getElem_mem hj)
  have hsj:=hbs j hj
  unfold bd1 at hsj
  by_cases hz:LV[j].2=-1
  ·rw [if_pos hz,List.append_nil] at hsj
   repeat' (first
 | ((first|((with_reducible apply aF);exact rfl)|((with_reducible apply aj);iterate 4 exact rfl))<;>intro hg<;>(first|(exact absurd hg (by decide))|((try simp only [qz,ge_iff_le,List.cons.injEq,and_true] at hg);first|(exact absurd trivial hg)|(exfalso;omega)|(have hT:True:=hg;clear hT hg)|skip)))
 | (refine zs ?_)
 | fail
 )
   rw [← hsj]
   refine ⟨j+1,[],?_,?_,by refine dw [] rfl rfl rfl ?_ ?_<;>repeat (first|exact bQ|exact bG|refine bF rfl rfl ?_|refine bz rfl rfl rfl ?_)⟩
   ·show LV.length - (j+1) < LV.length - j;omega
   ·show j+1≤LV.length;omega
  ·rw [if_neg hz] at hsj
   obtain ⟨hc,hp0,hwq⟩:=hwb LV[j] hlj hz
   have cw:=wbest_con (gl:=gl) hwq s.step fine ⟨s7,s8⟩ ⟨r5,r6⟩
   have hprd:fF c LV[j].2.toNat=c[LV[j].2.toNat]:=fB hc
   rw [hprd] at hsj
   have cx:=box_con (gl:=gl) LV[j].1 (wbS l d c[LV[j].2.toNat] LV[j].1.1 LV[j].1.2 s.step fine).1
   generalize wbS l d c[LV[j].2.toNat] LV[j].1.1 LV[j].1.2 s.step fine=w at *
   repeat' (first
 | ((with_reducible apply (bR (id:=3)));exact rfl)
 | (((with_reducible apply aF);exact rfl)<;>intro hg<;>(first|(exact absurd hg (by decide))|((try simp only [qz,ge_iff_le,List.cons.injEq,and_true] at hg);first|(exact absurd trivial hg)|(exfalso;omega)|(have hT:True:=hg;clear hT hg)|skip)))
 | (refine zs ?_)
 | fail
 )
   rw [show (!decide (LV[j].2=-1))=true by simp [hz]]
   repeat' (first
 | (((with_reducible apply aF);exact rfl)<;>intro hg<;>(first|(exact absurd hg (by decide))|((try simp only [qz,ge_iff_le,List.cons.injEq,and_true] at hg);first|(exact absurd trivial hg)|(exfalso;omega)|(have hT:True:=hg;clear hT hg)|skip)))
 | (refine zs ?_)
 | fail
 )
   refine dM (l:=lp) (r:=rr) (bl:=10) (nC:=79) rfl rfl (by rw [hp]<;>rfl) rfl hst hpe (by rw [hp];intro t ht;revert t;decide) (by rw [hp]<;>rfl) rfl ?_
   rw [ha,hb]
   dsimp only
   repeat' (first
 | (((with_reducible apply aF);exact rfl)<;>intro hg<;>(first|(exact absurd hg (by decide))|((try simp only [qz,ge_iff_le,List.cons.injEq,and_true] at hg);first|(exact absurd trivial hg)|(exfalso;omega)|(have hT:True:=hg;clear hT hg)|skip)))
 | (refine zs ?_)
 | fail
 )
   refine ⟨rfl,rfl,?_⟩
   dsimp only
   cases hw:w.2.2 with
   | false =>
    rw [hw] at cw hsj
    rw [if_neg (by decide),List.append_nil] at hsj
    repeat' (first
 | (refine awx_drawV (id:=11) rfl ?_ [13] [0,1,2,3,4,5,6,7,8,9,10,11,12,13,14] [15,16] 4 _ ?_ rfl rfl ?_;((repeat (first|(with_reducible apply no_thn)|(with_reducible apply no_inb)));(first|assumption|(intro _ hh;first|exact hh.elim|(exact absurd hh.1 (by decide))|(rcases hh.1 with h|h<;>cases h)|(cases hh.1))));(decide +kernel);(simp only [pk,List.drop_succ_cons,List.drop_zero,List.map_cons,List.map_nil,List.cons_append,List.nil_append]))
 | ((with_reducible apply ig))
 | ((with_reducible apply gT))
 | ((with_reducible apply ds_nilV))
 | ((with_reducible apply d4_nil);(decide +kernel))
 | (first|(refine ay [17] (by decide +kernel) rfl ?_)|(refine ay [18] (by decide +kernel) rfl ?_)|(refine ay [19] (by decide +kernel) rfl ?_)|(refine ay [20] (by decide +kernel) rfl ?_)|(refine ay [17,18] (by decide +kernel) rfl ?_)|(refine ay [17,19] (by decide +kernel) rfl ?_)|(refine ay [17,20] (by decide +kernel) rfl ?_)|(refine ay [18,19] (by decide +kernel) rfl ?_)|(refine ay [18,20] (by decide +kernel) rfl ?_)|(refine ay [19,20] (by decide +kernel) rfl ?_)|(refine ay [17,18,19] (by decide +kernel) rfl ?_)|(refine ay [17,18,20] (by decide +kernel) rfl ?_)|(refine ay [17,19,20] (by decide +kernel) rfl ?_)|(refine ay [18,19,20] (by decide +kernel) rfl ?_))
 | ((with_reducible refine List.forall_mem_cons.2 ⟨?_,?_⟩))
 | ((with_reducible exact d4_none))
 | ((with_reducible apply d4_a);exact rfl;exact inferInstance;exact rfl)
 | ((with_reducible apply d4_pa);exact rfl;exact inferInstance;iterate 8 exact rfl)
 | ((with_reducible apply d4_p);exact rfl;exact inferInstance;iterate 8 exact rfl)
 | ((with_reducible apply d4_q);exact rfl;(simp only [pk,List.drop_succ_cons,List.drop_zero]))
 | ((with_reducible apply (ah (f:=41)));exact rfl;exact rfl;exact cw;exact rfl;exact rfl)
 | (((with_reducible apply aF);exact rfl)<;>intro hg<;>(first|(exact absurd hg (by decide))|((try simp only [qz,ge_iff_le,List.cons.injEq,and_true] at hg);first|(exact absurd trivial hg)|(exfalso;omega)|(have hT:True:=hg;clear hT hg)|skip)))
 | (refine zs ?_)
 | fail
 )
    refine ⟨rfl,rfl,rfl,?_⟩
    dsimp only
    repeat' (first
 | (((with_reducible apply aF);exact rfl)<;>intro hg<;>(first|(exact absurd hg (by decide))|((try simp only [qz,ge_iff_le,List.cons.injEq,and_true] at hg);first|(exact absurd trivial hg)|(exfalso;omega)|(have hT:True:=hg;clear hT hg)|skip)))
 | (refine zs ?_)
 | fail
 )
    rw [← hsj]
    refine ⟨j+1,[],?_,?_,by refine dw [] rfl rfl rfl ?_ ?_<;>repeat (first|exact bQ|exact bG|refine bF rfl rfl ?_|refine bz rfl rfl rfl ?_)⟩
    ·show LV.length - (j+1) < LV.length - j;omega
    ·show j+1≤LV.length;omega
   | true =>
    rw [hw,if_pos rfl] at hsj
    rw [hw] at cw
    repeat' (first
 | (refine awx_drawV (id:=11) rfl ?_ [13] [0,1,2,3,4,5,6,7,8,9,10,11,12,13,14] [15,16] 4 _ ?_ rfl rfl ?_;((repeat (first|(with_reducible apply no_thn)|(with_reducible apply no_inb)));(first|assumption|(intro _ hh;first|exact hh.elim|(exact absurd hh.1 (by decide))|(rcases hh.1 with h|h<;>cases h)|(cases hh.1))));(decide +kernel);(simp only [pk,List.drop_succ_cons,List.drop_zero,List.map_cons,List.map_nil,List.cons_append,List.nil_append]))
 | ((with_reducible apply ig))
 | ((with_reducible apply gT))
 | ((with_reducible apply ds_nilV))
 | ((with_reducible apply d4_nil);(decide +kernel))
 | (first|(refine ay [17] (by decide +kernel) rfl ?_)|(refine ay [18] (by decide +kernel) rfl ?_)|(refine ay [19] (by decide +kernel) rfl ?_)|(refine ay [20] (by decide +kernel) rfl ?_)|(refine ay [17,18] (by decide +kernel) rfl ?_)|(refine ay [17,19] (by decide +kernel) rfl ?_)|(refine ay [17,20] (by decide +kernel) rfl ?_)|(refine ay [18,19] (by decide +kernel) rfl ?_)|(refine ay [18,20] (by decide +kernel) rfl ?_)|(refine ay [19,20] (by decide +kernel) rfl ?_)|(refine ay [17,18,19] (by decide +kernel) rfl ?_)|(refine ay [17,18,20] (by decide +kernel) rfl ?_)|(refine ay [17,19,20] (by decide +kernel) rfl ?_)|(refine ay [18,19,20] (by decide +kernel) rfl ?_))
 | ((with_reducible refine List.forall_mem_cons.2 ⟨?_,?_⟩))
 | ((with_reducible exact d4_none))
 | ((with_reducible apply d4_a);exact rfl;exact inferInstance;exact rfl)
 | ((with_reducible apply d4_pa);exact rfl;exact inferInstance;iterate 8 exact rfl)
 | ((with_reducible apply d4_p);exact rfl;exact inferInstance;iterate 8 exact rfl)
 | ((with_reducible apply d4_q);exact rfl;(simp only [pk,List.drop_succ_cons,List.drop_zero]))
 | (refine awx_drawt (id:=13) rfl ?_ 11 ?_ ?_;((repeat (first|(with_reducible apply no_thn)|(with_reducible apply no_inb)));(first|assumption|(intro _ hh;first|exact hh.elim|(exact absurd hh.1 (by decide))|(rcases hh.1 with h|h<;>cases h)|(cases hh.1))));(kernel_rfl);(simp only [List.take_succ_cons,List.take_zero,List.drop_succ_cons,List.drop_zero]))
 | ((with_reducible apply (ah (f:=41)));exact rfl;exact rfl;exact cw;exact rfl;exact rfl)
 | ((with_reducible apply (ah (f:=42)));exact rfl;exact rfl;exact cx;exact rfl;exact rfl)
 | ((with_reducible apply bg);iterate 7 exact rfl)
 | ((with_reducible apply (aH (enc:=ycC) (l2:=[((j:Int),LV[j].2,LV[j].1,w.1,w.2.1)])));exact rfl;exact rfl;exact inferInstance;exact rfl;exact rfl;exact (by show _+1 < _;omega);exact (by show (_+1) * _≤_;omega);exact rfl)
 | (((with_reducible apply aF);exact rfl)<;>intro hg<;>(first|(exact absurd hg (by decide))|((try simp only [qz,ge_iff_le,List.cons.injEq,and_true] at hg);first|(exact absurd trivial hg)|(exfalso;omega)|(have hT:True:=hg;clear hT hg)|skip)))
 | (refine zs ?_)
 | fail
 )
    refine ⟨rfl,rfl,rfl,?_⟩
    dsimp only
    repeat' (first
 | (((with_reducible apply aF);exact rfl)<;>intro hg<;>(first|(exact absurd hg (by decide))|((try simp only [qz,ge_iff_le,List.cons.injEq,and_true] at hg);first|(exact absurd trivial hg)|(exfalso;omega)|(have hT:True:=hg;clear hT hg)|skip)))
 | (refine zs ?_)
 | fail
 )
    rw [show (bdN l d c s fine LV j).length+[((j:Int),LV[j].2,LV[j].1,w.1,w.2.1)].length=(bdN l d c s fine LV j++[((j:Int),LV[j].2,LV[j].1,w.1,w.2.1)]).length from (List.length_append ..).symm,← hsj]
    refine ⟨j+1,[],?_,?_,by refine dw [] rfl rfl rfl ?_ ?_<;>repeat (first|exact bQ|exact bG|refine bF rfl rfl ?_|refine bz rfl rfl rfl ?_)⟩
    ·show LV.length - (j+1) < LV.length - j;omega
    ·show j+1≤LV.length;omega
 ·obtain rfl:j=LV.length:=by omega
  repeat' (first
 | (((with_reducible apply aF);exact rfl)<;>intro hg<;>(first|(exact absurd hg (by decide))|((try simp only [qz,ge_iff_le,List.cons.injEq,and_true] at hg);first|(exact absurd trivial hg)|(exfalso;omega)|(have hT:True:=hg;clear hT hg)|skip)))
 | (refine zs ?_)
 | fail
 )
  subst hQQ
  refine ⟨.inl rfl,rfl,rfl,rfl,?_⟩
  subst hQM
  try dsimp only
  repeat' (first
 | (((with_reducible apply aF);exact rfl)<;>intro hg<;>(first|(exact absurd hg (by decide))|((try simp only [qz,ge_iff_le,List.cons.injEq,and_true] at hg);first|(exact absurd trivial hg)|(exfalso;omega)|(have hT:True:=hg;clear hT hg)|skip)))
 | (refine zs ?_)
 | fail
 )
  intro D
  repeat' (first
 | ((with_reducible apply bR);exact rfl)
 | (((with_reducible apply aF);exact rfl)<;>intro hg<;>(first|(exact absurd hg (by decide))|((try simp only [qz,ge_iff_le,List.cons.injEq,and_true] at hg);first|(exact absurd trivial hg)|(exfalso;omega)|(have hT:True:=hg;clear hT hg)|skip)))
 | (refine zs ?_)
 | fail
 )
  exact ⟨rfl,bJ (.cons (.tmp rfl (bx rfl (av EncL.len _))) (.cons (.tmp rfl ap) .nil))⟩
end Go.Proofs.YtdndfncpglfdeaaGreatDoor.Tp
