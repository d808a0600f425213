/- PX PV: texts laid together. -/
import Derived.Test.YtdndfncpglfdeaaGreatDoorMrgX5
import Derived.Test.YtdndfncpglfdeaaGreatDoorMrgS
set_option maxRecDepth 100000
set_option maxHeartbeats 64000000

namespace Go.Proofs.YtdndfncpglfdeaaGreatDoor.Tp
set_option linter.unusedVariables false
set_option linter.unusedSimpArgs false
open Go.RowKit Go.Proofs.YtdndfncpglfdeaaGreatDoor.Ev
open Go.Proofs.YtdndfncpglfdeaaGreatDoor.Cu (I LI LS gw ce)
open Go.Proofs.YtdndfncpglfdeaaGreatDoor.Ge (an aG)
variable {gl:List (Nat×List CV)}
def szB (c:List Pr) (r:aG) (p:Int):Prop:=0≤p∧p < c.length∧((r.1.2 - r.1.1=(aW (fF c p.toNat)).1∧r.2.2 - r.2.1=(aW (fF c p.toNat)).2)∨(r.1.2 - r.1.1=(aW (fF c p.toNat)).2∧r.2.2 - r.2.1=(aW (fF c p.toNat)).1))
section
variable {X Y:an} {k:Int} {T:Tr} {c:List Pr}
theorem patcheck_con (hc:prE c=0) (hX:aJ X) (hY:aJ Y) (hk:0≤k∧k≤20) (hT:OkG k (szB c) (X,Y) T) (hN:(aq T).length≤127) :
  bm Tryz.prog gl 79 [fI X Y (aq T),fj c,I k] (I 0):=by
 have hdep:=(cC T).2
 have cF:=isFrame_con (gl:=gl) X Y hX hY
 have hcl:=cU hc
 generalize hBdd:szB c=Bd at *
 generalize hNN:aq T=N at *
 refine ao Tryz.func79 rfl (by kernel_rfl) rfl ?_
 simp only [Tryz.ntmps79,Tryz.results79,am,ofC,aZ,List.map]
 repeat' (first
 | ((with_reducible apply gb);exact rfl;exact rfl)
 | ((with_reducible apply (r_inYC Tryz.func80 rfl Tryz.results80 inferInstance (by kernel_rfl) Tryz.ntmps80));iterate 4 exact rfl)
 | (refine zs ?_)
 | fail
 )
 repeat' (first
 | ((with_reducible apply (ah (f:=60)));exact rfl;exact rfl;exact cF;exact rfl;exact rfl)
 | ((with_reducible apply (r_in Tryz.func82 rfl Tryz.results82 (by kernel_rfl) Tryz.ntmps82));iterate 4 exact rfl)
 | ((with_reducible apply co);exact rfl)
 | ((with_reducible apply gb);exact rfl;exact rfl)
 | ((with_reducible apply awy_cond))
 | ((first|((with_reducible apply aj);iterate 4 exact rfl)|((with_reducible apply aa);exact rfl))<;>intro hg<;>(first|(exact absurd hg (by decide))|((try simp only [qz,ge_iff_le,List.cons.injEq,and_true] at hg);first|(exact absurd trivial hg)|(exfalso;omega)|(have hT:True:=hg;clear hT hg)|skip)))
 | (refine zs ?_)
 | fail
 )
 refine awy_hide fun QM hQM=>?_
 refine iv Tryz.func124 rfl Tryz.results124 (by kernel_rfl) rfl rfl ?_
 intro l rr ha hb hp hst hpe
 rw [Tryz.ntmps124]
 dsimp only
 refine awx_hide fun QQ hQQ=>?_
 have hno:gA QQ:=by
  subst hQQ;intro _ hh
  rcases hh.1 with h|h<;>cases h
 repeat' (first
 | (((with_reducible apply aF);exact rfl)<;>intro hg<;>(first|(exact absurd hg (by decide))|((try simp only [qz,ge_iff_le,List.cons.injEq,and_true] at hg);first|(exact absurd trivial hg)|(exfalso;omega)|(have hT:True:=hg;clear hT hg)|skip)))
 | (refine zs ?_)
 | fail
 )
 refine gh (G:=List fy×Nat) (fun ((O,i):List fy×Nat)=>i≤N.length∧N.drop i=dv O∧∀ x∈O,gq k Bd x) (fun ((O,i):List fy×Nat)=>N.length - i) (fun ((O,i):List fy×Nat)=>[(0,.c (.v (.func (.yield l) #[] #[]))),(1,.ptr 6 0),(2,.ptr 7 0),(4,.vec 11 O.length),(5,A i)]) (fun ((O,i):List fy×Nat)=>[(11,some (.vec 165 5 (O.flatMap plC))),(9,some (.obj (eD rr))),(8,some (.obj io)),(7,some (.cells 3 [A k])),(6,some (.cells 40 [A X.1,A X.2,A Y.1,A Y.2,.c (fY N)])),(5,some (.cells 3 [A i])),(4,some (.cells 41 [A 0])),(3,some (.cells 159 [.fn 122 [.ptr 1 0]])),(2,some (.cells 40 [A X.1,A X.2,A Y.1,A Y.2,.c (fY N)])),(1,some (.cells 24 [.c (fj c)])),(0,some (.cells 40 [A X.1,A X.2,A Y.1,A Y.2,.c (fY N)]))]) 12 ([((X,Y),1,T)],0) ?_ [(11,10)] (by refine dw [(11,10)] rfl rfl rfl ?_ ?_<;>repeat (first|exact bQ|exact bG|refine bF rfl rfl ?_|refine bz rfl rfl rfl ?_)) ?_
 ·refine ⟨Nat.zero_le _,by rw [← hNN];simp [dv],?_⟩
  intro x hx
  rw [List.mem_singleton] at hx;subst hx
  refine ⟨hT,by show (0:Int)≤1;decide,?_,?_⟩
  ·show 1+dK T≤65;omega
  ·exact ⟨hX.1,hX.2.2,hY.1,hY.2.2⟩
 rintro ⟨O,i⟩ hI
 try dsimp only at hI
 try dsimp only
 obtain ⟨hi,hNi,hgood⟩:=hI
 rcases snoc_of O with rfl|⟨O,⟨r,lv,t⟩,rfl⟩
 ·have hiN:i=N.length:=by
   have h1:=congrArg List.length hNi
   rw [List.length_drop] at h1
   have h2:(dv []).length=0:=rfl
   omega
  subst hiN
  repeat' (first
 | (((with_reducible apply aF);exact rfl)<;>intro hg<;>(first|(exact absurd hg (by decide))|((try simp only [qz,ge_iff_le,List.cons.injEq,and_true] at hg);first|(exact absurd trivial hg)|(exfalso;omega)|(have hT:True:=hg;clear hT hg)|skip)))
 | (refine zs ?_)
 | fail
 )
  subst hQQ
  refine ⟨.inl rfl,rfl,rfl,rfl,?_⟩
  subst hQM
  try dsimp only
  repeat' (first
 | (((with_reducible apply aF);exact rfl)<;>intro hg<;>(first|(exact absurd hg (by decide))|((try simp only [qz,ge_iff_le,List.cons.injEq,and_true] at hg);first|(exact absurd trivial hg)|(exfalso;omega)|(have hT:True:=hg;clear hT hg)|skip)))
 | (refine zs ?_)
 | fail
 )
  intro D
  repeat' (first
 | ((with_reducible apply bR);exact rfl)
 | ((with_reducible apply aox_store_p);iterate 6 exact rfl)
 | (((with_reducible apply aF);exact rfl)<;>intro hg<;>(first|(exact absurd hg (by decide))|((try simp only [qz,ge_iff_le,List.cons.injEq,and_true] at hg);first|(exact absurd trivial hg)|(exfalso;omega)|(have hT:True:=hg;clear hT hg)|skip)))
 | (refine zs ?_)
 | fail
 )
  refine ⟨.inr rfl,rfl,rfl,4,0,_,_,_,rfl,rfl,rfl,?_⟩
  repeat' (first
 | (refine zs ?_)
 | fail
 )
  all_goals exact aB rfl rfl
 ·have hln:(O++[((r,lv,t):fy)]).length=O.length+1:=by rw [List.length_append];rfl
  have hOb:O.length+1≤127:=by
   have h1:=iW (O++[((r,lv,t):fy)])
   rw [← hNi,List.length_drop,hln] at h1;omega
  rw [hln]
  have hgx:=hgood (r,lv,t) (List.mem_append_right _ (List.mem_singleton.2 rfl))
  have hgO:∀ x∈O,gq k Bd x:=fun x hx=>hgood x (List.mem_append_left _ hx)
  have hlv0:0≤lv:=hgx.2.1
  have hlv1:lv≤64:=by
   have h1:=hgx.2.2.1
   have h2:=(cC t).1
   have h1:lv+dK t≤65:=h1
   omega
  rw [bU] at hNi
  try dsimp only at hNi
  have hget:(O++[((r,lv,t):fy)])[O.length]?=some (r,lv,t):=by simp
  have htake:(O++[((r,lv,t):fy)]).take O.length=O:=by simp
  cases t with
  | leaf n =>
   obtain ⟨hil,hni,hdi⟩:=bk hNi
   have hBd:n=(0,0)∨(n.1=1∧Bd r n.2):=hgx.1
   have hk1:N[i].1=0∧N[i].2=0∨N[i].1=1:=by
    rw [hni]
    rcases hBd with h|⟨h,_⟩
    ·rw [h];exact .inl ⟨rfl,rfl⟩
    ·exact .inr h
   rw [← hni] at hBd
   have cr:bm Tryz.prog gl 59 [I N[i].1] (BO false):=by
    have:=cX (gl:=gl) N[i].1
    rwa [show (decide (N[i].1=2) || decide (N[i].1=3))=false by rcases hk1 with ⟨h,_⟩|h<;>rw [h]<;>rfl] at this
   have cn:=node_leaf (gl:=gl) N[i] r lv (by rcases hk1 with h|h;exact .inl h;exact .inr h) hlv1
   repeat' (first
 | ((with_reducible apply (bR (id:=6)));exact rfl)
 | ((with_reducible apply (cN (k:=O.length)));exact rfl;exact rfl;exact inferInstance;exact hln;exact rfl;omega;omega;exact rfl)
 | ((with_reducible apply (cK (r:=(r,lv,Tr.leaf n))));exact rfl;exact rfl;exact inferInstance;exact hln;exact hget;iterate 3 exact rfl)
 | ((with_reducible apply (r_pop (enc:=plC) O.length));exact rfl;exact rfl;exact inferInstance;exact hln;exact rfl;omega;omega;omega;exact rfl)
 | (((with_reducible apply aF);exact rfl)<;>intro hg<;>(first|(exact absurd hg (by decide))|((try simp only [qz,ge_iff_le,List.cons.injEq,and_true] at hg);first|(exact absurd trivial hg)|(exfalso;omega)|(have hT:True:=hg;clear hT hg)|skip)))
 | (refine zs ?_)
 | fail
 )
   rw [htake]
   refine dM (l:=l) (r:=rr) (bl:=9) (nC:=67) rfl rfl (by rw [hp]<;>rfl) rfl hst hpe (by rw [hp];intro t ht;revert t;decide) (by rw [hp]<;>rfl) rfl ?_
   rw [ha,hb]
   dsimp only
   repeat' (first
 | (((with_reducible apply aF);exact rfl)<;>intro hg<;>(first|(exact absurd hg (by decide))|((try simp only [qz,ge_iff_le,List.cons.injEq,and_true] at hg);first|(exact absurd trivial hg)|(exfalso;omega)|(have hT:True:=hg;clear hT hg)|skip)))
 | (refine zs ?_)
 | fail
 )
   refine ⟨rfl,rfl,?_⟩
   dsimp only
   rcases hk1 with ⟨hz,hz2⟩|hz
   ·skip
    repeat' (first
 | ((with_reducible apply (ah (f:=123)));exact rfl;exact rfl;exact cn;exact rfl;exact rfl)
 | ((first|((with_reducible apply aF);exact rfl)|((with_reducible apply aj);iterate 4 exact rfl))<;>intro hg<;>(first|(exact absurd hg (by decide))|((try simp only [qz,ge_iff_le,List.cons.injEq,and_true] at hg);first|(exact absurd trivial hg)|(exfalso;omega)|(have hT:True:=hg;clear hT hg)|skip)))
 | (refine zs ?_)
 | fail
 )
    refine ⟨rfl,rfl,rfl,?_⟩
    dsimp only
    repeat' (first
 | ((with_reducible apply (ah (f:=59)));exact rfl;exact rfl;exact cr;exact rfl;exact rfl)
 | (((with_reducible apply aF);exact rfl)<;>intro hg<;>(first|(exact absurd hg (by decide))|((try simp only [qz,ge_iff_le,List.cons.injEq,and_true] at hg);first|(exact absurd trivial hg)|(exfalso;omega)|(have hT:True:=hg;clear hT hg)|skip)))
 | (refine zs ?_)
 | fail
 )
    refine ⟨(O,i+1),[(11,13)],?_,?_,by refine dw [(11,13)] rfl rfl rfl ?_ ?_<;>repeat (first|exact bQ|exact bG|refine bF rfl rfl ?_|refine bz rfl rfl rfl ?_)⟩
    ·show N.length - (i+1) < N.length - i;omega
    ·exact ⟨hil,hdi,hgO⟩
   ·rcases hBd with hB0|⟨_,hB⟩
    ·rw [hB0] at hz;cases hz
    rw [← hBdd] at hB
    obtain ⟨b1,b2,b3⟩:=hB
    have hcp:N[i].2.toNat < c.length:=by omega
    have cg:=hO (gl:=gl) c[N[i].2.toNat]
    have hgs:=(prE_V hc hcp).gs
    rw [fB hcp] at b3 hgs
    obtain ⟨r1,r2,r3,r4⟩:=hgx.2.2.2
    dsimp only at r1 r2 r3 r4
    have cl1:=Ge.len_con (gl:=gl) r.1.1 r.1.2 (by unfold aQ;omega) (by omega)
    have cl2:=Ge.len_con (gl:=gl) r.2.1 r.2.2 (by unfold aQ;omega) (by omega)
    have ew1:Ge.wid (r.1.1,r.1.2)=r.1.2 - r.1.1:=by unfold Ge.wid;dsimp only;omega
    have ew2:Ge.wid (r.2.1,r.2.2)=r.2.2 - r.2.1:=by unfold Ge.wid;dsimp only;omega
    rw [ew1] at cl1
    rw [ew2] at cl2
    generalize aW c[N[i].2.toNat]=g at *
    generalize r.1.2 - r.1.1=wx at *
    generalize r.2.2 - r.2.1=wy at *
    repeat' (first
 | ((with_reducible apply (ah (f:=123)));exact rfl;exact rfl;exact cn;exact rfl;exact rfl)
 | ((with_reducible apply (r_inF Tryz.func122 rfl Tryz.results122 (by kernel_rfl) Tryz.ntmps122));iterate 5 exact rfl)
 | (refine aL 6 ?_ ?_;(kernel_rfl);(simp only [List.take_succ_cons,List.take_zero,List.drop_succ_cons,List.drop_zero]))
 | ((with_reducible apply (ah (f:=99)));exact rfl;exact rfl;exact cg;exact rfl;exact rfl)
 | ((with_reducible apply (ah (f:=113)));exact rfl;exact rfl;(first|exact cl1|exact cl2);exact rfl;exact rfl)
 | (refine co rfl ?_)
 | ((first|((with_reducible apply aF);exact rfl)|((with_reducible apply aj);iterate 4 exact rfl)|((with_reducible apply aa);exact rfl))<;>intro hg<;>(first|(exact absurd hg (by decide))|((try simp only [qz,ge_iff_le,List.cons.injEq,and_true] at hg);first|(exact absurd trivial hg)|(exfalso;omega)|(have hT:True:=hg;clear hT hg)|skip)))
 | (refine zs ?_)
 | fail
 )
    all_goals
     refine ⟨rfl,rfl,rfl,?_⟩
     dsimp only
     repeat' (first
 | ((with_reducible apply (ah (f:=59)));exact rfl;exact rfl;exact cr;exact rfl;exact rfl)
 | (((with_reducible apply aF);exact rfl)<;>intro hg<;>(first|(exact absurd hg (by decide))|((try simp only [qz,ge_iff_le,List.cons.injEq,and_true] at hg);first|(exact absurd trivial hg)|(exfalso;omega)|(have hT:True:=hg;clear hT hg)|skip)))
 | (refine zs ?_)
 | fail
 )
     refine ⟨(O,i+1),[(11,13)],?_,?_,by refine dw [(11,13)] rfl rfl rfl ?_ ?_<;>repeat (first|exact bQ|exact bG|refine bF rfl rfl ?_|refine bz rfl rfl rfl ?_)⟩
     ·show N.length - (i+1) < N.length - i;omega
     ·exact ⟨hil,hdi,hgO⟩
  | rip ax a s t =>
   obtain ⟨hil,hni,hdi⟩:=bk hNi
   obtain ⟨g1,g2,g3,g4,g5,g6,g7,g8⟩:=good_rip hk.1 hgx
   have hk1:N[i].1=ax:=by rw [hni]
   have hk2:N[i].2=a:=by rw [hni]
   have hz:2≤N[i].1:=by omega
   have cr:bm Tryz.prog gl 59 [I N[i].1] (BO true):=by
    have:=cX (gl:=gl) N[i].1
    rwa [show (decide (N[i].1=2) || decide (N[i].1=3))=true by rw [hk1];rcases g1 with h|h<;>rw [h]<;>rfl] at this
   have cq:=parts_con (gl:=gl) r N[i] k (by unfold aQ;omega)
   have hlf:aQ (lv+1):=by unfold aQ;omega
   have cn:=node_rip (gl:=gl) N[i] r lv (by rw [hk1];exact g1) (by omega) (by rw [hk1,hk2];exact g2) (by rw [hk1,hk2];exact g3)
   repeat' (first
 | ((with_reducible apply (bR (id:=6)));exact rfl)
 | ((with_reducible apply (cN (k:=O.length)));exact rfl;exact rfl;exact inferInstance;exact hln;exact rfl;omega;omega;exact rfl)
 | ((with_reducible apply (cK (r:=(r,lv,Tr.rip ax a s t))));exact rfl;exact rfl;exact inferInstance;exact hln;exact hget;iterate 3 exact rfl)
 | ((with_reducible apply (r_pop (enc:=plC) O.length));exact rfl;exact rfl;exact inferInstance;exact hln;exact rfl;omega;omega;omega;exact rfl)
 | (((with_reducible apply aF);exact rfl)<;>intro hg<;>(first|(exact absurd hg (by decide))|((try simp only [qz,ge_iff_le,List.cons.injEq,and_true] at hg);first|(exact absurd trivial hg)|(exfalso;omega)|(have hT:True:=hg;clear hT hg)|skip)))
 | (refine zs ?_)
 | fail
 )
   rw [htake]
   refine dM (l:=l) (r:=rr) (bl:=9) (nC:=67) rfl rfl (by rw [hp]<;>rfl) rfl hst hpe (by rw [hp];intro t ht;revert t;decide) (by rw [hp]<;>rfl) rfl ?_
   rw [ha,hb]
   dsimp only
   repeat' (first
 | (((with_reducible apply aF);exact rfl)<;>intro hg<;>(first|(exact absurd hg (by decide))|((try simp only [qz,ge_iff_le,List.cons.injEq,and_true] at hg);first|(exact absurd trivial hg)|(exfalso;omega)|(have hT:True:=hg;clear hT hg)|skip)))
 | (refine zs ?_)
 | fail
 )
   refine ⟨rfl,rfl,?_⟩
   dsimp only
   repeat' (first
 | ((with_reducible apply (ah (f:=123)));exact rfl;exact rfl;exact cn;exact rfl;exact rfl)
 | ((first|((with_reducible apply aF);exact rfl)|((with_reducible apply aj);iterate 4 exact rfl))<;>intro hg<;>(first|(exact absurd hg (by decide))|((try simp only [qz,ge_iff_le,List.cons.injEq,and_true] at hg);first|(exact absurd trivial hg)|(exfalso;omega)|(have hT:True:=hg;clear hT hg)|skip)))
 | (refine zs ?_)
 | fail
 )
   refine ⟨rfl,rfl,rfl,?_⟩
   dsimp only
   repeat' (first
 | ((with_reducible apply (ah (f:=59)));exact rfl;exact rfl;exact cr;exact rfl;exact rfl)
 | ((with_reducible apply (ah (f:=117)));exact rfl;exact rfl;exact cq;exact rfl;exact rfl)
 | ((with_reducible apply bg);iterate 7 exact rfl)
 | ((with_reducible apply (aH (enc:=plC) (l2:=[(b8 k r N[i].1 N[i].2,lv+1,t),(aV r N[i].1 N[i].2,lv+1,s)])));exact rfl;exact rfl;exact inferInstance;exact rfl;exact rfl;exact (by show _+2 < _;omega);exact (by show (_+2) * _≤_;omega);exact rfl)
 | (((with_reducible apply aF);exact rfl)<;>intro hg<;>(first|(exact absurd hg (by decide))|((try simp only [qz,ge_iff_le,List.cons.injEq,and_true] at hg);first|(exact absurd trivial hg)|(exfalso;omega)|(have hT:True:=hg;clear hT hg)|skip)))
 | (refine zs ?_)
 | fail
 )
   rw [show O.length+[(b8 k r N[i].1 N[i].2,lv+1,t),(aV r N[i].1 N[i].2,lv+1,s)].length=(O++[(b8 k r N[i].1 N[i].2,lv+1,t),(aV r N[i].1 N[i].2,lv+1,s)]).length from (List.length_append ..).symm]
   refine ⟨(O++[(b8 k r N[i].1 N[i].2,lv+1,t),(aV r N[i].1 N[i].2,lv+1,s)],i+1),[(11,13)],?_,?_,by refine dw [(11,13)] rfl rfl rfl ?_ ?_<;>repeat (first|exact bQ|exact bG|refine bF rfl rfl ?_|refine bz rfl rfl rfl ?_)⟩
   ·show N.length - (i+1) < N.length - i;omega
   ·rw [hk1,hk2]
    have e2:O++[(b8 k r ax a,lv+1,t),(aV r ax a,lv+1,s)]=(O++[((b8 k r ax a,lv+1,t):fy)])++[(aV r ax a,lv+1,s)]:=by rw [List.append_assoc];rfl
    refine ⟨hil,?_,?_⟩
    ·show N.drop (i+1)=dv (O++[(b8 k r ax a,lv+1,t),(aV r ax a,lv+1,s)])
     rw [hdi,e2,bU,bU]
     exact List.append_assoc ..
    ·show ∀ x∈O++[(b8 k r ax a,lv+1,t),(aV r ax a,lv+1,s)],gq k Bd x
     intro x hx
     rcases List.mem_append.1 hx with hx|hx
     ·exact hgO x hx
     ·simp only [List.mem_cons,List.not_mem_nil,or_false] at hx
      rcases hx with rfl|rfl
      ·exact g8
      ·exact g7
end
end Go.Proofs.YtdndfncpglfdeaaGreatDoor.Tp

namespace Go.Proofs.YtdndfncpglfdeaaGreatDoor.Tp
set_option linter.unusedVariables false
set_option linter.unusedSimpArgs false
open Go.RowKit Go.Proofs.YtdndfncpglfdeaaGreatDoor.Ev
open Go.Proofs.YtdndfncpglfdeaaGreatDoor.Cu (I LI LS gw ce)
open Go.Proofs.YtdndfncpglfdeaaGreatDoor.Ge (an aG)
variable {gl:List (Nat×List CV)}
def cutsO (k:Int) (O:List fy):List aG:=O.reverse.flatMap fun x=>cG k x.1 x.2.2
theorem cutsO_snoc (k:Int) (O:List fy) (x:fy):cutsO k (O++[x])=cG k x.1 x.2.2++cutsO k O:=by
 unfold cutsO;rw [List.reverse_append];rfl
theorem cuts_len (k:Int):∀ (t:Tr) (r:aG),(cG k r t).length≤(aq t).length
 | .leaf n,r=>by simp [cG,aq]
 | .rip ax a s t,r=>by
  have h1:=cuts_len k s (aV r ax a)
  have h2:=cuts_len k t (b8 k r ax a)
  simp only [cG,aq,List.length_append,List.length_cons];omega
section
variable {X Y:an} {k:Int} {T:Tr} {Bd:aG→Int→Prop}
theorem cuts_con (hX:aJ X) (hY:aJ Y) (hk:0≤k∧k≤20) (hT:OkG k Bd (X,Y) T) (hN:(aq T).length≤127) (hchk:bm Tryz.prog gl 80 [fI X Y (aq T),I k,fnV 81] (I 0)) :
  bm Tryz.prog gl 66 [fI X Y (aq T),I k] (.tup [LRc (cG k (X,Y) T),I 0]):=by
 have hdep:=(cC T).2
 generalize hNN:aq T=N at *
 generalize hF:cG k (X,Y) T=full at *
 refine con_ofY Tryz.func66 rfl (by kernel_rfl) rfl ?_
 simp only [Tryz.ntmps66,Tryz.results66,am,ofC,aZ,List.map]
 repeat' (first
 | ((with_reducible apply (r_callF (f:=80)));exact rfl;exact rfl;exact hchk;exact rfl;exact rfl)
 | (refine bO 2 0 37 4 rfl rfl rfl rfl ?_)
 | ((with_reducible apply (r_in Tryz.func82 rfl Tryz.results82 (by kernel_rfl) Tryz.ntmps82));iterate 4 exact rfl)
 | ((with_reducible apply co);exact rfl)
 | ((with_reducible apply gb);exact rfl;exact rfl)
 | ((with_reducible apply awy_cond))
 | (((with_reducible apply aa);exact rfl)<;>intro hg<;>(first|(exact absurd hg (by decide))|((try simp only [qz,ge_iff_le,List.cons.injEq,and_true] at hg);first|(exact absurd trivial hg)|(exfalso;omega)|(have hT:True:=hg;clear hT hg)|skip)))
 | (refine zs ?_)
 | fail
 )
 refine awy_hide fun QM hQM=>?_
 refine iv Tryz.func124 rfl Tryz.results124 (by kernel_rfl) rfl rfl ?_
 intro l rr ha hb hp hst hpe
 rw [Tryz.ntmps124]
 dsimp only
 refine awx_hide fun QQ hQQ=>?_
 have hno:gA QQ:=by
  subst hQQ;intro _ hh
  rcases hh.1 with h|h<;>cases h
 repeat' (first
 | (((with_reducible apply aF);exact rfl)<;>intro hg<;>(first|(exact absurd hg (by decide))|((try simp only [qz,ge_iff_le,List.cons.injEq,and_true] at hg);first|(exact absurd trivial hg)|(exfalso;omega)|(have hT:True:=hg;clear hT hg)|skip)))
 | (refine zs ?_)
 | fail
 )
 refine gh (G:=List fy×Nat×List aG) (fun ((O,i,L):List fy×Nat×List aG)=>i≤N.length∧N.drop i=dv O∧L++cutsO k O=full∧∀ x∈O,gq k Bd x) (fun ((O,i,L):List fy×Nat×List aG)=>N.length - i) (fun ((O,i,L):List fy×Nat×List aG)=>[(0,.c (.v (.func (.yield l) #[] #[]))),(1,.ptr 4 0),(2,.ptr 5 0),(4,.vec 9 O.length),(5,A i)]) (fun ((O,i,L):List fy×Nat×List aG)=>[(9,some (.vec 165 5 (O.flatMap plC))),(7,some (.obj (eD rr))),(6,some (.obj io)),(5,some (.cells 3 [A k])),(4,some (.cells 40 [A X.1,A X.2,A Y.1,A Y.2,.c (fY N)])),(3,some (.vec 37 4 (L.flatMap rcC))),(2,some (.cells 101 [.vec 3 L.length])),(1,some (.cells 3 [A k])),(0,some (.cells 40 [A X.1,A X.2,A Y.1,A Y.2,.c (fY N)]))]) 10 ([((X,Y),1,T)],0,[]) ?_ [(9,8)] (by refine dw [(9,8)] rfl rfl rfl ?_ ?_<;>repeat (first|exact bQ|exact bG|refine bF rfl rfl ?_|refine bz rfl rfl rfl ?_)) ?_
 ·refine ⟨Nat.zero_le _,by rw [← hNN];simp [dv],by rw [← hF];simp [cutsO],?_⟩
  intro x hx
  rw [List.mem_singleton] at hx;subst hx
  refine ⟨hT,by show (0:Int)≤1;decide,?_,?_⟩
  ·show 1+dK T≤65;omega
  ·exact ⟨hX.1,hX.2.2,hY.1,hY.2.2⟩
 rintro ⟨O,i,L⟩ hI
 try dsimp only at hI
 try dsimp only
 obtain ⟨hi,hNi,hL,hgood⟩:=hI
 rcases snoc_of O with rfl|⟨O,⟨r,lv,t⟩,rfl⟩
 ·have hLf:L=full:=by rw [← hL];simp [cutsO]
  subst hLf
  repeat' (first
 | (((with_reducible apply aF);exact rfl)<;>intro hg<;>(first|(exact absurd hg (by decide))|((try simp only [qz,ge_iff_le,List.cons.injEq,and_true] at hg);first|(exact absurd trivial hg)|(exfalso;omega)|(have hT:True:=hg;clear hT hg)|skip)))
 | (refine zs ?_)
 | fail
 )
  subst hQQ
  refine ⟨.inl rfl,rfl,rfl,rfl,?_⟩
  subst hQM
  try dsimp only
  repeat' (first
 | (((with_reducible apply aF);exact rfl)<;>intro hg<;>(first|(exact absurd hg (by decide))|((try simp only [qz,ge_iff_le,List.cons.injEq,and_true] at hg);first|(exact absurd trivial hg)|(exfalso;omega)|(have hT:True:=hg;clear hT hg)|skip)))
 | (refine zs ?_)
 | fail
 )
  intro D
  repeat' (first
 | ((with_reducible apply bR);exact rfl)
 | (((with_reducible apply aF);exact rfl)<;>intro hg<;>(first|(exact absurd hg (by decide))|((try simp only [qz,ge_iff_le,List.cons.injEq,and_true] at hg);first|(exact absurd trivial hg)|(exfalso;omega)|(have hT:True:=hg;clear hT hg)|skip)))
 | (refine zs ?_)
 | fail
 )
  exact ⟨rfl,bJ (.cons (.tmp rfl (bx rfl (av EncL.len _))) (.cons (.tmp rfl ap) .nil))⟩
 ·have hln:(O++[((r,lv,t):fy)]).length=O.length+1:=by rw [List.length_append];rfl
  have hOb:O.length+1≤127:=by
   have h1:=iW (O++[((r,lv,t):fy)])
   rw [← hNi,List.length_drop,hln] at h1;omega
  rw [hln]
  have hLb:L.length≤127:=by
   have h1:=congrArg List.length hL
   have h2:=cuts_len k T (X,Y)
   rw [hF,hNN] at h2
   rw [List.length_append] at h1;omega
  have hgx:=hgood (r,lv,t) (List.mem_append_right _ (List.mem_singleton.2 rfl))
  have hgO:∀ x∈O,gq k Bd x:=fun x hx=>hgood x (List.mem_append_left _ hx)
  have hlv0:0≤lv:=hgx.2.1
  have hlv1:lv≤64:=by
   have h1:=hgx.2.2.1
   have h2:=(cC t).1
   have h1:lv+dK t≤65:=h1
   omega
  rw [bU] at hNi
  rw [cutsO_snoc] at hL
  try dsimp only at hL
  try dsimp only at hNi
  have hget:(O++[((r,lv,t):fy)])[O.length]?=some (r,lv,t):=by simp
  have htake:(O++[((r,lv,t):fy)]).take O.length=O:=by simp
  cases t with
  | leaf n =>
   obtain ⟨hil,hni,hdi⟩:=bk hNi
   have hBd:n=(0,0)∨(n.1=1∧Bd r n.2):=hgx.1
   have hk1:N[i].1=0∧N[i].2=0∨N[i].1=1:=by
    rw [hni]
    rcases hBd with h|⟨h,_⟩
    ·rw [h];exact .inl ⟨rfl,rfl⟩
    ·exact .inr h
   rw [← hni] at hBd
   have cr:bm Tryz.prog gl 59 [I N[i].1] (BO false):=by
    have:=cX (gl:=gl) N[i].1
    rwa [show (decide (N[i].1=2) || decide (N[i].1=3))=false by rcases hk1 with ⟨h,_⟩|h<;>rw [h]<;>rfl] at this
   repeat' (first
 | ((with_reducible apply (bR (id:=6)));exact rfl)
 | ((with_reducible apply (cN (k:=O.length)));exact rfl;exact rfl;exact inferInstance;exact hln;exact rfl;omega;omega;exact rfl)
 | ((with_reducible apply (cK (r:=(r,lv,Tr.leaf n))));exact rfl;exact rfl;exact inferInstance;exact hln;exact hget;iterate 3 exact rfl)
 | ((with_reducible apply (r_pop (enc:=plC) O.length));exact rfl;exact rfl;exact inferInstance;exact hln;exact rfl;omega;omega;omega;exact rfl)
 | (((with_reducible apply aF);exact rfl)<;>intro hg<;>(first|(exact absurd hg (by decide))|((try simp only [qz,ge_iff_le,List.cons.injEq,and_true] at hg);first|(exact absurd trivial hg)|(exfalso;omega)|(have hT:True:=hg;clear hT hg)|skip)))
 | (refine zs ?_)
 | fail
 )
   rw [htake]
   refine dM (l:=l) (r:=rr) (bl:=7) (nC:=47) rfl rfl (by rw [hp]<;>rfl) rfl hst hpe (by rw [hp];intro t ht;revert t;decide) (by rw [hp]<;>rfl) rfl ?_
   rw [ha,hb]
   dsimp only
   repeat' (first
 | (((with_reducible apply aF);exact rfl)<;>intro hg<;>(first|(exact absurd hg (by decide))|((try simp only [qz,ge_iff_le,List.cons.injEq,and_true] at hg);first|(exact absurd trivial hg)|(exfalso;omega)|(have hT:True:=hg;clear hT hg)|skip)))
 | (refine zs ?_)
 | fail
 )
   refine ⟨rfl,rfl,?_⟩
   dsimp only
   repeat' (first
 | ((with_reducible apply (ah (f:=59)));exact rfl;exact rfl;exact cr;exact rfl;exact rfl)
 | (((with_reducible apply aF);exact rfl)<;>intro hg<;>(first|(exact absurd hg (by decide))|((try simp only [qz,ge_iff_le,List.cons.injEq,and_true] at hg);first|(exact absurd trivial hg)|(exfalso;omega)|(have hT:True:=hg;clear hT hg)|skip)))
 | (refine zs ?_)
 | fail
 )
   refine ⟨rfl,rfl,rfl,?_⟩
   dsimp only
   repeat' (first
 | ((with_reducible apply (ah (f:=59)));exact rfl;exact rfl;exact cr;exact rfl;exact rfl)
 | (((with_reducible apply aF);exact rfl)<;>intro hg<;>(first|(exact absurd hg (by decide))|((try simp only [qz,ge_iff_le,List.cons.injEq,and_true] at hg);first|(exact absurd trivial hg)|(exfalso;omega)|(have hT:True:=hg;clear hT hg)|skip)))
 | (refine zs ?_)
 | fail
 )
   refine ⟨(O,i+1,L),[(9,11)],?_,?_,by refine dw [(9,11)] rfl rfl rfl ?_ ?_<;>repeat (first|exact bQ|exact bG|refine bF rfl rfl ?_|refine bz rfl rfl rfl ?_)⟩
   ·show N.length - (i+1) < N.length - i;omega
   ·exact ⟨hil,hdi,hL,hgO⟩
  | rip ax a s t =>
   obtain ⟨hil,hni,hdi⟩:=bk hNi
   obtain ⟨g1,g2,g3,g4,g5,g6,g7,g8⟩:=good_rip hk.1 hgx
   have hk1:N[i].1=ax:=by rw [hni]
   have hk2:N[i].2=a:=by rw [hni]
   have hz:2≤N[i].1:=by omega
   have cr:bm Tryz.prog gl 59 [I N[i].1] (BO true):=by
    have:=cX (gl:=gl) N[i].1
    rwa [show (decide (N[i].1=2) || decide (N[i].1=3))=true by rw [hk1];rcases g1 with h|h<;>rw [h]<;>rfl] at this
   have cq:=parts_con (gl:=gl) r N[i] k (by unfold aQ;omega)
   have hlf:aQ (lv+1):=by unfold aQ;omega
   repeat' (first
 | ((with_reducible apply (bR (id:=6)));exact rfl)
 | ((with_reducible apply (cN (k:=O.length)));exact rfl;exact rfl;exact inferInstance;exact hln;exact rfl;omega;omega;exact rfl)
 | ((with_reducible apply (cK (r:=(r,lv,Tr.rip ax a s t))));exact rfl;exact rfl;exact inferInstance;exact hln;exact hget;iterate 3 exact rfl)
 | ((with_reducible apply (r_pop (enc:=plC) O.length));exact rfl;exact rfl;exact inferInstance;exact hln;exact rfl;omega;omega;omega;exact rfl)
 | (((with_reducible apply aF);exact rfl)<;>intro hg<;>(first|(exact absurd hg (by decide))|((try simp only [qz,ge_iff_le,List.cons.injEq,and_true] at hg);first|(exact absurd trivial hg)|(exfalso;omega)|(have hT:True:=hg;clear hT hg)|skip)))
 | (refine zs ?_)
 | fail
 )
   rw [htake]
   refine dM (l:=l) (r:=rr) (bl:=7) (nC:=47) rfl rfl (by rw [hp]<;>rfl) rfl hst hpe (by rw [hp];intro t ht;revert t;decide) (by rw [hp]<;>rfl) rfl ?_
   rw [ha,hb]
   dsimp only
   repeat' (first
 | (((with_reducible apply aF);exact rfl)<;>intro hg<;>(first|(exact absurd hg (by decide))|((try simp only [qz,ge_iff_le,List.cons.injEq,and_true] at hg);first|(exact absurd trivial hg)|(exfalso;omega)|(have hT:True:=hg;clear hT hg)|skip)))
 | (refine zs ?_)
 | fail
 )
   refine ⟨rfl,rfl,?_⟩
   dsimp only
   repeat' (first
 | ((with_reducible apply (ah (f:=59)));exact rfl;exact rfl;exact cr;exact rfl;exact rfl)
 | ((with_reducible apply (ah (f:=117)));exact rfl;exact rfl;exact cq;exact rfl;exact rfl)
 | ((with_reducible apply bg);iterate 7 exact rfl)
 | ((with_reducible apply (aH (enc:=rcC) (l2:=[(iF k r N[i].1 N[i].2)])));exact rfl;exact rfl;exact inferInstance;exact rfl;exact rfl;exact (by show _+1 < _;omega);exact (by show (_+1) * _≤_;omega);exact rfl)
 | (((with_reducible apply aF);exact rfl)<;>intro hg<;>(first|(exact absurd hg (by decide))|((try simp only [qz,ge_iff_le,List.cons.injEq,and_true] at hg);first|(exact absurd trivial hg)|(exfalso;omega)|(have hT:True:=hg;clear hT hg)|skip)))
 | (refine zs ?_)
 | fail
 )
   refine ⟨rfl,rfl,rfl,?_⟩
   dsimp only
   repeat' (first
 | ((with_reducible apply (ah (f:=59)));exact rfl;exact rfl;exact cr;exact rfl;exact rfl)
 | ((with_reducible apply (ah (f:=117)));exact rfl;exact rfl;exact cq;exact rfl;exact rfl)
 | ((with_reducible apply bg);iterate 7 exact rfl)
 | ((with_reducible apply (aH (enc:=plC) (l2:=[(b8 k r N[i].1 N[i].2,lv+1,t),(aV r N[i].1 N[i].2,lv+1,s)])));exact rfl;exact rfl;exact inferInstance;exact rfl;exact rfl;exact (by show _+2 < _;omega);exact (by show (_+2) * _≤_;omega);exact rfl)
 | (((with_reducible apply aF);exact rfl)<;>intro hg<;>(first|(exact absurd hg (by decide))|((try simp only [qz,ge_iff_le,List.cons.injEq,and_true] at hg);first|(exact absurd trivial hg)|(exfalso;omega)|(have hT:True:=hg;clear hT hg)|skip)))
 | (refine zs ?_)
 | fail
 )
   rw [show O.length+[(b8 k r N[i].1 N[i].2,lv+1,t),(aV r N[i].1 N[i].2,lv+1,s)].length=(O++[(b8 k r N[i].1 N[i].2,lv+1,t),(aV r N[i].1 N[i].2,lv+1,s)]).length from (List.length_append ..).symm]
   rw [show L.length+[iF k r N[i].1 N[i].2].length=(L++[iF k r N[i].1 N[i].2]).length from (List.length_append ..).symm]
   refine ⟨(O++[(b8 k r N[i].1 N[i].2,lv+1,t),(aV r N[i].1 N[i].2,lv+1,s)],i+1,L++[iF k r N[i].1 N[i].2]),[(9,11)],?_,?_,by refine dw [(9,11)] rfl rfl rfl ?_ ?_<;>repeat (first|exact bQ|exact bG|refine bF rfl rfl ?_|refine bz rfl rfl rfl ?_)⟩
   ·show N.length - (i+1) < N.length - i;omega
   ·rw [hk1,hk2]
    have e2:O++[(b8 k r ax a,lv+1,t),(aV r ax a,lv+1,s)]=(O++[((b8 k r ax a,lv+1,t):fy)])++[(aV r ax a,lv+1,s)]:=by rw [List.append_assoc];rfl
    refine ⟨hil,?_,?_,?_⟩
    ·show N.drop (i+1)=dv (O++[(b8 k r ax a,lv+1,t),(aV r ax a,lv+1,s)])
     rw [hdi,e2,bU,bU]
     exact List.append_assoc ..
    ·show (L++[iF k r ax a])++cutsO k (O++[(b8 k r ax a,lv+1,t),(aV r ax a,lv+1,s)])=full
     rw [← hL,e2,cutsO_snoc,cutsO_snoc]
     show _=L++((iF k r ax a::(cG k (aV r ax a) s++cG k (b8 k r ax a) t))++cutsO k O)
     simp only [List.append_assoc,List.cons_append,List.nil_append]
    ·show ∀ x∈O++[(b8 k r ax a,lv+1,t),(aV r ax a,lv+1,s)],gq k Bd x
     intro x hx
     rcases List.mem_append.1 hx with hx|hx
     ·exact hgO x hx
     ·simp only [List.mem_cons,List.not_mem_nil,or_false] at hx
      rcases hx with rfl|rfl
      ·exact g8
      ·exact g7
end
end Go.Proofs.YtdndfncpglfdeaaGreatDoor.Tp
