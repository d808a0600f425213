/- PU: texts laid together. -/
import Derived.Test.YtdndfncpglfdeaaGreatDoorMrgX4
import Derived.Test.YtdndfncpglfdeaaGreatDoorMrgE6
import Derived.Test.YtdndfncpglfdeaaGreatDoorMrgS
set_option maxRecDepth 100000
set_option maxHeartbeats 64000000

namespace Go.Proofs.YtdndfncpglfdeaaGreatDoor.Tp
set_option linter.unusedVariables false
set_option linter.unusedSimpArgs false
open Go.RowKit Go.Proofs.YtdndfncpglfdeaaGreatDoor.Ev
open Go.Proofs.YtdndfncpglfdeaaGreatDoor.Cu (I LI LS gw ce)
open Go.Proofs.YtdndfncpglfdeaaGreatDoor.Ge (an aG)
variable {gl:List (Nat×List CV)}
abbrev fy:=aG×Int×Tr
def plC (x:fy):List CV:=[I x.1.1.1,I x.1.1.2,I x.1.2.1,I x.1.2.2,I x.2.1]
instance:EncL plC 5:=⟨fun _=>rfl,by decide,fun _=>rfl⟩
def lfC (x:aG×Int):List CV:=[I x.1.1.1,I x.1.1.2,I x.1.2.1,I x.1.2.2,I x.2]
instance:EncL lfC 5:=⟨fun _=>rfl,by decide,fun _=>rfl⟩
abbrev LLf (l:List (aG×Int)):CV:=.lst 5 (l.flatMap lfC)
def rcC (x:aG):List CV:=[I x.1.1,I x.1.2,I x.2.1,I x.2.2]
instance:EncL rcC 4:=⟨fun _=>rfl,by decide,fun _=>rfl⟩
abbrev LRc (l:List aG):CV:=.lst 4 (l.flatMap rcC)
def Rb (r:aG):Prop:=-600≤r.1.1∧r.1.2≤600∧-600≤r.2.1∧r.2.2≤600
def gq (k:Int) (B:aG→Int→Prop) (x:fy):Prop:=OkG k B x.1 x.2.2∧0≤x.2.1∧x.2.1+dK x.2.2≤65∧Rb x.1
theorem good_rip {k:Int} {B:aG→Int→Prop} {r:aG} {lv ax a:Int} {s t:Tr} (hk:0≤k) (h:gq k B (r,lv,.rip ax a s t)) :
  (ax=2∨ax=3)∧(aD r ax).1 < a∧a < (aD r ax).2∧-600≤a∧a≤600∧lv≤63∧gq k B (aV r ax a,lv+1,s)∧gq k B (b8 k r ax a,lv+1,t):=by
 obtain ⟨⟨h1,h2,h3,h4,h5⟩,h6,h7,h8,h9,h10,h11⟩:=h
 dsimp only at h1 h2 h3 h4 h5 h6 h7 h8 h9 h10 h11
 have d1:=(cC s).1
 have d2:=(cC t).1
 have hd:dK (.rip ax a s t)=1+max (dK s) (dK t):=rfl
 rw [hd] at h7
 have hb:-600≤(aD r ax).1∧(aD r ax).2≤600:=by unfold aD;split<;>omega
 refine ⟨h1,h2,h3,by omega,by omega,by omega,⟨h4,by dsimp only;omega,by dsimp only;omega,?_⟩,⟨h5,by dsimp only;omega,by dsimp only;omega,?_⟩⟩
 ·unfold aV bK;dsimp only
  split
  ·exact ⟨by dsimp only;omega,by dsimp only;omega,by dsimp only;omega,by dsimp only;omega⟩
  ·exact ⟨by dsimp only;omega,by dsimp only;omega,by dsimp only;omega,by dsimp only;omega⟩
 ·unfold b8 bK;dsimp only
  split
  ·exact ⟨by dsimp only;omega,by dsimp only;omega,by dsimp only;omega,by dsimp only;omega⟩
  ·exact ⟨by dsimp only;omega,by dsimp only;omega,by dsimp only;omega,by dsimp only;omega⟩
def dv (O:List fy):List Nd:=O.reverse.flatMap fun x=>aq x.2.2
theorem bU (O:List fy) (x:fy):dv (O++[x])=aq x.2.2++dv O:=by
 unfold dv;rw [List.reverse_append];rfl
theorem nodes_pos (t:Tr):0 < (aq t).length:=by cases t<;>simp [aq]
theorem iW (O:List fy):O.length≤(dv O).length:=by
 unfold dv
 rw [← List.length_reverse]
 induction O.reverse with
 | nil=>simp
 | cons x l ih =>
  have:=nodes_pos x.2.2
  simp only [List.flatMap_cons,List.length_append,List.length_cons];omega
theorem snoc_of {α:Type}:∀ (l:List α),l=[]∨∃ m x,l=m++[x]
 | []=>.inl rfl
 | a::l=>by
  rcases snoc_of l with h|⟨m,x,h⟩
  ·exact .inr ⟨[],a,by rw [h];rfl⟩
  ·exact .inr ⟨a::m,x,by rw [h];rfl⟩
abbrev fI (X Y:an) (nodes:List Nd):CV:=.agg [I X.1,I X.2,I Y.1,I Y.2,fY nodes]
def ej (k:Int) (O:List fy):List (aG×Int):=O.reverse.flatMap fun x=>aC k x.1 x.2.2
theorem iB (k:Int) (O:List fy) (x:fy):ej k (O++[x])=aC k x.1 x.2.2++ej k O:=by
 unfold ej;rw [List.reverse_append];rfl
theorem fa (k:Int):∀ (t:Tr) (r:aG),(aC k r t).length≤(aq t).length
 | .leaf n,r=>by simp [aC,aq]
 | .rip ax a s t,r=>by
  have h1:=fa k s (aV r ax a)
  have h2:=fa k t (b8 k r ax a)
  simp only [aC,aq,List.length_append,List.length_cons];omega
theorem bk {α:Type} {l m:List α} {i:Nat} {x:α} (h:l.drop i=x::m):∃ hi:i < l.length,l[i]=x∧l.drop (i+1)=m:=by
 have hi:i < l.length:=by
  have:=congrArg List.length h
  rw [List.length_drop,List.length_cons] at this;omega
 rw [List.drop_eq_getElem_cons hi] at h
 injection h with h1 h2
 exact ⟨hi,h1,h2⟩
section
variable {X Y:an} {k:Int} {T:Tr} {Bd:aG→Int→Prop}
theorem leaves_con (hX:aJ X) (hY:aJ Y) (hk:0≤k∧k≤20) (hT:OkG k Bd (X,Y) T) (hN:(aq T).length≤127) (hchk:bm Tryz.prog gl 80 [fI X Y (aq T),I k,fnV 81] (I 0)) :
  bm Tryz.prog gl 39 [fI X Y (aq T),I k] (.tup [LLf (aC k (X,Y) T),I 0]):=by
 have hdep:=(cC T).2
 generalize hNN:aq T=N at *
 generalize hF:aC k (X,Y) T=full at *
 refine con_ofY Tryz.func39 rfl (by kernel_rfl) rfl ?_
 simp only [Tryz.ntmps39,Tryz.results39,am,ofC,aZ,List.map]
 repeat' (first
 | ((with_reducible apply (r_callF (f:=80)));exact rfl;exact rfl;exact hchk;exact rfl;exact rfl)
 | (refine bO 1 0 111 5 rfl rfl rfl rfl ?_)
 | ((with_reducible apply (r_in Tryz.func82 rfl Tryz.results82 (by kernel_rfl) Tryz.ntmps82));iterate 4 exact rfl)
 | ((with_reducible apply co);exact rfl)
 | ((with_reducible apply gb);exact rfl;exact rfl)
 | ((with_reducible apply awy_cond))
 | (((with_reducible apply aa);exact rfl)<;>intro hg<;>(first|(exact absurd hg (by decide))|((try simp only [qz,ge_iff_le,List.cons.injEq,and_true] at hg);first|(exact absurd trivial hg)|(exfalso;omega)|(have hT:True:=hg;clear hT hg)|skip)))
 | (refine zs ?_)
 | fail
 )
 refine awy_hide fun QM hQM=>?_
 refine iv Tryz.func124 rfl Tryz.results124 (by kernel_rfl) rfl rfl ?_
 intro l rr ha hb hp hst hpe
 rw [Tryz.ntmps124]
 dsimp only
 refine awx_hide fun QQ hQQ=>?_
 have hno:gA QQ:=by
  subst hQQ;intro _ hh
  rcases hh.1 with h|h<;>cases h
 repeat' (first
 | (((with_reducible apply aF);exact rfl)<;>intro hg<;>(first|(exact absurd hg (by decide))|((try simp only [qz,ge_iff_le,List.cons.injEq,and_true] at hg);first|(exact absurd trivial hg)|(exfalso;omega)|(have hT:True:=hg;clear hT hg)|skip)))
 | (refine zs ?_)
 | fail
 )
 refine gh (G:=List fy×Nat×List (aG×Int)) (fun ((O,i,L):List fy×Nat×List (aG×Int))=>i≤N.length∧N.drop i=dv O∧L++ej k O=full∧∀ x∈O,gq k Bd x) (fun ((O,i,L):List fy×Nat×List (aG×Int))=>N.length - i) (fun ((O,i,L):List fy×Nat×List (aG×Int))=>[(0,.c (.v (.func (.yield l) #[] #[]))),(1,.ptr 3 0),(2,.ptr 4 0),(4,.vec 8 O.length),(5,A i)]) (fun ((O,i,L):List fy×Nat×List (aG×Int))=>[(8,some (.vec 165 5 (O.flatMap plC))),(6,some (.obj (eD rr))),(5,some (.obj io)),(4,some (.cells 3 [A k])),(3,some (.cells 40 [A X.1,A X.2,A Y.1,A Y.2,.c (fY N)])),(2,some (.vec 111 5 (L.flatMap lfC))),(1,some (.cells 100 [.vec 2 L.length])),(0,some (.cells 40 [A X.1,A X.2,A Y.1,A Y.2,.c (fY N)]))]) 9 ([((X,Y),1,T)],0,[]) ?_ [(8,7)] (by refine dw [(8,7)] rfl rfl rfl ?_ ?_<;>repeat (first|exact bQ|exact bG|refine bF rfl rfl ?_|refine bz rfl rfl rfl ?_)) ?_
 ·refine ⟨Nat.zero_le _,by rw [← hNN];simp [dv],by rw [← hF];simp [ej],?_⟩
  intro x hx
  rw [List.mem_singleton] at hx;subst hx
  refine ⟨hT,by show (0:Int)≤1;decide,?_,?_⟩
  ·show 1+dK T≤65;omega
  ·exact ⟨hX.1,hX.2.2,hY.1,hY.2.2⟩
 rintro ⟨O,i,L⟩ hI
 try dsimp only at hI
 try dsimp only
 obtain ⟨hi,hNi,hL,hgood⟩:=hI
 rcases snoc_of O with rfl|⟨O,⟨r,lv,t⟩,rfl⟩
 ·have hLf:L=full:=by rw [← hL];simp [ej]
  subst hLf
  repeat' (first
 | (((with_reducible apply aF);exact rfl)<;>intro hg<;>(first|(exact absurd hg (by decide))|((try simp only [qz,ge_iff_le,List.cons.injEq,and_true] at hg);first|(exact absurd trivial hg)|(exfalso;omega)|(have hT:True:=hg;clear hT hg)|skip)))
 | (refine zs ?_)
 | fail
 )
  subst hQQ
  refine ⟨.inl rfl,rfl,rfl,rfl,?_⟩
  subst hQM
  try dsimp only
  repeat' (first
 | (((with_reducible apply aF);exact rfl)<;>intro hg<;>(first|(exact absurd hg (by decide))|((try simp only [qz,ge_iff_le,List.cons.injEq,and_true] at hg);first|(exact absurd trivial hg)|(exfalso;omega)|(have hT:True:=hg;clear hT hg)|skip)))
 | (refine zs ?_)
 | fail
 )
  intro D
  repeat' (first
 | ((with_reducible apply bR);exact rfl)
 | (((with_reducible apply aF);exact rfl)<;>intro hg<;>(first|(exact absurd hg (by decide))|((try simp only [qz,ge_iff_le,List.cons.injEq,and_true] at hg);first|(exact absurd trivial hg)|(exfalso;omega)|(have hT:True:=hg;clear hT hg)|skip)))
 | (refine zs ?_)
 | fail
 )
  exact ⟨rfl,bJ (.cons (.tmp rfl (bx rfl (av EncL.len _))) (.cons (.tmp rfl ap) .nil))⟩
 ·have hln:(O++[((r,lv,t):fy)]).length=O.length+1:=by rw [List.length_append];rfl
  have hOb:O.length+1≤127:=by
   have h1:=iW (O++[((r,lv,t):fy)])
   rw [← hNi,List.length_drop,hln] at h1;omega
  rw [hln]
  have hLb:L.length≤127:=by
   have h1:=congrArg List.length hL
   have h2:=fa k T (X,Y)
   rw [hF,hNN] at h2
   rw [List.length_append] at h1;omega
  have hgx:=hgood (r,lv,t) (List.mem_append_right _ (List.mem_singleton.2 rfl))
  have hgO:∀ x∈O,gq k Bd x:=fun x hx=>hgood x (List.mem_append_left _ hx)
  rw [bU] at hNi
  rw [iB] at hL
  try dsimp only at hNi
  try dsimp only at hL
  have hget:(O++[((r,lv,t):fy)])[O.length]?=some (r,lv,t):=by simp
  have htake:(O++[((r,lv,t):fy)]).take O.length=O:=by simp
  cases t with
  | leaf n =>
   obtain ⟨hil,hni,hdi⟩:=bk hNi
   have hk1:N[i].1=0∧N[i].2=0∨N[i].1=1:=by
    rw [hni]
    rcases hgx.1 with h|⟨h,_⟩
    ·have h:n=(0,0):=h
     rw [h];exact .inl ⟨rfl,rfl⟩
    ·exact .inr h
   have cr:bm Tryz.prog gl 59 [I N[i].1] (BO false):=by
    have:=cX (gl:=gl) N[i].1
    rwa [show (decide (N[i].1=2) || decide (N[i].1=3))=false by rcases hk1 with ⟨h,_⟩|h<;>rw [h]<;>rfl] at this
   repeat' (first
 | ((with_reducible apply (bR (id:=6)));exact rfl)
 | ((with_reducible apply (cN (k:=O.length)));exact rfl;exact rfl;exact inferInstance;exact hln;exact rfl;omega;omega;exact rfl)
 | ((with_reducible apply (cK (r:=(r,lv,Tr.leaf n))));exact rfl;exact rfl;exact inferInstance;exact hln;exact hget;iterate 3 exact rfl)
 | ((with_reducible apply (r_pop (enc:=plC) O.length));exact rfl;exact rfl;exact inferInstance;exact hln;exact rfl;omega;omega;omega;exact rfl)
 | (((with_reducible apply aF);exact rfl)<;>intro hg<;>(first|(exact absurd hg (by decide))|((try simp only [qz,ge_iff_le,List.cons.injEq,and_true] at hg);first|(exact absurd trivial hg)|(exfalso;omega)|(have hT:True:=hg;clear hT hg)|skip)))
 | (refine zs ?_)
 | fail
 )
   rw [htake]
   refine dM (l:=l) (r:=rr) (bl:=6) (nC:=48) rfl rfl (by rw [hp]<;>rfl) rfl hst hpe (by rw [hp];intro t ht;revert t;decide) (by rw [hp]<;>rfl) rfl ?_
   rw [ha,hb]
   dsimp only
   repeat' (first
 | (((with_reducible apply aF);exact rfl)<;>intro hg<;>(first|(exact absurd hg (by decide))|((try simp only [qz,ge_iff_le,List.cons.injEq,and_true] at hg);first|(exact absurd trivial hg)|(exfalso;omega)|(have hT:True:=hg;clear hT hg)|skip)))
 | (refine zs ?_)
 | fail
 )
   refine ⟨rfl,rfl,?_⟩
   dsimp only
   rcases hk1 with ⟨hz,hz2⟩|hz
   ·skip
    repeat' (first
 | ((with_reducible apply bg);iterate 7 exact rfl)
 | ((with_reducible apply (aH (enc:=lfC) (l2:=[(r,(-1:Int))])));exact rfl;exact rfl;exact inferInstance;exact rfl;exact rfl;exact (by show _+1 < _;omega);exact (by show (_+1) * _≤_;omega);exact rfl)
 | (((with_reducible apply aF);exact rfl)<;>intro hg<;>(first|(exact absurd hg (by decide))|((try simp only [qz,ge_iff_le,List.cons.injEq,and_true] at hg);first|(exact absurd trivial hg)|(exfalso;omega)|(have hT:True:=hg;clear hT hg)|skip)))
 | (refine zs ?_)
 | fail
 )
    refine ⟨rfl,rfl,rfl,?_⟩
    dsimp only
    repeat' (first
 | ((with_reducible apply (ah (f:=59)));exact rfl;exact rfl;exact cr;exact rfl;exact rfl)
 | (((with_reducible apply aF);exact rfl)<;>intro hg<;>(first|(exact absurd hg (by decide))|((try simp only [qz,ge_iff_le,List.cons.injEq,and_true] at hg);first|(exact absurd trivial hg)|(exfalso;omega)|(have hT:True:=hg;clear hT hg)|skip)))
 | (refine zs ?_)
 | fail
 )
    rw [show L.length+[(r,(-1:Int))].length=(L++[(r,(-1:Int))]).length from (List.length_append ..).symm]
    refine ⟨(O,i+1,L++[(r,(-1:Int))]),[(8,10)],?_,?_,by refine dw [(8,10)] rfl rfl rfl ?_ ?_<;>repeat (first|exact bQ|exact bG|refine bF rfl rfl ?_|refine bz rfl rfl rfl ?_)⟩
    ·show N.length - (i+1) < N.length - i;omega
    ·refine ⟨hil,hdi,?_,hgO⟩
     rw [← hL,List.append_assoc]
     show L++([(r,(-1:Int))]++ej k O)=L++([(r,if n.1=0 then -1 else n.2)]++ej k O)
     rw [← hni]
     rw [if_pos hz]
   ·skip
    repeat' (first
 | ((with_reducible apply bg);iterate 7 exact rfl)
 | ((with_reducible apply (aH (enc:=lfC) (l2:=[(r,N[i].2)])));exact rfl;exact rfl;exact inferInstance;exact rfl;exact rfl;exact (by show _+1 < _;omega);exact (by show (_+1) * _≤_;omega);exact rfl)
 | (((with_reducible apply aF);exact rfl)<;>intro hg<;>(first|(exact absurd hg (by decide))|((try simp only [qz,ge_iff_le,List.cons.injEq,and_true] at hg);first|(exact absurd trivial hg)|(exfalso;omega)|(have hT:True:=hg;clear hT hg)|skip)))
 | (refine zs ?_)
 | fail
 )
    refine ⟨rfl,rfl,rfl,?_⟩
    dsimp only
    repeat' (first
 | ((with_reducible apply (ah (f:=59)));exact rfl;exact rfl;exact cr;exact rfl;exact rfl)
 | (((with_reducible apply aF);exact rfl)<;>intro hg<;>(first|(exact absurd hg (by decide))|((try simp only [qz,ge_iff_le,List.cons.injEq,and_true] at hg);first|(exact absurd trivial hg)|(exfalso;omega)|(have hT:True:=hg;clear hT hg)|skip)))
 | (refine zs ?_)
 | fail
 )
    rw [show L.length+[(r,N[i].2)].length=(L++[(r,N[i].2)]).length from (List.length_append ..).symm]
    refine ⟨(O,i+1,L++[(r,N[i].2)]),[(8,10)],?_,?_,by refine dw [(8,10)] rfl rfl rfl ?_ ?_<;>repeat (first|exact bQ|exact bG|refine bF rfl rfl ?_|refine bz rfl rfl rfl ?_)⟩
    ·show N.length - (i+1) < N.length - i;omega
    ·refine ⟨hil,hdi,?_,hgO⟩
     rw [← hL,List.append_assoc]
     show L++([(r,N[i].2)]++ej k O)=L++([(r,if n.1=0 then -1 else n.2)]++ej k O)
     rw [← hni]
     rw [if_neg (by omega)]
  | rip ax a s t =>
   obtain ⟨hil,hni,hdi⟩:=bk hNi
   obtain ⟨g1,g2,g3,g4,g5,g6,g7,g8⟩:=good_rip hk.1 hgx
   have hk1:N[i].1=ax:=by rw [hni]
   have hk2:N[i].2=a:=by rw [hni]
   have hz:2≤N[i].1:=by omega
   have cr:bm Tryz.prog gl 59 [I N[i].1] (BO true):=by
    have:=cX (gl:=gl) N[i].1
    rwa [show (decide (N[i].1=2) || decide (N[i].1=3))=true by rw [hk1];rcases g1 with h|h<;>rw [h]<;>rfl] at this
   have cq:=parts_con (gl:=gl) r N[i] k (by unfold aQ;omega)
   have hlv:=hgx.2.1
   try dsimp only at hlv
   have hlf:aQ (lv+1):=by unfold aQ;omega
   repeat' (first
 | ((with_reducible apply (bR (id:=6)));exact rfl)
 | ((with_reducible apply (cN (k:=O.length)));exact rfl;exact rfl;exact inferInstance;exact hln;exact rfl;omega;omega;exact rfl)
 | ((with_reducible apply (cK (r:=(r,lv,Tr.rip ax a s t))));exact rfl;exact rfl;exact inferInstance;exact hln;exact hget;iterate 3 exact rfl)
 | ((with_reducible apply (r_pop (enc:=plC) O.length));exact rfl;exact rfl;exact inferInstance;exact hln;exact rfl;omega;omega;omega;exact rfl)
 | (((with_reducible apply aF);exact rfl)<;>intro hg<;>(first|(exact absurd hg (by decide))|((try simp only [qz,ge_iff_le,List.cons.injEq,and_true] at hg);first|(exact absurd trivial hg)|(exfalso;omega)|(have hT:True:=hg;clear hT hg)|skip)))
 | (refine zs ?_)
 | fail
 )
   rw [htake]
   refine dM (l:=l) (r:=rr) (bl:=6) (nC:=48) rfl rfl (by rw [hp]<;>rfl) rfl hst hpe (by rw [hp];intro t ht;revert t;decide) (by rw [hp]<;>rfl) rfl ?_
   rw [ha,hb]
   dsimp only
   repeat' (first
 | (((with_reducible apply aF);exact rfl)<;>intro hg<;>(first|(exact absurd hg (by decide))|((try simp only [qz,ge_iff_le,List.cons.injEq,and_true] at hg);first|(exact absurd trivial hg)|(exfalso;omega)|(have hT:True:=hg;clear hT hg)|skip)))
 | (refine zs ?_)
 | fail
 )
   refine ⟨rfl,rfl,?_⟩
   dsimp only
   repeat' (first
 | (((with_reducible apply aF);exact rfl)<;>intro hg<;>(first|(exact absurd hg (by decide))|((try simp only [qz,ge_iff_le,List.cons.injEq,and_true] at hg);first|(exact absurd trivial hg)|(exfalso;omega)|(have hT:True:=hg;clear hT hg)|skip)))
 | (refine zs ?_)
 | fail
 )
   refine ⟨rfl,rfl,rfl,?_⟩
   dsimp only
   repeat' (first
 | ((with_reducible apply (ah (f:=59)));exact rfl;exact rfl;exact cr;exact rfl;exact rfl)
 | ((with_reducible apply (ah (f:=117)));exact rfl;exact rfl;exact cq;exact rfl;exact rfl)
 | ((with_reducible apply bg);iterate 7 exact rfl)
 | ((with_reducible apply (aH (enc:=plC) (l2:=[(b8 k r N[i].1 N[i].2,lv+1,t),(aV r N[i].1 N[i].2,lv+1,s)])));exact rfl;exact rfl;exact inferInstance;exact rfl;exact rfl;exact (by show _+2 < _;omega);exact (by show (_+2) * _≤_;omega);exact rfl)
 | (((with_reducible apply aF);exact rfl)<;>intro hg<;>(first|(exact absurd hg (by decide))|((try simp only [qz,ge_iff_le,List.cons.injEq,and_true] at hg);first|(exact absurd trivial hg)|(exfalso;omega)|(have hT:True:=hg;clear hT hg)|skip)))
 | (refine zs ?_)
 | fail
 )
   rw [show O.length+[(b8 k r N[i].1 N[i].2,lv+1,t),(aV r N[i].1 N[i].2,lv+1,s)].length=(O++[(b8 k r N[i].1 N[i].2,lv+1,t),(aV r N[i].1 N[i].2,lv+1,s)]).length from (List.length_append ..).symm]
   refine ⟨(O++[(b8 k r N[i].1 N[i].2,lv+1,t),(aV r N[i].1 N[i].2,lv+1,s)],i+1,L),[(8,10)],?_,?_,by refine dw [(8,10)] rfl rfl rfl ?_ ?_<;>repeat (first|exact bQ|exact bG|refine bF rfl rfl ?_|refine bz rfl rfl rfl ?_)⟩
   ·show N.length - (i+1) < N.length - i;omega
   ·rw [hk1,hk2]
    have e2:O++[(b8 k r ax a,lv+1,t),(aV r ax a,lv+1,s)]=(O++[((b8 k r ax a,lv+1,t):fy)])++[(aV r ax a,lv+1,s)]:=by rw [List.append_assoc];rfl
    refine ⟨hil,?_,?_,?_⟩
    ·show N.drop (i+1)=dv (O++[(b8 k r ax a,lv+1,t),(aV r ax a,lv+1,s)])
     rw [hdi,e2,bU,bU]
     exact List.append_assoc ..
    ·show L++ej k (O++[(b8 k r ax a,lv+1,t),(aV r ax a,lv+1,s)])=full
     rw [← hL,e2,iB,iB]
     show _=L++((aC k (aV r ax a) s++aC k (b8 k r ax a) t)++ej k O)
     rw [List.append_assoc]
    ·show ∀ x∈O++[(b8 k r ax a,lv+1,t),(aV r ax a,lv+1,s)],gq k Bd x
     intro x hx
     rcases List.mem_append.1 hx with hx|hx
     ·exact hgO x hx
     ·simp only [List.mem_cons,List.not_mem_nil,or_false] at hx
      rcases hx with rfl|rfl
      ·exact g8
      ·exact g7
end
end Go.Proofs.YtdndfncpglfdeaaGreatDoor.Tp
