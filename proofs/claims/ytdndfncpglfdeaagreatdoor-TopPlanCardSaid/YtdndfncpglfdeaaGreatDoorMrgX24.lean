/- RK: texts laid together. -/
import Derived.Test.YtdndfncpglfdeaaGreatDoorMrgX22
import Derived.Test.YtdndfncpglfdeaaGreatDoorMrgX23
import Derived.Test.YtdndfncpglfdeaaGreatDoorMrgS
set_option maxRecDepth 100000
set_option maxHeartbeats 64000000

namespace Go.Proofs.YtdndfncpglfdeaaGreatDoor.Ev
open Go.RowKit
instance:TyC Tryz.prog 4 false 1:=⟨by kernel_rfl⟩
instance:TyC Tryz.prog 158 true 7:=⟨by kernel_rfl⟩
instance:ZeroT Tryz.prog 158 [.slice none 0 0,.slice none 0 0,.bool false,.int .i64 0,.int .i64 0,.slice none 0 0,.slice none 0 0]:=⟨by kernel_rfl⟩
instance:FieldAt Tryz.prog 158 1 1:=⟨by kernel_rfl⟩
instance:FieldAt Tryz.prog 158 2 2:=⟨by kernel_rfl⟩
instance:FieldAt Tryz.prog 158 5 5:=⟨by kernel_rfl⟩
instance:StrT Tryz.prog 158 [(0,1),(1,1),(2,1),(3,1),(4,1),(5,1),(6,1)] [.slice none 0 0,.slice none 0 0,.bool false,.int .i64 0,.int .i64 0,.slice none 0 0,.slice none 0 0]:=⟨by kernel_rfl⟩
end Go.Proofs.YtdndfncpglfdeaaGreatDoor.Ev
namespace Go.Proofs.YtdndfncpglfdeaaGreatDoor.Tp
set_option linter.unusedVariables false
set_option linter.unusedSimpArgs false
open Go.RowKit Go.Proofs.YtdndfncpglfdeaaGreatDoor.Ev
open Go.Proofs.YtdndfncpglfdeaaGreatDoor.Cu (I LI LS gw ce)
open Go.Proofs.YtdndfncpglfdeaaGreatDoor.Ge (an aG)
variable {gl:List (Nat×List CV)}
theorem node_con (N:List Nd) (c:List Pr) (k:Int) (hN:N.length≤140) (hk:0≤k∧k≤20) (hcl:c.length≤16):∀ (m:Nat) (lv:Int),(65 - lv).toNat=m→1≤lv→lv≤65→∀ (X Y:an),Rb (X,Y)→X.1≤X.2∧Y.1≤Y.2→∀ (x:Wk),iz N x →
  OConE Tryz.prog gl 78 [.p,.c (dx (X,Y)),.c (I lv)] (wkP N c k x.a x.L x.n1 x.C x.n2) (fun γ:{x // iz N x}=>I γ.1.e) (fun γ=>wkP N c k γ.1.a γ.1.L γ.1.n1 γ.1.C γ.1.n2):=by
 intro m
 induction m using Nat.strongRecOn with
 | ind m ih =>
  intro lv hm hlv hlv2 X Y hR hR2 x hx
  by_cases hrip:∃ h:x.a < N.length,(N[x.a].1=2∨N[x.a].1=3)∧lv≤64
  ·obtain ⟨h1,h2,h3⟩:=hrip
   have IH:=ih (65 - (lv+1)).toNat (by omega) (lv+1) rfl (by omega) (by omega)
   rcases h2 with h2|h2
   ·exact node_rip2 N c k hN hk lv hlv h3 IH X Y hR hR2 x hx h1 h2
   ·exact node_rip3 N c k hN hk lv hlv h3 IH X Y hR hR2 x hx h1 h2
  obtain ⟨e0,a,L,n1,C,n2⟩:=x
  obtain ⟨X1,X2⟩:=X
  obtain ⟨Y1,Y2⟩:=Y
  have hx0:=hx
  obtain ⟨x1,x2,x3,x4,x5⟩:=hx
  obtain ⟨r1,r2,r3,r4⟩:=hR
  obtain ⟨r5,r6⟩:=hR2
  dsimp only at x1 x2 x3 x4 x5 r1 r2 r3 r4 r5 r6
  dsimp only
  refine oconE_of Tryz.func78 rfl (by kernel_rfl) rfl (by intro x hx h e;subst e;first|(simp at hx;done)|(intro g;simp at hx;subst hx;rfl)) ?_
  intro fr hfr
  simp only [Tryz.ntmps78,Tryz.results78,fk,avOf,aZ,List.map]
  refine aw_wkclose N c k ?_
  refine aw_ropen 0 rfl rfl ?_
  by_cases ha:a < N.length
  rotate_left
  ·skip
   repeat' (first
 | ((with_reducible apply dC);exact rfl;exact rfl)
 | (((with_reducible apply aa);exact rfl)<;>intro hg<;>(first|(exact absurd hg (by decide))|((try simp only [qz,ge_iff_le,List.cons.injEq,and_true] at hg);first|(exact absurd trivial hg)|(exfalso;omega)|(have hT:True:=hg;clear hT hg)|skip)))
 | (refine zs ?_)
 | fail
 )
   all_goals exact ⟨⟨3,a,L,n1,C,n2⟩,2,3,hx0,rfl,rfl,rfl,by decide,by decide,by decide,by decide,by decide,rfl,fun _=>aB rfl rfl⟩
  have cg:∀ p:Pr,bm Tryz.prog gl 68 [prC p] (.tup [I (aW p).1,I (aW p).2]):=fun p=>iD p
  have hw1:iz N ⟨0,a+1,L,n1,C,n2⟩:=⟨by dsimp only;omega,x2,x3,by dsimp only;omega,by dsimp only;omega⟩
  have ok:∀ e:Int,iz N ⟨e,a+1,L,n1,C,n2⟩:=fun e=>hw1
  have okL:∀ (e:Int) (y:aG×Int),iz N ⟨e,a+1,L++[y],n1+1,C,n2⟩:=fun e y=>⟨by dsimp only;omega,by simp [x2],x3,by dsimp only;omega,by dsimp only;omega⟩
  have okC:∀ (e:Int) (y:aG),iz N ⟨e,a+1,L,n1,C++[y],n2+1⟩:=fun e y=>⟨by dsimp only;omega,x2,by simp [x3],by dsimp only;omega,by dsimp only;omega⟩
  obtain ⟨K,ek⟩:∃ K,K=N[a].1:=⟨_,rfl⟩
  have hnr:¬ ((N[a].1=2∨N[a].1=3)∧lv≤64):=fun h=>hrip ⟨ha,h⟩
  obtain ⟨at',ea⟩:∃ q,q=N[a].2:=⟨_,rfl⟩
  by_cases k0:K < 0∨3 < K∨(K=0∧at'≠0)
  ·rcases k0 with k0|k0|⟨k0,k1⟩
   ·skip
    repeat' (first
 | ((with_reducible apply dC);exact rfl;exact rfl)
 | (refine bT (id:=3) 10 ?_ rfl br rfl ?_;(kernel_rfl);(simp only [List.take_succ_cons,List.take_zero,List.drop_succ_cons,List.drop_zero]))
 | ((with_reducible apply cy);exact rfl)
 | ((first|((with_reducible apply aj);iterate 4 exact rfl)|((with_reducible apply aa);exact rfl))<;>intro hg<;>(first|(exact absurd hg (by decide))|((try simp only [qz,ge_iff_le,List.cons.injEq,and_true] at hg);first|(exact absurd trivial hg)|(exfalso;omega)|(have hT:True:=hg;clear hT hg)|skip)))
 | (refine zs ?_)
 | fail
 )
    all_goals exact ⟨⟨10,a+1,L,n1,C,n2⟩,2,3,ok _,rfl,rfl,rfl,by decide,by decide,by decide,by decide,by decide,rfl,fun _=>aB rfl rfl⟩
   ·skip
    repeat' (first
 | ((with_reducible apply dC);exact rfl;exact rfl)
 | (refine bT (id:=3) 10 ?_ rfl br rfl ?_;(kernel_rfl);(simp only [List.take_succ_cons,List.take_zero,List.drop_succ_cons,List.drop_zero]))
 | ((with_reducible apply cy);exact rfl)
 | ((first|((with_reducible apply aj);iterate 4 exact rfl)|((with_reducible apply aa);exact rfl))<;>intro hg<;>(first|(exact absurd hg (by decide))|((try simp only [qz,ge_iff_le,List.cons.injEq,and_true] at hg);first|(exact absurd trivial hg)|(exfalso;omega)|(have hT:True:=hg;clear hT hg)|skip)))
 | (refine zs ?_)
 | fail
 )
    all_goals exact ⟨⟨10,a+1,L,n1,C,n2⟩,2,3,ok _,rfl,rfl,rfl,by decide,by decide,by decide,by decide,by decide,rfl,fun _=>aB rfl rfl⟩
   ·skip
    repeat' (first
 | ((with_reducible apply dC);exact rfl;exact rfl)
 | (refine bT (id:=3) 10 ?_ rfl br rfl ?_;(kernel_rfl);(simp only [List.take_succ_cons,List.take_zero,List.drop_succ_cons,List.drop_zero]))
 | ((with_reducible apply cy);exact rfl)
 | ((first|((with_reducible apply aj);iterate 4 exact rfl)|((with_reducible apply aa);exact rfl))<;>intro hg<;>(first|(exact absurd hg (by decide))|((try simp only [qz,ge_iff_le,List.cons.injEq,and_true] at hg);first|(exact absurd trivial hg)|(exfalso;omega)|(have hT:True:=hg;clear hT hg)|skip)))
 | (refine zs ?_)
 | fail
 )
    all_goals exact ⟨⟨10,a+1,L,n1,C,n2⟩,2,3,ok _,rfl,rfl,rfl,by decide,by decide,by decide,by decide,by decide,rfl,fun _=>aB rfl rfl⟩
  by_cases hl:64 < lv
  ·by_cases kz:K=0
   ·skip
    repeat' (first
 | ((with_reducible apply dC);exact rfl;exact rfl)
 | (refine bT (id:=3) 10 ?_ rfl br rfl ?_;(kernel_rfl);(simp only [List.take_succ_cons,List.take_zero,List.drop_succ_cons,List.drop_zero]))
 | ((with_reducible apply cy);exact rfl)
 | ((first|((with_reducible apply aj);iterate 4 exact rfl)|((with_reducible apply aa);exact rfl))<;>intro hg<;>(first|(exact absurd hg (by decide))|((try simp only [qz,ge_iff_le,List.cons.injEq,and_true] at hg);first|(exact absurd trivial hg)|(exfalso;omega)|(have hT:True:=hg;clear hT hg)|skip)))
 | (refine zs ?_)
 | fail
 )
    all_goals exact ⟨⟨28,a+1,L,n1,C,n2⟩,2,3,ok _,rfl,rfl,rfl,by decide,by decide,by decide,by decide,by decide,rfl,fun _=>aB rfl rfl⟩
   ·skip
    repeat' (first
 | ((with_reducible apply dC);exact rfl;exact rfl)
 | (refine bT (id:=3) 10 ?_ rfl br rfl ?_;(kernel_rfl);(simp only [List.take_succ_cons,List.take_zero,List.drop_succ_cons,List.drop_zero]))
 | ((with_reducible apply cy);exact rfl)
 | ((first|((with_reducible apply aj);iterate 4 exact rfl)|((with_reducible apply aa);exact rfl))<;>intro hg<;>(first|(exact absurd hg (by decide))|((try simp only [qz,ge_iff_le,List.cons.injEq,and_true] at hg);first|(exact absurd trivial hg)|(exfalso;omega)|(have hT:True:=hg;clear hT hg)|skip)))
 | (refine zs ?_)
 | fail
 )
    all_goals exact ⟨⟨28,a+1,L,n1,C,n2⟩,2,3,ok _,rfl,rfl,rfl,by decide,by decide,by decide,by decide,by decide,rfl,fun _=>aB rfl rfl⟩
  by_cases kz:K=0
  ·skip
   repeat' (first
 | ((with_reducible apply dC);exact rfl;exact rfl)
 | (refine bT (id:=3) 10 ?_ rfl br rfl ?_;(kernel_rfl);(simp only [List.take_succ_cons,List.take_zero,List.drop_succ_cons,List.drop_zero]))
 | ((with_reducible apply cy);exact rfl)
 | ((with_reducible apply (d7_app (enc:=lfC) (l2:=[((((X1,X2),(Y1,Y2)):aG),(-1:Int))])));exact rfl;exact inferInstance;exact rfl;exact rfl;exact inferInstance;exact x2;exact rfl;exact (by show n1+1 < _;omega);exact (by show (n1+1) * _≤_;omega);iterate 3 exact rfl)
 | ((with_reducible apply bg);iterate 7 exact rfl)
 | (refine fT [2,0] [1,2,3,4,5,6,7] [0] 4 _ ?_ rfl rfl ?_;(decide +kernel);(simp only [pk,List.drop_succ_cons,List.drop_zero,List.map_cons,List.map_nil,List.cons_append,List.nil_append]))
 | ((with_reducible apply fR))
 | ((with_reducible apply fV))
 | ((with_reducible apply hU))
 | ((with_reducible apply d7_nil);(decide +kernel))
 | (first|(refine aI [8] (by decide +kernel) rfl ?_)|(refine aI [9] (by decide +kernel) rfl ?_)|(refine aI [10] (by decide +kernel) rfl ?_)|(refine aI [11] (by decide +kernel) rfl ?_)|(refine aI [8,9] (by decide +kernel) rfl ?_)|(refine aI [8,10] (by decide +kernel) rfl ?_)|(refine aI [8,11] (by decide +kernel) rfl ?_)|(refine aI [9,10] (by decide +kernel) rfl ?_)|(refine aI [9,11] (by decide +kernel) rfl ?_)|(refine aI [10,11] (by decide +kernel) rfl ?_)|(refine aI [8,9,10] (by decide +kernel) rfl ?_)|(refine aI [8,9,11] (by decide +kernel) rfl ?_)|(refine aI [8,10,11] (by decide +kernel) rfl ?_)|(refine aI [9,10,11] (by decide +kernel) rfl ?_))
 | ((with_reducible refine List.forall_mem_cons.2 ⟨?_,?_⟩))
 | ((with_reducible exact d7_none))
 | ((with_reducible apply d7_a);exact rfl;exact inferInstance;exact rfl)
 | ((with_reducible apply d7_pa);exact rfl;exact inferInstance;iterate 8 exact rfl)
 | ((with_reducible apply d7_p);exact rfl;exact inferInstance;iterate 8 exact rfl)
 | ((with_reducible apply d7_q);exact rfl;(simp only [pk,List.drop_succ_cons,List.drop_zero]))
 | ((first|((with_reducible apply aj);iterate 4 exact rfl)|((with_reducible apply aa);exact rfl))<;>intro hg<;>(first|(exact absurd hg (by decide))|((try simp only [qz,ge_iff_le,List.cons.injEq,and_true] at hg);first|(exact absurd trivial hg)|(exfalso;omega)|(have hT:True:=hg;clear hT hg)|skip)))
 | (refine zs ?_)
 | fail
 )
   all_goals exact ⟨⟨0,a+1,_,_,C,n2⟩,2,3,okL _ _,rfl,rfl,rfl,by decide,by decide,by decide,by decide,by decide,rfl,fun _=>aB rfl rfl⟩
  have hEx:N[a]=(N[a].1,N[a].2):=rfl
  by_cases ko:K=1
  ·by_cases hb:0≤at'∧at' < c.length
   ·have hq:N[a].2.toNat < c.length:=by omega
    have cgr:=cg c[N[a].2.toNat]
    repeat' (first
 | ((with_reducible apply dC);exact rfl;exact rfl)
 | (refine bT (id:=3) 10 ?_ rfl br rfl ?_;(kernel_rfl);(simp only [List.take_succ_cons,List.take_zero,List.drop_succ_cons,List.drop_zero]))
 | ((with_reducible apply cy);exact rfl)
 | ((with_reducible apply (d7_app (enc:=lfC) (l2:=[((((X1,X2),(Y1,Y2)):aG),N[a].2)])));exact rfl;exact inferInstance;exact rfl;exact rfl;exact inferInstance;exact x2;exact rfl;exact (by show n1+1 < _;omega);exact (by show (n1+1) * _≤_;omega);iterate 3 exact rfl)
 | ((with_reducible apply bg);iterate 7 exact rfl)
 | (refine fT [2,0] [1,2,3,4,5,6,7,8,9] [0] 4 _ ?_ rfl rfl ?_;(decide +kernel);(simp only [pk,List.drop_succ_cons,List.drop_zero,List.map_cons,List.map_nil,List.cons_append,List.nil_append]))
 | ((with_reducible apply fR))
 | ((with_reducible apply fV))
 | ((with_reducible apply hU))
 | ((with_reducible apply d7_nil);(decide +kernel))
 | (first|(refine aI [10] (by decide +kernel) rfl ?_)|(refine aI [11] (by decide +kernel) rfl ?_)|(refine aI [12] (by decide +kernel) rfl ?_)|(refine aI [13] (by decide +kernel) rfl ?_)|(refine aI [10,11] (by decide +kernel) rfl ?_)|(refine aI [10,12] (by decide +kernel) rfl ?_)|(refine aI [10,13] (by decide +kernel) rfl ?_)|(refine aI [11,12] (by decide +kernel) rfl ?_)|(refine aI [11,13] (by decide +kernel) rfl ?_)|(refine aI [12,13] (by decide +kernel) rfl ?_)|(refine aI [10,11,12] (by decide +kernel) rfl ?_)|(refine aI [10,11,13] (by decide +kernel) rfl ?_)|(refine aI [10,12,13] (by decide +kernel) rfl ?_)|(refine aI [11,12,13] (by decide +kernel) rfl ?_))
 | ((with_reducible refine List.forall_mem_cons.2 ⟨?_,?_⟩))
 | ((with_reducible exact d7_none))
 | ((with_reducible apply d7_a);exact rfl;exact inferInstance;exact rfl)
 | ((with_reducible apply d7_pa);exact rfl;exact inferInstance;iterate 8 exact rfl)
 | ((with_reducible apply d7_p);exact rfl;exact inferInstance;iterate 8 exact rfl)
 | ((with_reducible apply d7_q);exact rfl;(simp only [pk,List.drop_succ_cons,List.drop_zero]))
 | ((with_reducible apply (ah (f:=68)));exact rfl;exact rfl;exact cgr;exact rfl;exact rfl)
 | ((with_reducible apply (r_in Tryz.func120 rfl Tryz.results120 (by kernel_rfl) Tryz.ntmps120));iterate 4 exact rfl)
 | ((with_reducible apply co);exact rfl)
 | ((first|((with_reducible apply aj);iterate 4 exact rfl)|((with_reducible apply aa);exact rfl))<;>intro hg<;>(first|(exact absurd hg (by decide))|((try simp only [qz,ge_iff_le,List.cons.injEq,and_true] at hg);first|(exact absurd trivial hg)|(exfalso;omega)|(have hT:True:=hg;clear hT hg)|skip)))
 | (((with_reducible apply bL);iterate 3 exact rfl)<;>intro hg<;>(first|(exact absurd hg (by decide))|((try rw [hg]);(try simp only [qz,ge_iff_le,List.cons.injEq,and_true] at hg);first|(exact absurd trivial hg)|(exfalso;omega)|(have hT:True:=hg;clear hT hg)|skip)))
 | (refine zs ?_)
 | fail
 )
    all_goals exact ⟨⟨_,a+1,_,_,C,n2⟩,2,3,okL _ _,rfl,rfl,rfl,by decide,by decide,by decide,by decide,by decide,rfl,fun _=>aB rfl rfl⟩
   ·by_cases hb0:at' < 0
    ·skip
     repeat' (first
 | ((with_reducible apply dC);exact rfl;exact rfl)
 | (refine bT (id:=3) 10 ?_ rfl br rfl ?_;(kernel_rfl);(simp only [List.take_succ_cons,List.take_zero,List.drop_succ_cons,List.drop_zero]))
 | ((with_reducible apply cy);exact rfl)
 | ((with_reducible apply (d7_app (enc:=lfC) (l2:=[((((X1,X2),(Y1,Y2)):aG),N[a].2)])));exact rfl;exact inferInstance;exact rfl;exact rfl;exact inferInstance;exact x2;exact rfl;exact (by show n1+1 < _;omega);exact (by show (n1+1) * _≤_;omega);iterate 3 exact rfl)
 | ((with_reducible apply bg);iterate 7 exact rfl)
 | (refine fT [2,0] [1,2,3,4,5,6,7,8,9] [0] 4 _ ?_ rfl rfl ?_;(decide +kernel);(simp only [pk,List.drop_succ_cons,List.drop_zero,List.map_cons,List.map_nil,List.cons_append,List.nil_append]))
 | ((with_reducible apply fR))
 | ((with_reducible apply fV))
 | ((with_reducible apply hU))
 | ((with_reducible apply d7_nil);(decide +kernel))
 | (first|(refine aI [10] (by decide +kernel) rfl ?_)|(refine aI [11] (by decide +kernel) rfl ?_)|(refine aI [12] (by decide +kernel) rfl ?_)|(refine aI [13] (by decide +kernel) rfl ?_)|(refine aI [10,11] (by decide +kernel) rfl ?_)|(refine aI [10,12] (by decide +kernel) rfl ?_)|(refine aI [10,13] (by decide +kernel) rfl ?_)|(refine aI [11,12] (by decide +kernel) rfl ?_)|(refine aI [11,13] (by decide +kernel) rfl ?_)|(refine aI [12,13] (by decide +kernel) rfl ?_)|(refine aI [10,11,12] (by decide +kernel) rfl ?_)|(refine aI [10,11,13] (by decide +kernel) rfl ?_)|(refine aI [10,12,13] (by decide +kernel) rfl ?_)|(refine aI [11,12,13] (by decide +kernel) rfl ?_))
 | ((with_reducible refine List.forall_mem_cons.2 ⟨?_,?_⟩))
 | ((with_reducible exact d7_none))
 | ((with_reducible apply d7_a);exact rfl;exact inferInstance;exact rfl)
 | ((with_reducible apply d7_pa);exact rfl;exact inferInstance;iterate 8 exact rfl)
 | ((with_reducible apply d7_p);exact rfl;exact inferInstance;iterate 8 exact rfl)
 | ((with_reducible apply d7_q);exact rfl;(simp only [pk,List.drop_succ_cons,List.drop_zero]))
 | ((with_reducible apply (r_in Tryz.func120 rfl Tryz.results120 (by kernel_rfl) Tryz.ntmps120));iterate 4 exact rfl)
 | ((with_reducible apply co);exact rfl)
 | ((first|((with_reducible apply aj);iterate 4 exact rfl)|((with_reducible apply aa);exact rfl))<;>intro hg<;>(first|(exact absurd hg (by decide))|((try simp only [qz,ge_iff_le,List.cons.injEq,and_true] at hg);first|(exact absurd trivial hg)|(exfalso;omega)|(have hT:True:=hg;clear hT hg)|skip)))
 | (((with_reducible apply bL);iterate 3 exact rfl)<;>intro hg<;>(first|(exact absurd hg (by decide))|((try rw [hg]);(try simp only [qz,ge_iff_le,List.cons.injEq,and_true] at hg);first|(exact absurd trivial hg)|(exfalso;omega)|(have hT:True:=hg;clear hT hg)|skip)))
 | (refine zs ?_)
 | fail
 )
     all_goals exact ⟨⟨_,a+1,_,_,C,n2⟩,2,3,okL _ _,rfl,rfl,rfl,by decide,by decide,by decide,by decide,by decide,rfl,fun _=>aB rfl rfl⟩
    ·skip
     repeat' (first
 | ((with_reducible apply dC);exact rfl;exact rfl)
 | (refine bT (id:=3) 10 ?_ rfl br rfl ?_;(kernel_rfl);(simp only [List.take_succ_cons,List.take_zero,List.drop_succ_cons,List.drop_zero]))
 | ((with_reducible apply cy);exact rfl)
 | ((with_reducible apply (d7_app (enc:=lfC) (l2:=[((((X1,X2),(Y1,Y2)):aG),N[a].2)])));exact rfl;exact inferInstance;exact rfl;exact rfl;exact inferInstance;exact x2;exact rfl;exact (by show n1+1 < _;omega);exact (by show (n1+1) * _≤_;omega);iterate 3 exact rfl)
 | ((with_reducible apply bg);iterate 7 exact rfl)
 | (refine fT [2,0] [1,2,3,4,5,6,7,8,9] [0] 4 _ ?_ rfl rfl ?_;(decide +kernel);(simp only [pk,List.drop_succ_cons,List.drop_zero,List.map_cons,List.map_nil,List.cons_append,List.nil_append]))
 | ((with_reducible apply fR))
 | ((with_reducible apply fV))
 | ((with_reducible apply hU))
 | ((with_reducible apply d7_nil);(decide +kernel))
 | (first|(refine aI [10] (by decide +kernel) rfl ?_)|(refine aI [11] (by decide +kernel) rfl ?_)|(refine aI [12] (by decide +kernel) rfl ?_)|(refine aI [13] (by decide +kernel) rfl ?_)|(refine aI [10,11] (by decide +kernel) rfl ?_)|(refine aI [10,12] (by decide +kernel) rfl ?_)|(refine aI [10,13] (by decide +kernel) rfl ?_)|(refine aI [11,12] (by decide +kernel) rfl ?_)|(refine aI [11,13] (by decide +kernel) rfl ?_)|(refine aI [12,13] (by decide +kernel) rfl ?_)|(refine aI [10,11,12] (by decide +kernel) rfl ?_)|(refine aI [10,11,13] (by decide +kernel) rfl ?_)|(refine aI [10,12,13] (by decide +kernel) rfl ?_)|(refine aI [11,12,13] (by decide +kernel) rfl ?_))
 | ((with_reducible refine List.forall_mem_cons.2 ⟨?_,?_⟩))
 | ((with_reducible exact d7_none))
 | ((with_reducible apply d7_a);exact rfl;exact inferInstance;exact rfl)
 | ((with_reducible apply d7_pa);exact rfl;exact inferInstance;iterate 8 exact rfl)
 | ((with_reducible apply d7_p);exact rfl;exact inferInstance;iterate 8 exact rfl)
 | ((with_reducible apply d7_q);exact rfl;(simp only [pk,List.drop_succ_cons,List.drop_zero]))
 | ((with_reducible apply (r_in Tryz.func120 rfl Tryz.results120 (by kernel_rfl) Tryz.ntmps120));iterate 4 exact rfl)
 | ((with_reducible apply co);exact rfl)
 | ((first|((with_reducible apply aj);iterate 4 exact rfl)|((with_reducible apply aa);exact rfl))<;>intro hg<;>(first|(exact absurd hg (by decide))|((try simp only [qz,ge_iff_le,List.cons.injEq,and_true] at hg);first|(exact absurd trivial hg)|(exfalso;omega)|(have hT:True:=hg;clear hT hg)|skip)))
 | (((with_reducible apply bL);iterate 3 exact rfl)<;>intro hg<;>(first|(exact absurd hg (by decide))|((try rw [hg]);(try simp only [qz,ge_iff_le,List.cons.injEq,and_true] at hg);first|(exact absurd trivial hg)|(exfalso;omega)|(have hT:True:=hg;clear hT hg)|skip)))
 | (refine zs ?_)
 | fail
 )
     all_goals exact ⟨⟨_,a+1,_,_,C,n2⟩,2,3,okL _ _,rfl,rfl,rfl,by decide,by decide,by decide,by decide,by decide,rfl,fun _=>aB rfl rfl⟩
  exfalso;omega
def wkR (γ:Int×Option (List (aG×Int)×List aG)):CV:=match γ.2 with
 | none=>.tup [.v (.slice none 0 0),.v (.slice none 0 0),I γ.1]
 | some (L,C)=>.tup [LLf L,LRc C,I γ.1]
theorem rwalk_con (N:List Nd) (X Y:an) (c:List Pr) (k:Int) (hN:N.length≤140) (hX:aJ X) (hY:aJ Y) (hk:0≤k∧k≤20) (hcl:c.length≤16) :
  ConE Tryz.prog gl 37 [fI X Y N,fj c,BO true,I k] wkR:=by
 have c1:=framed_con (gl:=gl) X Y
 rw [decide_eq_true ⟨hX,hY⟩] at c1
 have cn:=node_con (gl:=gl) N c k hN hk hcl 64 1 rfl (by decide) (by decide) X Y ⟨hX.1,hX.2.2,hY.1,hY.2.2⟩ ⟨Int.le_of_lt hX.2.1,Int.le_of_lt hY.2.1⟩ ⟨0,0,[],0,[],0⟩ ⟨Nat.zero_le _,rfl,rfl,Nat.le_refl _,Nat.le_refl _⟩
 dsimp only at cn
 refine conE_of Tryz.func37 rfl (by kernel_rfl) rfl ?_
 simp only [Tryz.ntmps37,Tryz.results37,am,ofC,aZ,List.map]
 by_cases h127:N.length≤127
 rotate_left
 ·skip
  repeat' (first
 | ((with_reducible apply (ah (f:=31)));exact rfl;exact rfl;exact c1;exact rfl;exact rfl)
 | ((first|((with_reducible apply aj);iterate 4 exact rfl)|((with_reducible apply aa);exact rfl))<;>intro hg<;>(first|(exact absurd hg (by decide))|((try simp only [qz,ge_iff_le,List.cons.injEq,and_true] at hg);first|(exact absurd trivial hg)|(exfalso;omega)|(have hT:True:=hg;clear hT hg)|skip)))
 | (refine zs ?_)
 | fail
 )
  all_goals exact ⟨(4,none),bJ (.cons (.tmp rfl ap) (.cons (.tmp rfl ap) (.cons (.tmp rfl ap) .nil)))⟩
 repeat' (first
 | ((with_reducible apply (ah (f:=31)));exact rfl;exact rfl;exact c1;exact rfl;exact rfl)
 | (refine bO 1 5 111 5 rfl rfl rfl rfl ?_)
 | (refine bO 1 6 37 4 rfl rfl rfl rfl ?_)
 | ((first|((with_reducible apply aj);iterate 4 exact rfl)|((with_reducible apply aa);exact rfl))<;>intro hg<;>(first|(exact absurd hg (by decide))|((try simp only [qz,ge_iff_le,List.cons.injEq,and_true] at hg);first|(exact absurd trivial hg)|(exfalso;omega)|(have hT:True:=hg;clear hT hg)|skip)))
 | (refine zs ?_)
 | fail
 )
 refine ib 1 2 3 (wkL N c k ((0:Nat):Int)) rfl rfl rfl rfl rfl rfl (by decide) (by decide) (by decide) ?_
 refine r_callOE (f:=78) 1 cn rfl rfl rfl rfl ?_
 rintro ⟨⟨e,a,L,n1,C,n2⟩,hok⟩
 obtain ⟨y1,y2,y3,y4,y5⟩:=hok
 dsimp only at y1 y2 y3 y4 y5
 refine ao_ropen 1 rfl rfl ?_
 by_cases he:e=0
 ·by_cases ha:a < N.length
  ·skip
   repeat' (first
 | ((first|((with_reducible apply aj);iterate 4 exact rfl)|((with_reducible apply aa);exact rfl))<;>intro hg<;>(first|(exact absurd hg (by decide))|((try simp only [qz,ge_iff_le,List.cons.injEq,and_true] at hg);first|(exact absurd trivial hg)|(exfalso;omega)|(have hT:True:=hg;clear hT hg)|skip)))
 | (refine zs ?_)
 | fail
 )
   all_goals exact ⟨(4,none),bJ (.cons (.tmp rfl ap) (.cons (.tmp rfl ap) (.cons (.tmp rfl ap) .nil)))⟩
  ·skip
   repeat' (first
 | ((first|((with_reducible apply aj);iterate 4 exact rfl)|((with_reducible apply aa);exact rfl))<;>intro hg<;>(first|(exact absurd hg (by decide))|((try simp only [qz,ge_iff_le,List.cons.injEq,and_true] at hg);first|(exact absurd trivial hg)|(exfalso;omega)|(have hT:True:=hg;clear hT hg)|skip)))
 | (refine zs ?_)
 | fail
 )
   all_goals exact ⟨(0,some (L,C)),bJ (.cons (.tmp rfl (bx rfl (by rw [av EncL.len];show L.length * 5=n1 * 5;rw [y2]))) (.cons (.tmp rfl (bx rfl (by rw [av EncL.len];show C.length * 4=n2 * 4;rw [y3]))) (.cons (.tmp rfl ap) .nil)))⟩
 ·skip
  repeat' (first
 | ((first|((with_reducible apply aj);iterate 4 exact rfl)|((with_reducible apply aa);exact rfl))<;>intro hg<;>(first|(exact absurd hg (by decide))|((try simp only [qz,ge_iff_le,List.cons.injEq,and_true] at hg);first|(exact absurd trivial hg)|(exfalso;omega)|(have hT:True:=hg;clear hT hg)|skip)))
 | (refine zs ?_)
 | fail
 )
  all_goals exact ⟨(e,none),bJ (.cons (.tmp rfl ap) (.cons (.tmp rfl ap) (.cons (.tmp rfl ap) .nil)))⟩
theorem rpatcheck_con (N:List Nd) (X Y:an) (c:List Pr) (k:Int) (hN:N.length≤140) (hX:aJ X) (hY:aJ Y) (hk:0≤k∧k≤20) (hcl:c.length≤16) :
  ConE Tryz.prog gl 10 [fI X Y N,fj c,I k] (fun γ:Int=>I γ):=by
 have c1:=rwalk_con (gl:=gl) N X Y c k hN hX hY hk hcl
 refine conE_of Tryz.func10 rfl (by kernel_rfl) rfl ?_
 simp only [Tryz.ntmps10,Tryz.results10,am,ofC,aZ,List.map]
 repeat' (first
 | (refine zs ?_)
 | fail
 )
 refine r_callE (f:=37) c1 rfl rfl rfl ?_
 rintro ⟨e,o⟩
 unfold wkR
 cases o with
 | none =>
  dsimp only
  repeat' (first
 | (refine zs ?_)
 | fail
 )
  all_goals exact ⟨e,aB rfl rfl⟩
 | some LC =>
  obtain ⟨L,C⟩:=LC
  dsimp only
  repeat' (first
 | (refine zs ?_)
 | fail
 )
  all_goals exact ⟨e,aB rfl rfl⟩
end Go.Proofs.YtdndfncpglfdeaaGreatDoor.Tp
