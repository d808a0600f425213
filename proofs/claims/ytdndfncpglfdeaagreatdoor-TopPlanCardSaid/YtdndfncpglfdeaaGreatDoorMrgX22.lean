/- RI: texts laid together. -/
import Derived.Test.YtdndfncpglfdeaaGreatDoorMrgX21
import Derived.Test.YtdndfncpglfdeaaGreatDoorMrgS
set_option maxRecDepth 100000
set_option maxHeartbeats 64000000

namespace Go.Proofs.YtdndfncpglfdeaaGreatDoor.Tp
set_option linter.unusedVariables false
set_option linter.unusedSimpArgs false
open Go.RowKit Go.Proofs.YtdndfncpglfdeaaGreatDoor.Ev
open Go.Proofs.YtdndfncpglfdeaaGreatDoor.Cu (I LI LS gw ce)
open Go.Proofs.YtdndfncpglfdeaaGreatDoor.Ge (an aG)
variable {gl:List (Nat×List CV)}
theorem node_rip2 (N:List Nd) (c:List Pr) (k:Int) (hN:N.length≤140) (hk:0≤k∧k≤20) (lv:Int) (hlv:1≤lv) (hlv2:lv≤64)
  (IH:∀ (X Y:an),Rb (X,Y)→X.1≤X.2∧Y.1≤Y.2→∀ (x:Wk),iz N x→OConE Tryz.prog gl 78 [.p,.c (dx (X,Y)),.c (I (lv+1))] (wkP N c k x.a x.L x.n1 x.C x.n2) (fun γ:{x // iz N x}=>I γ.1.e) (fun γ=>wkP N c k γ.1.a γ.1.L γ.1.n1 γ.1.C γ.1.n2))
  (X Y:an) (hR:Rb (X,Y)) (hR2:X.1≤X.2∧Y.1≤Y.2) (x:Wk) (hx:iz N x) (ha:x.a < N.length) (hK:N[x.a].1=2) :
  OConE Tryz.prog gl 78 [.p,.c (dx (X,Y)),.c (I lv)] (wkP N c k x.a x.L x.n1 x.C x.n2) (fun γ:{x // iz N x}=>I γ.1.e) (fun γ=>wkP N c k γ.1.a γ.1.L γ.1.n1 γ.1.C γ.1.n2):=by
 obtain ⟨e0,a,L,n1,C,n2⟩:=x
 obtain ⟨X1,X2⟩:=X
 obtain ⟨Y1,Y2⟩:=Y
 obtain ⟨x1,x2,x3,x4,x5⟩:=hx
 obtain ⟨r1,r2,r3,r4⟩:=hR
 obtain ⟨r5,r6⟩:=hR2
 dsimp only at x1 x2 x3 x4 x5 r1 r2 r3 r4 r5 r6 ha hK
 dsimp only
 have hw1:iz N ⟨20,a+1,L,n1,C,n2⟩:=⟨by dsimp only;omega,x2,x3,by dsimp only;omega,by dsimp only;omega⟩
 have okC:∀ (y:aG),iz N ⟨0,a+1,L,n1,C++[y],n2+1⟩:=fun y=>⟨by dsimp only;omega,x2,by simp [x3],by dsimp only;omega,by dsimp only;omega⟩
 refine oconE_of Tryz.func78 rfl (by kernel_rfl) rfl (by intro x hx h e;subst e;first|(simp at hx;done)|(intro g;simp at hx;subst hx;rfl)) ?_
 intro fr hfr
 simp only [Tryz.ntmps78,Tryz.results78,fk,avOf,aZ,List.map]
 refine aw_wkclose N c k ?_
 refine aw_ropen 0 rfl rfl ?_
 have cp:=fun (h:aQ (N[a].2+k))=>Parts_con (gl:=gl) (X1,X2) N[a].2 k h
 dsimp only at cp
 repeat' (first
 | ((with_reducible apply dC);exact rfl;exact rfl)
 | (refine bT (id:=3) 10 ?_ rfl br rfl ?_;(kernel_rfl);(simp only [List.take_succ_cons,List.take_zero,List.drop_succ_cons,List.drop_zero]))
 | ((with_reducible apply cy);exact rfl)
 | ((with_reducible apply (d7_app (enc:=rcC) (l2:=[(((N[a].2,min (N[a].2+k) X2),(Y1,Y2)):aG)])));exact rfl;exact inferInstance;exact rfl;exact rfl;exact inferInstance;exact x3;exact rfl;exact (by show n2+1 < _;omega);exact (by show (n2+1) * _≤_;omega);iterate 3 exact rfl)
 | (refine aw_drawS [6,7,8] [0,1,2] 6 ?_ rfl ?_;(decide +kernel);(simp only [pk,List.drop_succ_cons,List.drop_zero,List.map_cons,List.map_nil,List.cons_append,List.nil_append]))
 | ((with_reducible apply ds_nilS))
 | ((with_reducible apply d3_nil);(decide +kernel))
 | (first|(refine bE [3,4,5] (by decide +kernel) rfl ?_)|(refine bE [4,5] (by decide +kernel) rfl ?_)|(refine bE [3,5] (by decide +kernel) rfl ?_)|(refine bE [3,4] (by decide +kernel) rfl ?_)|(refine bE [3] (by decide +kernel) rfl ?_)|(refine bE [4] (by decide +kernel) rfl ?_)|(refine bE [5] (by decide +kernel) rfl ?_)|(refine bE [6] (by decide +kernel) rfl ?_)|(refine bE [7] (by decide +kernel) rfl ?_)|(refine bE [8] (by decide +kernel) rfl ?_))
 | ((with_reducible refine List.forall_mem_cons.2 ⟨?_,?_⟩))
 | ((with_reducible exact d3_none))
 | ((with_reducible apply d3_a);exact rfl;exact inferInstance;exact rfl)
 | ((with_reducible apply d3_pa);exact rfl;exact inferInstance;iterate 8 exact rfl)
 | ((with_reducible apply d3_p);exact rfl;exact inferInstance;iterate 8 exact rfl)
 | (refine aw_drawV [6,7,8] [0,1,2,3,4,5,6,7,8,9,10] [11,12] 6 _ ?_ rfl rfl ?_;(decide +kernel);(simp only [pk,List.drop_succ_cons,List.drop_zero,List.map_cons,List.map_nil,List.cons_append,List.nil_append]))
 | ((with_reducible apply ig))
 | ((with_reducible apply gT))
 | ((with_reducible apply ds_nilV))
 | ((with_reducible apply d4_nil);(decide +kernel))
 | (first|(refine ay [13] (by decide +kernel) rfl ?_)|(refine ay [14] (by decide +kernel) rfl ?_)|(refine ay [15] (by decide +kernel) rfl ?_)|(refine ay [16] (by decide +kernel) rfl ?_)|(refine ay [17] (by decide +kernel) rfl ?_)|(refine ay [18] (by decide +kernel) rfl ?_))
 | ((with_reducible refine List.forall_mem_cons.2 ⟨?_,?_⟩))
 | ((with_reducible exact d4_none))
 | ((with_reducible apply d4_a);exact rfl;exact inferInstance;exact rfl)
 | ((with_reducible apply d4_pa);exact rfl;exact inferInstance;iterate 8 exact rfl)
 | ((with_reducible apply d4_p);exact rfl;exact inferInstance;iterate 8 exact rfl)
 | ((with_reducible apply d4_q);exact rfl;(simp only [pk,List.drop_succ_cons,List.drop_zero]))
 | ((with_reducible apply bg);iterate 7 exact rfl)
 | (refine fT [3,0] [1,2,3,4,5,6] [0] 4 _ ?_ rfl rfl ?_;(decide +kernel);(simp only [pk,List.drop_succ_cons,List.drop_zero,List.map_cons,List.map_nil,List.cons_append,List.nil_append]))
 | ((with_reducible apply fR))
 | ((with_reducible apply fV))
 | ((with_reducible apply hU))
 | ((with_reducible apply d7_nil);(decide +kernel))
 | (first|(refine aI [7] (by decide +kernel) rfl ?_)|(refine aI [8] (by decide +kernel) rfl ?_)|(refine aI [9] (by decide +kernel) rfl ?_)|(refine aI [10] (by decide +kernel) rfl ?_))
 | ((with_reducible refine List.forall_mem_cons.2 ⟨?_,?_⟩))
 | ((with_reducible exact d7_none))
 | ((with_reducible apply d7_a);exact rfl;exact inferInstance;exact rfl)
 | ((with_reducible apply d7_pa);exact rfl;exact inferInstance;iterate 8 exact rfl)
 | ((with_reducible apply d7_p);exact rfl;exact inferInstance;iterate 8 exact rfl)
 | ((with_reducible apply d7_q);exact rfl;(simp only [pk,List.drop_succ_cons,List.drop_zero]))
 | ((with_reducible apply (ah (f:=121)));exact rfl;exact rfl;exact cp (by unfold aQ;omega);exact rfl;exact rfl)
 | ((first|((with_reducible apply aj);iterate 4 exact rfl)|((with_reducible apply aa);exact rfl))<;>intro hg<;>(first|(exact absurd hg (by decide))|((try simp only [qz,ge_iff_le,List.cons.injEq,and_true] at hg);first|(exact absurd trivial hg)|(exfalso;omega)|(have hT:True:=hg;clear hT hg)|skip)))
 | (refine zs ?_)
 | fail
 )
 any_goals (first|(exact ⟨⟨20,a+1,L,n1,C,n2⟩,2,3,hw1,rfl,rfl,rfl,by decide,by decide,by decide,by decide,by decide,rfl,fun _=>aB rfl rfl⟩)|(show aP _ _ _ _ _))
 all_goals
  have g1:X1 < N[a].2:=by omega
  have g2:N[a].2 < X2:=by omega
  have i1:=IH (X1,N[a].2) (Y1,Y2) ⟨by dsimp only;omega,by dsimp only;omega,by dsimp only;omega,by dsimp only;omega⟩ ⟨by dsimp only;omega,by dsimp only;omega⟩ ⟨0,a+1,L,n1,C++[((N[a].2,min (N[a].2+k) X2),(Y1,Y2))],n2+1⟩ (okC _)
  have i2:=IH (min (N[a].2+k) X2,X2) (Y1,Y2) ⟨by dsimp only;omega,by dsimp only;omega,by dsimp only;omega,by dsimp only;omega⟩ ⟨by dsimp only;omega,by dsimp only;omega⟩
  clear IH
  dsimp only at i1
  refine ib 0 2 3 (wkL N c k ((a+1:Nat):Int)) rfl rfl rfl rfl (by rw [av EncL.len,x2]) (by rw [av EncL.len,List.length_append,x3]) (by decide) (by decide) (by decide) ?_
  refine r_callOE (f:=78) 0 i1 rfl rfl rfl rfl ?_
  rintro ⟨⟨e,a2,L2,m1,C2,m2⟩,hok⟩
  have ho:=hok
  obtain ⟨y1,y2,y3,y4,y5⟩:=ho
  dsimp only at y1 y2 y3 y4 y5
  refine ao_ropen 0 rfl rfl ?_
  by_cases he:e=0
  ·skip
   repeat' (first
 | ((with_reducible apply dC);exact rfl;exact rfl)
 | (((with_reducible apply aa);exact rfl)<;>intro hg<;>(first|(exact absurd hg (by decide))|((try simp only [qz,ge_iff_le,List.cons.injEq,and_true] at hg);first|(exact absurd trivial hg)|(exfalso;omega)|(have hT:True:=hg;clear hT hg)|skip)))
 | (refine zs ?_)
 | fail
 )
   refine ib 0 9 10 (wkL N c k (a2:Int)) rfl rfl rfl rfl (by rw [av EncL.len,y2]) (by rw [av EncL.len,y3]) (by decide) (by decide) (by decide) ?_
   refine r_callOE (f:=78) 0 (i2 ⟨0,a2,L2,m1,C2,m2⟩ hok) rfl rfl rfl rfl ?_
   rintro ⟨⟨e3,a3,L3,q1,C3,q2⟩,hok3⟩
   refine ao_ropen 0 rfl rfl ?_
   repeat' (first
 | ((with_reducible apply dC);exact rfl;exact rfl)
 | (refine zs ?_)
 | fail
 )
   exact ⟨⟨e3,a3,L3,q1,C3,q2⟩,11,12,hok3,rfl,rfl,rfl,by decide,by decide,by decide,by decide,by decide,rfl,fun _=>aB rfl rfl⟩
  ·skip
   repeat' (first
 | ((with_reducible apply dC);exact rfl;exact rfl)
 | (((with_reducible apply aa);exact rfl)<;>intro hg<;>(first|(exact absurd hg (by decide))|((try simp only [qz,ge_iff_le,List.cons.injEq,and_true] at hg);first|(exact absurd trivial hg)|(exfalso;omega)|(have hT:True:=hg;clear hT hg)|skip)))
 | (refine zs ?_)
 | fail
 )
   exact ⟨⟨e,a2,L2,m1,C2,m2⟩,9,10,hok,rfl,rfl,rfl,by decide,by decide,by decide,by decide,by decide,rfl,fun _=>aB rfl rfl⟩
end Go.Proofs.YtdndfncpglfdeaaGreatDoor.Tp
