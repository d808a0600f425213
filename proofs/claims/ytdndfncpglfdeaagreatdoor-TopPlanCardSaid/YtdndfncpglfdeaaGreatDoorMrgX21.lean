/- RH: texts laid together. -/
import Derived.Test.YtdndfncpglfdeaaGreatDoorMrgX8
import Derived.Test.YtdndfncpglfdeaaGreatDoorMrgE6
import Derived.Test.YtdndfncpglfdeaaGreatDoorMrgX13
import Derived.Test.YtdndfncpglfdeaaGreatDoorMrgS
set_option maxRecDepth 100000
set_option maxHeartbeats 64000000

namespace Go.Proofs.YtdndfncpglfdeaaGreatDoor.Tp
set_option linter.unusedVariables false
set_option linter.unusedSimpArgs false
open Go.RowKit Go.Proofs.YtdndfncpglfdeaaGreatDoor.Ev
open Go.Proofs.YtdndfncpglfdeaaGreatDoor.Cu (I LI LS gw ce)
open Go.Proofs.YtdndfncpglfdeaaGreatDoor.Ge (an aG)
variable {gl:List (Nat×List CV)}
theorem Parts_con (s:an) (a k:Int) (h:aQ (a+k)):bm Tryz.prog gl 121 [.agg [I s.1,I s.2],I a,I k] (.tup [.agg [I s.1,I a],.agg [I a,I (min (a+k) s.2)],.agg [I (min (a+k) s.2),I s.2]]):=by
 refine ao Tryz.func121 rfl (by kernel_rfl) rfl ?_
 simp only [Tryz.ntmps121,Tryz.results121,am,ofC,aZ,List.map]
 repeat' (first
 | (refine aw_drawS [1,2,3] [0,1,2,3,4,5,6,7,8,9,10] 3 ?_ rfl ?_;(decide +kernel);(simp only [pk,List.drop_succ_cons,List.drop_zero,List.map_cons,List.map_nil,List.cons_append,List.nil_append]))
 | ((with_reducible apply ds_nilS))
 | ((with_reducible apply d3_nil);(decide +kernel))
 | (first|(refine bE [11] (by decide +kernel) rfl ?_)|(refine bE [12] (by decide +kernel) rfl ?_)|(refine bE [13] (by decide +kernel) rfl ?_)|(refine bE [11,12] (by decide +kernel) rfl ?_)|(refine bE [11,13] (by decide +kernel) rfl ?_)|(refine bE [12,13] (by decide +kernel) rfl ?_)|(refine bE [11,12,13] (by decide +kernel) rfl ?_))
 | ((with_reducible refine List.forall_mem_cons.2 ⟨?_,?_⟩))
 | ((with_reducible exact d3_none))
 | ((with_reducible apply d3_a);exact rfl;exact inferInstance;exact rfl)
 | ((with_reducible apply d3_pa);exact rfl;exact inferInstance;iterate 8 exact rfl)
 | ((with_reducible apply d3_p);exact rfl;exact inferInstance;iterate 8 exact rfl)
 | (refine zs ?_)
 | fail
 )
 all_goals exact bJ (.cons (.cell_a inferInstance rfl rfl rfl rfl (al ap (al ap bj))) (.cons (.cell_a inferInstance rfl rfl rfl rfl (al ap (al ap bj))) (.cons (.cell_a inferInstance rfl rfl rfl rfl (al ap (al ap bj))) .nil)))
abbrev wkL (N:List Nd) (c:List Pr) (k a:Int):List CV:=[fY N,fj c,BO true,I k,I a]
def wkP (N:List Nd) (c:List Pr) (k a:Int) (L:List (aG×Int)) (n1:Nat) (C:List aG) (n2:Nat):ObjP :=
 iE 158 (wkL N c k a) 111 5 (L.flatMap lfC) n1 37 4 (C.flatMap rcC) n2
structure Wk where
 e:Int
 a:Nat
 L:List (aG×Int)
 n1:Nat
 C:List aG
 n2:Nat
def iz (N:List Nd) (x:Wk):Prop:=x.a≤N.length∧x.L.length=x.n1∧x.C.length=x.n2∧x.n1≤x.a∧x.n2≤x.a
section
variable {P:Program} {ops:Array Oper} {Q:Exit→St→Prop} {rest:List Oper} {d:Nat} {ty:TypeId} {pos:String} {af:Array Edge} {n:Nat} {env:List (Nat×AV)} {heap:List (Nat×Option AB)} {nx:Nat} {tys:Array TypeId}
theorem aw_wkclose {P:Program} {rs:List ResultVar} {c:Code} {s:St} {fr:Option AB} (N:List Nd) (cs:List Pr) (k:Int)
  (h:gf P c (fun e st=>∃ (x:Wk) (b1 b2:Nat),iz N x∧st.H 0=some (.cells 158 [.c (fY N),.c (fj cs),.c (BO true),A k,A x.a,.vec b1 x.n1,.vec b2 x.n2])∧st.H b1=some (.vec 111 5 (x.L.flatMap lfC))∧st.H b2=some (.vec 37 4 (x.C.flatMap rcC))∧0≠b1∧0≠b2∧b1≠b2∧1≠b1∧1≠b2∧Ev.bf 1 st.heap=some fr∧∀ hp,Ret P rs (I x.e) e ⟨st.n,st.env,hp,st.nx,st.gl⟩) s) :
  gf P c (ORetE P rs (fun γ:{x // iz N x}=>I γ.1.e) (fun γ=>wkP N cs k γ.1.a γ.1.L γ.1.n1 γ.1.C γ.1.n2) fr) s:=by
 intro base w0 M a hs
 refine Code.wp_mono ?_ (h base w0 M a hs)
 intro e a' w' ⟨M',⟨n,env,heap,nx,gl⟩,h1,h2,h3,x,b1,b2,g1,g2,g3,g4,g5,g6,g7,g8,g9,g10,g11⟩
 obtain ⟨M2,k1,k2,k3⟩:=h2.closeR2 (cl:=wkL N cs k x.a) (n1:=x.n1) (n2:=x.n2) g2 g3 g4 (by rw [av EncL.len,g1.2.1]) (by rw [av EncL.len,g1.2.2.1]) g5 g6 g7
 refine ⟨M2,_,k1.trans h1,k2,h3.trans k3,⟨x,g1⟩,g11 _,?_,?_⟩
 ·unfold St.H;dsimp only;rw [az,if_pos rfl];rfl
 ·dsimp only
  rw [az,if_neg (by decide),az,if_neg (Ne.symm g8),az,if_neg (Ne.symm g9)]
  exact g10
end
end Go.Proofs.YtdndfncpglfdeaaGreatDoor.Tp
