/- RG: texts laid together. -/
import Derived.Test.YtdndfncpglfdeaaGreatDoorMrgX18
import Derived.Test.YtdndfncpglfdeaaGreatDoorMrgX16
import Derived.Test.YtdndfncpglfdeaaGreatDoorMrgS
set_option maxRecDepth 100000
set_option maxHeartbeats 64000000

namespace Go.Proofs.YtdndfncpglfdeaaGreatDoor.Tp
set_option linter.unusedVariables false
set_option linter.unusedSimpArgs false
open Go.RowKit Go.Proofs.YtdndfncpglfdeaaGreatDoor.Ev
open Go.Proofs.YtdndfncpglfdeaaGreatDoor.Cu (I LI LS gw ce)
open Go.Proofs.YtdndfncpglfdeaaGreatDoor.Ge (an aG)
variable {gl:List (Nat×List CV)}
theorem rowS_in {k B:Int} (hk:0≤k):∀ {ps:List an} {e:Int},eK k B e ps→e≤B→∀ y∈ps,e≤y.1∧y.1 < y.2∧y.2≤B
 | [],_,_,_=>fun _ hy=>absurd hy List.not_mem_nil
 | x::ps,e,⟨h1,h2,h3,h4,h5⟩,he=>fun y hy=>by
  rcases List.mem_cons.1 hy with rfl|hy
  ·exact ⟨by omega,h1,h2⟩
  ·have:=rowS_in hk h5 (by omega) y hy
   omega
theorem same_acr {N:List Nd} {k ax:Int} {W:an} {p:List Prt} (hk:0≤k) (hW:aJ W) (h:sameS N k ax W p=true):∀ x∈p,aJ x.1:=by
 obtain ⟨w1,w2,w3⟩:=hW
 unfold sameS at h
 simp only [Bool.and_eq_true,decide_eq_true_eq] at h
 obtain ⟨h5,h6⟩:=h
 obtain ⟨_,i2⟩:=rowG_inv hk _ W.1 false [] N (by omega) (Prod.ext_iff.2 ⟨h6.symm,h5⟩)
 have j1:=(i2 rfl).1
 rw [List.map_fst_zip (by simp)] at j1
 intro x hx
 have:=rowS_in hk j1 (by omega) x.1 (List.mem_map_of_mem hx)
 exact ⟨by omega,by omega,by omega⟩
theorem member_con (N:List Nd) (X Y:an) (c:List Pr) (s:Sw) (hN:N.length≤1000) (hc:prE c=0) (hs:SwOk s) (hX:aJ X) (hY:aJ Y) :
  bm Tryz.prog gl 9 [fI X Y N,fj c,swC s] (BO (decide (N.length≤127) && iL c N X Y s)):=by
 have c1:=rpcheck_con (gl:=gl) c
 rw [hc] at c1
 have c2:=rwcheck_con (gl:=gl) s ⟨0,0,0⟩
 rw [go.2 ⟨hs,by unfold RtOk;decide⟩] at c2
 have c3:=framed_con (gl:=gl) X Y
 rw [decide_eq_true ⟨hX,hY⟩] at c3
 have hk:0≤s.kerf∧s.kerf≤20:=⟨hs.1,hs.2.1⟩
 have hg:0 < s.pitch∧s.pitch≤1000000:=⟨by have:=hs.2.2.2.2.1;omega,by have:=hs.2.2.2.2.2.1;omega⟩
 have bY:-600≤Y.1∧Y.1 < Y.2∧Y.2≤600:=hY
 by_cases h127:N.length≤127
 rotate_left
 ·rw [decide_eq_false h127,Bool.false_and]
  obtain ⟨X1,X2⟩:=X
  obtain ⟨Y1,Y2⟩:=Y
  obtain ⟨k1,k2,k3,k4⟩:=s
  refine ao Tryz.func9 rfl (by kernel_rfl) rfl ?_
  simp only [Tryz.ntmps9,Tryz.results9,am,ofC,aZ,List.map]
  repeat' (first
 | ((with_reducible apply (ah (f:=29)));exact rfl;exact rfl;exact c1;exact rfl;exact rfl)
 | ((with_reducible apply (ah (f:=30)));exact rfl;exact rfl;exact c2;exact rfl;exact rfl)
 | ((with_reducible apply (ah (f:=31)));exact rfl;exact rfl;exact c3;exact rfl;exact rfl)
 | ((first|((with_reducible apply aj);iterate 4 exact rfl)|((with_reducible apply aa);exact rfl))<;>intro hg<;>(first|(exact absurd hg (by decide))|((try simp only [qz,ge_iff_le,List.cons.injEq,and_true] at hg);first|(exact absurd trivial hg)|(exfalso;omega)|(have hT:True:=hg;clear hT hg)|skip)))
 | (refine zs ?_)
 | fail
 )
  all_goals exact aK rfl rfl
 rw [decide_eq_true h127,Bool.true_and]
 have c4:=unrow_con (gl:=gl) N Y.1 Y.2 3 s.kerf h127 bY.1 bY.2.1 bY.2.2 hk
 have c6:=rheights_con (gl:=gl) c hc
 have hrl:=rhN_len c c.length
 have hcl:=cU hc
 have c7:=fun x=>in_con (gl:=gl) (rhN c c.length) x (by omega)
 have hu:=fun R h=>unG_ok N Y.1 Y.2 3 s.kerf bY.1 bY.2.2 hk.1 (N.length+1) 0 Y.1 false [] R h (Int.le_refl _) (by omega) (fun x hx=>absurd hx List.not_mem_nil) (Nat.le_refl _)
 unfold iL
 generalize unG N Y.2 3 s.kerf (N.length+1) 0 Y.1 false []=u at *
 obtain ⟨p,ok⟩:=u
 dsimp only at *
 cases ok with
 | false =>
  simp only [Bool.false_and]
  obtain ⟨X1,X2⟩:=X
  obtain ⟨Y1,Y2⟩:=Y
  obtain ⟨k1,k2,k3,k4⟩:=s
  refine ao Tryz.func9 rfl (by kernel_rfl) rfl ?_
  simp only [Tryz.ntmps9,Tryz.results9,am,ofC,aZ,List.map]
  repeat' (first
 | ((with_reducible apply (ah (f:=29)));exact rfl;exact rfl;exact c1;exact rfl;exact rfl)
 | ((with_reducible apply (ah (f:=30)));exact rfl;exact rfl;exact c2;exact rfl;exact rfl)
 | ((with_reducible apply (ah (f:=31)));exact rfl;exact rfl;exact c3;exact rfl;exact rfl)
 | ((with_reducible apply (ah (f:=32)));exact rfl;exact rfl;exact c4;exact rfl;exact rfl)
 | ((first|((with_reducible apply aj);iterate 4 exact rfl)|((with_reducible apply aa);exact rfl))<;>intro hg<;>(first|(exact absurd hg (by decide))|((try simp only [qz,ge_iff_le,List.cons.injEq,and_true] at hg);first|(exact absurd trivial hg)|(exfalso;omega)|(have hT:True:=hg;clear hT hg)|skip)))
 | (refine zs ?_)
 | fail
 )
  all_goals exact aK rfl rfl
 | true =>
  obtain ⟨hp,hpl⟩:=hu p rfl
  have c5:=same_con (gl:=gl) N (X,Y) 3 s.kerf p h127 (.inr rfl) hk hX hY (by omega) (fun x hx=>(hp x hx).1)
  rw [show aD (X,Y) 3=Y from rfl] at c5
  have hac:=same_acr (N:=N) (k:=s.kerf) (ax:=3) (W:=Y) (p:=p) hk.1 hY
  generalize sameS N s.kerf 3 Y p=sm at *
  cases sm with
  | false =>
   simp only [Bool.false_and,Bool.and_false]
   obtain ⟨X1,X2⟩:=X
   obtain ⟨Y1,Y2⟩:=Y
   obtain ⟨k1,k2,k3,k4⟩:=s
   refine ao Tryz.func9 rfl (by kernel_rfl) rfl ?_
   simp only [Tryz.ntmps9,Tryz.results9,am,ofC,aZ,List.map]
   repeat' (first
 | ((with_reducible apply (ah (f:=29)));exact rfl;exact rfl;exact c1;exact rfl;exact rfl)
 | ((with_reducible apply (ah (f:=30)));exact rfl;exact rfl;exact c2;exact rfl;exact rfl)
 | ((with_reducible apply (ah (f:=31)));exact rfl;exact rfl;exact c3;exact rfl;exact rfl)
 | ((with_reducible apply (ah (f:=32)));exact rfl;exact rfl;exact c4;exact rfl;exact rfl)
 | ((with_reducible apply (ah (f:=33)));exact rfl;exact rfl;exact c5;exact rfl;exact rfl)
 | ((first|((with_reducible apply aj);iterate 4 exact rfl)|((with_reducible apply aa);exact rfl))<;>intro hg<;>(first|(exact absurd hg (by decide))|((try simp only [qz,ge_iff_le,List.cons.injEq,and_true] at hg);first|(exact absurd trivial hg)|(exfalso;omega)|(have hT:True:=hg;clear hT hg)|skip)))
 | (refine zs ?_)
 | fail
 )
   all_goals exact aK rfl rfl
  | true =>
   have hac:=hac rfl
   simp only [Bool.true_and]
   have c8:=fun x (hx:x∈p)=>isstrip_con (gl:=gl) (dA N x) X x.1 c s (by unfold dA;rw [List.length_drop,List.length_take];omega) hc hk hg hX (hac x hx)
   generalize hRH:rhN c c.length=RH at *
   obtain ⟨X1,X2⟩:=X
   obtain ⟨Y1,Y2⟩:=Y
   obtain ⟨k1,k2,k3,k4⟩:=s
   dsimp only at *
   refine ao Tryz.func9 rfl (by kernel_rfl) rfl ?_
   simp only [Tryz.ntmps9,Tryz.results9,am,ofC,aZ,List.map]
   repeat' (first
 | ((with_reducible apply (ah (f:=29)));exact rfl;exact rfl;exact c1;exact rfl;exact rfl)
 | ((with_reducible apply (ah (f:=30)));exact rfl;exact rfl;exact c2;exact rfl;exact rfl)
 | ((with_reducible apply (ah (f:=31)));exact rfl;exact rfl;exact c3;exact rfl;exact rfl)
 | ((with_reducible apply (ah (f:=32)));exact rfl;exact rfl;exact c4;exact rfl;exact rfl)
 | ((with_reducible apply (ah (f:=33)));exact rfl;exact rfl;exact c5;exact rfl;exact rfl)
 | ((first|((with_reducible apply aj);iterate 4 exact rfl)|((with_reducible apply aa);exact rfl))<;>intro hg<;>(first|(exact absurd hg (by decide))|((try simp only [qz,ge_iff_le,List.cons.injEq,and_true] at hg);first|(exact absurd trivial hg)|(exfalso;omega)|(have hT:True:=hg;clear hT hg)|skip)))
 | (refine zs ?_)
 | fail
 )
   generalize hPb:(fun x:Prt=>decide ((x.1.1 - Y1).tmod k3=0) && decide (x.1.2 - x.1.1∈RH) && df c (dA N x) (X1,X2) x.1 ⟨k1,k2,k3,k4⟩)=Pb at *
   have hPx:∀ x,Pb x=(decide ((x.1.1 - Y1).tmod k3=0) && decide (x.1.2 - x.1.1∈RH) && df c (dA N x) (X1,X2) x.1 ⟨k1,k2,k3,k4⟩):=fun x=>by rw [← hPb]
   refine au (G:=Nat) (fun (j:Nat)=>j≤p.length∧∀ i (hi:i < p.length),i < j→Pb p[i]=true) (fun (j:Nat)=>p.length - j) (fun (j:Nat)=>[(1,.c (fj c)),(3,.ptr 0 0),(5,.ptr 1 0),(7,.c (LPt p)),(9,A j)]) (fun (j:Nat)=>[(1,some (.cells 26 [A k1,A k2,A k3,A k4])),(0,some (.cells 40 [A X1,A X2,A Y1,A Y2,.c (fY N)]))]) 2 0 ?_ (by refine ak rfl ?_ ?_<;>repeat (first|exact ai|exact ac|refine ae rfl rfl ?_|refine ab rfl rfl rfl ?_)) rfl ?_
   ·exact ⟨Nat.zero_le _,fun i _ h=>absurd h (Nat.not_lt_zero _)⟩
   rintro j hI
   try dsimp only at hI
   try dsimp only
   obtain ⟨hjl,hall⟩:=hI
   by_cases hj:j < p.length
   ·obtain ⟨⟨o1,o2,o3,o4⟩,o5⟩:=hp _ (List.getElem_mem hj)
    have hs1:=hac _ (List.getElem_mem hj)
    have hs2:-600≤p[j].1.1∧p[j].1.1 < p[j].1.2∧p[j].1.2≤600:=hs1
    have cj:=c8 _ (List.getElem_mem hj)
    have ci:=c7 (p[j].1.2 - p[j].1.1)
    have hPj:=hPx p[j]
    have hff:Pb p[j]=false→p.all Pb=false:=fun h=>by
     rw [List.all_eq_false];exact ⟨_,List.getElem_mem hj,by rw [h];decide⟩
    by_cases q1:(p[j].1.1 - Y1).tmod k3=0
    ·by_cases q2:p[j].1.2 - p[j].1.1∈RH
     ·rw [decide_eq_true q2] at ci
      rw [decide_eq_true q1,decide_eq_true q2,Bool.true_and,Bool.true_and] at hPj
      generalize df c (dA N p[j]) (X1,X2) p[j].1 ⟨k1,k2,k3,k4⟩=bs at *
      cases bs with
      | true =>
       repeat' (first
 | (refine bT (id:=9) 9 ?_ rfl br rfl ?_;(kernel_rfl);(simp only [List.take_succ_cons,List.take_zero,List.drop_succ_cons,List.drop_zero]))
 | ((with_reducible apply cy);exact rfl)
 | (refine aL (id:=10) 42 ?_ ?_;(kernel_rfl);(simp only [List.take_succ_cons,List.take_zero,List.drop_succ_cons,List.drop_zero]))
 | ((with_reducible apply r_rem);exact rfl;exact rfl;omega;exact rfl)
 | ((with_reducible apply (r_slice_f p[j].2.1.toNat p[j].2.2.toNat));exact rfl;exact inferInstance;exact rfl;exact rfl;exact (Int.toNat_of_nonneg o1).symm;exact (Int.toNat_of_nonneg (by omega)).symm;omega;omega;exact rfl)
 | ((with_reducible apply (ah (f:=35)));exact rfl;exact rfl;exact c6;exact rfl;exact rfl)
 | ((with_reducible apply (ah (f:=34)));exact rfl;exact rfl;exact ci;exact rfl;exact rfl)
 | ((with_reducible apply (ah (f:=36)));exact rfl;exact rfl;exact cj;exact rfl;exact rfl)
 | ((first|((with_reducible apply aj);iterate 4 exact rfl)|((with_reducible apply aa);exact rfl))<;>intro hg<;>(first|(exact absurd hg (by decide))|((try simp only [qz,ge_iff_le,List.cons.injEq,and_true] at hg);first|(exact absurd trivial hg)|(exfalso;omega)|(have hT:True:=hg;clear hT hg)|skip)))
 | (((with_reducible apply bL);iterate 3 exact rfl)<;>intro hg<;>(first|(exact absurd hg (by decide))|((try rw [hg]);(try simp only [qz,ge_iff_le,List.cons.injEq,and_true] at hg);first|(exact absurd trivial hg)|(exfalso;omega)|(have hT:True:=hg;clear hT hg)|skip)))
 | (refine zs ?_)
 | fail
 )
       refine ⟨j+1,?_,?_,by refine ak rfl ?_ ?_<;>repeat (first|exact ai|exact ac|refine ae rfl rfl ?_|refine ab rfl rfl rfl ?_)⟩
       ·show p.length - (j+1) < p.length - j;omega
       ·refine ⟨by show j+1≤_;omega,fun i hi hij=>?_⟩
        by_cases hij2:i < j
        ·exact hall i hi hij2
        ·obtain rfl:i=j:=by omega
         exact hPj
      | false =>
       rw [hff hPj]
       repeat' (first
 | (refine bT (id:=9) 9 ?_ rfl br rfl ?_;(kernel_rfl);(simp only [List.take_succ_cons,List.take_zero,List.drop_succ_cons,List.drop_zero]))
 | ((with_reducible apply cy);exact rfl)
 | (refine aL (id:=10) 42 ?_ ?_;(kernel_rfl);(simp only [List.take_succ_cons,List.take_zero,List.drop_succ_cons,List.drop_zero]))
 | ((with_reducible apply r_rem);exact rfl;exact rfl;omega;exact rfl)
 | ((with_reducible apply (r_slice_f p[j].2.1.toNat p[j].2.2.toNat));exact rfl;exact inferInstance;exact rfl;exact rfl;exact (Int.toNat_of_nonneg o1).symm;exact (Int.toNat_of_nonneg (by omega)).symm;omega;omega;exact rfl)
 | ((with_reducible apply (ah (f:=35)));exact rfl;exact rfl;exact c6;exact rfl;exact rfl)
 | ((with_reducible apply (ah (f:=34)));exact rfl;exact rfl;exact ci;exact rfl;exact rfl)
 | ((with_reducible apply (ah (f:=36)));exact rfl;exact rfl;exact cj;exact rfl;exact rfl)
 | ((first|((with_reducible apply aj);iterate 4 exact rfl)|((with_reducible apply aa);exact rfl))<;>intro hg<;>(first|(exact absurd hg (by decide))|((try simp only [qz,ge_iff_le,List.cons.injEq,and_true] at hg);first|(exact absurd trivial hg)|(exfalso;omega)|(have hT:True:=hg;clear hT hg)|skip)))
 | (((with_reducible apply bL);iterate 3 exact rfl)<;>intro hg<;>(first|(exact absurd hg (by decide))|((try rw [hg]);(try simp only [qz,ge_iff_le,List.cons.injEq,and_true] at hg);first|(exact absurd trivial hg)|(exfalso;omega)|(have hT:True:=hg;clear hT hg)|skip)))
 | (refine zs ?_)
 | fail
 )
       all_goals exact aK rfl rfl
     ·rw [decide_eq_false q2] at ci
      rw [hff (by rw [hPj,decide_eq_false q2];simp)]
      repeat' (first
 | (refine bT (id:=9) 9 ?_ rfl br rfl ?_;(kernel_rfl);(simp only [List.take_succ_cons,List.take_zero,List.drop_succ_cons,List.drop_zero]))
 | ((with_reducible apply cy);exact rfl)
 | (refine aL (id:=10) 42 ?_ ?_;(kernel_rfl);(simp only [List.take_succ_cons,List.take_zero,List.drop_succ_cons,List.drop_zero]))
 | ((with_reducible apply r_rem);exact rfl;exact rfl;omega;exact rfl)
 | ((with_reducible apply (ah (f:=35)));exact rfl;exact rfl;exact c6;exact rfl;exact rfl)
 | ((with_reducible apply (ah (f:=34)));exact rfl;exact rfl;exact ci;exact rfl;exact rfl)
 | ((first|((with_reducible apply aj);iterate 4 exact rfl)|((with_reducible apply aa);exact rfl))<;>intro hg<;>(first|(exact absurd hg (by decide))|((try simp only [qz,ge_iff_le,List.cons.injEq,and_true] at hg);first|(exact absurd trivial hg)|(exfalso;omega)|(have hT:True:=hg;clear hT hg)|skip)))
 | (((with_reducible apply bL);iterate 3 exact rfl)<;>intro hg<;>(first|(exact absurd hg (by decide))|((try rw [hg]);(try simp only [qz,ge_iff_le,List.cons.injEq,and_true] at hg);first|(exact absurd trivial hg)|(exfalso;omega)|(have hT:True:=hg;clear hT hg)|skip)))
 | (refine zs ?_)
 | fail
 )
      all_goals exact aK rfl rfl
    ·rw [hff (by rw [hPj,decide_eq_false q1];simp)]
     repeat' (first
 | (refine bT (id:=9) 9 ?_ rfl br rfl ?_;(kernel_rfl);(simp only [List.take_succ_cons,List.take_zero,List.drop_succ_cons,List.drop_zero]))
 | ((with_reducible apply cy);exact rfl)
 | (refine aL (id:=10) 42 ?_ ?_;(kernel_rfl);(simp only [List.take_succ_cons,List.take_zero,List.drop_succ_cons,List.drop_zero]))
 | ((with_reducible apply r_rem);exact rfl;exact rfl;omega;exact rfl)
 | ((first|((with_reducible apply aj);iterate 4 exact rfl)|((with_reducible apply aa);exact rfl))<;>intro hg<;>(first|(exact absurd hg (by decide))|((try simp only [qz,ge_iff_le,List.cons.injEq,and_true] at hg);first|(exact absurd trivial hg)|(exfalso;omega)|(have hT:True:=hg;clear hT hg)|skip)))
 | (((with_reducible apply bL);iterate 3 exact rfl)<;>intro hg<;>(first|(exact absurd hg (by decide))|((try rw [hg]);(try simp only [qz,ge_iff_le,List.cons.injEq,and_true] at hg);first|(exact absurd trivial hg)|(exfalso;omega)|(have hT:True:=hg;clear hT hg)|skip)))
 | (refine zs ?_)
 | fail
 )
     all_goals exact aK rfl rfl
   ·have ha:p.all Pb=true:=by
     rw [List.all_eq_true]
     intro x hx
     obtain ⟨i,hi,e⟩:=List.mem_iff_getElem.1 hx
     rw [← e];exact hall i hi (by omega)
    rw [ha]
    obtain rfl:j=p.length:=by omega
    repeat' (first
 | (((with_reducible apply aa);exact rfl)<;>intro hg<;>(first|(exact absurd hg (by decide))|((try simp only [qz,ge_iff_le,List.cons.injEq,and_true] at hg);first|(exact absurd trivial hg)|(exfalso;omega)|(have hT:True:=hg;clear hT hg)|skip)))
 | (refine zs ?_)
 | fail
 )
    all_goals exact aK rfl rfl
end Go.Proofs.YtdndfncpglfdeaaGreatDoor.Tp
