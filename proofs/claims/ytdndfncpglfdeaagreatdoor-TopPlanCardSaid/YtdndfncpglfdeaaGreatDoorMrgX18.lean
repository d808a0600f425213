/- RF: texts laid together. -/
import Derived.Test.YtdndfncpglfdeaaGreatDoorMrgX16
import Derived.Test.YtdndfncpglfdeaaGreatDoorMrgS
set_option maxRecDepth 100000
set_option maxHeartbeats 64000000

namespace Go.Proofs.YtdndfncpglfdeaaGreatDoor.Tp
set_option linter.unusedVariables false
set_option linter.unusedSimpArgs false
open Go.RowKit Go.Proofs.YtdndfncpglfdeaaGreatDoor.Ev
open Go.Proofs.YtdndfncpglfdeaaGreatDoor.Cu (I LI LS gw ce)
open Go.Proofs.YtdndfncpglfdeaaGreatDoor.Ge (an aG)
variable {gl:List (Nat×List CV)}
theorem isstrip_con (N:List Nd) (X Y:an) (c:List Pr) (s:Sw) (hN:N.length≤127) (hc:prE c=0) (hk:0≤s.kerf∧s.kerf≤20) (hg:0 < s.pitch∧s.pitch≤1000000) (hX:aJ X) (hY:aJ Y) :
  bm Tryz.prog gl 36 [fY N,dx (X,Y),fj c,swC s] (BO (df c N X Y s)):=by
 have bX:-600≤X.1∧X.1 < X.2∧X.2≤600:=hX
 have bY:-600≤Y.1∧Y.1 < Y.2∧Y.2≤600:=hY
 have c1:=unrow_con (gl:=gl) N X.1 X.2 2 s.kerf hN bX.1 bX.2.1 bX.2.2 hk
 have c3:=rsizes_con (gl:=gl) c hc (Y.2 - Y.1)
 have hu:=fun R h=>unG_ok N X.1 X.2 2 s.kerf bX.1 bX.2.2 hk.1 (N.length+1) 0 X.1 false [] R h (Int.le_refl _) (by omega) (fun x hx=>absurd hx List.not_mem_nil) (Nat.le_refl _)
 unfold df
 generalize unG N X.2 2 s.kerf (N.length+1) 0 X.1 false []=u at *
 obtain ⟨p,ok⟩:=u
 dsimp only at *
 cases ok with
 | false =>
  simp only [Bool.false_and]
  obtain ⟨X1,X2⟩:=X
  obtain ⟨Y1,Y2⟩:=Y
  obtain ⟨k1,k2,k3,k4⟩:=s
  refine ao Tryz.func36 rfl (by kernel_rfl) rfl ?_
  simp only [Tryz.ntmps36,Tryz.results36,am,ofC,aZ,List.map]
  repeat' (first
 | ((with_reducible apply (ah (f:=32)));exact rfl;exact rfl;exact c1;exact rfl;exact rfl)
 | ((first|((with_reducible apply aj);iterate 4 exact rfl)|((with_reducible apply aa);exact rfl))<;>intro hg<;>(first|(exact absurd hg (by decide))|((try simp only [qz,ge_iff_le,List.cons.injEq,and_true] at hg);first|(exact absurd trivial hg)|(exfalso;omega)|(have hT:True:=hg;clear hT hg)|skip)))
 | (refine zs ?_)
 | fail
 )
  all_goals exact aK rfl rfl
 | true =>
  obtain ⟨hp,hpl⟩:=hu p rfl
  have c2:=same_con (gl:=gl) N (X,Y) 2 s.kerf p hN (.inl rfl) hk hX hY (by omega) (fun x hx=>(hp x hx).1)
  rw [show aD (X,Y) 2=X from rfl] at c2
  generalize sameS N s.kerf 2 X p=sm at *
  by_cases h0:p=[]
  ·subst h0
   simp only [List.isEmpty_nil,Bool.not_true,Bool.and_false,Bool.false_and]
   obtain ⟨X1,X2⟩:=X
   obtain ⟨Y1,Y2⟩:=Y
   obtain ⟨k1,k2,k3,k4⟩:=s
   refine ao Tryz.func36 rfl (by kernel_rfl) rfl ?_
   simp only [Tryz.ntmps36,Tryz.results36,am,ofC,aZ,List.map]
   repeat' (first
 | ((with_reducible apply (ah (f:=32)));exact rfl;exact rfl;exact c1;exact rfl;exact rfl)
 | ((first|((with_reducible apply aj);iterate 4 exact rfl)|((with_reducible apply aa);exact rfl))<;>intro hg<;>(first|(exact absurd hg (by decide))|((try simp only [qz,ge_iff_le,List.cons.injEq,and_true] at hg);first|(exact absurd trivial hg)|(exfalso;omega)|(have hT:True:=hg;clear hT hg)|skip)))
 | (refine zs ?_)
 | fail
 )
   all_goals exact aK rfl rfl
  ·have hpos:0 < p.length:=List.length_pos_iff.2 h0
   have he:p.isEmpty=false:=by cases p with
    | nil=>exact absurd rfl h0
    | cons=>rfl
   simp only [he,Bool.not_false,Bool.true_and]
   cases sm with
   | false =>
    simp only [Bool.false_and]
    obtain ⟨X1,X2⟩:=X
    obtain ⟨Y1,Y2⟩:=Y
    obtain ⟨k1,k2,k3,k4⟩:=s
    refine ao Tryz.func36 rfl (by kernel_rfl) rfl ?_
    simp only [Tryz.ntmps36,Tryz.results36,am,ofC,aZ,List.map]
    repeat' (first
 | ((with_reducible apply (ah (f:=32)));exact rfl;exact rfl;exact c1;exact rfl;exact rfl)
 | ((with_reducible apply (ah (f:=33)));exact rfl;exact rfl;exact c2;exact rfl;exact rfl)
 | ((first|((with_reducible apply aj);iterate 4 exact rfl)|((with_reducible apply aa);exact rfl))<;>intro hg<;>(first|(exact absurd hg (by decide))|((try simp only [qz,ge_iff_le,List.cons.injEq,and_true] at hg);first|(exact absurd trivial hg)|(exfalso;omega)|(have hT:True:=hg;clear hT hg)|skip)))
 | (refine zs ?_)
 | fail
 )
    all_goals exact aK rfl rfl
   | true =>
    simp only [Bool.true_and]
    obtain ⟨X1,X2⟩:=X
    obtain ⟨Y1,Y2⟩:=Y
    obtain ⟨k1,k2,k3,k4⟩:=s
    dsimp only at *
    refine ao Tryz.func36 rfl (by kernel_rfl) rfl ?_
    simp only [Tryz.ntmps36,Tryz.results36,am,ofC,aZ,List.map]
    repeat' (first
 | ((with_reducible apply (ah (f:=32)));exact rfl;exact rfl;exact c1;exact rfl;exact rfl)
 | ((with_reducible apply (ah (f:=33)));exact rfl;exact rfl;exact c2;exact rfl;exact rfl)
 | ((with_reducible apply (ah (f:=77)));exact rfl;exact rfl;exact c3;exact rfl;exact rfl)
 | ((first|((with_reducible apply aj);iterate 4 exact rfl)|((with_reducible apply aa);exact rfl))<;>intro hg<;>(first|(exact absurd hg (by decide))|((try simp only [qz,ge_iff_le,List.cons.injEq,and_true] at hg);first|(exact absurd trivial hg)|(exfalso;omega)|(have hT:True:=hg;clear hT hg)|skip)))
 | (refine zs ?_)
 | fail
 )
    refine au (G:=Nat) (fun (j:Nat)=>j≤p.length∧∀ i (hi:i < p.length),i < j→bdPrt c N (X1,X2) (Y1,Y2) k3 p[i]=true) (fun (j:Nat)=>p.length - j) (fun (j:Nat)=>[(0,.c (fY N)),(5,.ptr 0 0),(7,.ptr 1 0),(9,.c (LPt p)),(11,.c (LI ((cB c (Y2 - Y1)).map Prod.fst))),(12,.c (LI ((cB c (Y2 - Y1)).map Prod.snd))),(13,A j)]) (fun (j:Nat)=>[(1,some (.cells 26 [A k1,A k2,A k3,A k4])),(0,some (.cells 37 [A X1,A X2,A Y1,A Y2]))]) 2 0 ?_ (by refine ak rfl ?_ ?_<;>repeat (first|exact ai|exact ac|refine ae rfl rfl ?_|refine ab rfl rfl rfl ?_)) rfl ?_
    ·exact ⟨Nat.zero_le _,fun i _ h=>absurd h (Nat.not_lt_zero _)⟩
    rintro j hI
    try dsimp only at hI
    try dsimp only
    obtain ⟨hjl,hall⟩:=hI
    by_cases hj:j < p.length
    ·obtain ⟨⟨o1,o2,o3,o4⟩,o5⟩:=hp _ (List.getElem_mem hj)
     have hi:p[j].2.1.toNat < N.length:=by omega
     have eb:bdPrt c N (X1,X2) (Y1,Y2) k3 p[j]=(decide (p[j].2.2=p[j].2.1+1) && decide (N[p[j].2.1.toNat].1=1) && decide ((p[j].1.1 - X1).tmod k3=0) && decide ((p[j].1.2 - p[j].1.1,N[p[j].2.1.toNat].2)∈cB c (Y2 - Y1))):=by
      unfold bdPrt;rw [List.getElem?_eq_getElem hi]
     have hff:bdPrt c N (X1,X2) (Y1,Y2) k3 p[j]=false→p.all (bdPrt c N (X1,X2) (Y1,Y2) k3)=false:=fun h=>by
      rw [List.all_eq_false];exact ⟨_,List.getElem_mem hj,by rw [h];decide⟩
     unfold smallS at o4
     by_cases q1:p[j].2.2=p[j].2.1+1
     ·by_cases q2:N[p[j].2.1.toNat].1=1
      ·by_cases q3:(p[j].1.1 - X1).tmod k3=0
       ·have hn2:N[p[j].2.1.toNat]=(N[p[j].2.1.toNat].1,N[p[j].2.1.toNat].2):=rfl
        generalize hW:cB c (Y2 - Y1)=W at *
        have hWl:W.length≤100000:=by
         rw [← hW];have:=szN_le c (Y2 - Y1) c.length;have:=cU hc;unfold cB;omega
        have l1:(W.map Prod.fst).length=W.length:=List.length_map ..
        have l2:(W.map Prod.snd).length=W.length:=List.length_map ..
        repeat' (first
 | (refine aL (id:=9) 30 ?_ ?_;(kernel_rfl);(simp only [List.take_succ_cons,List.take_zero,List.drop_succ_cons,List.drop_zero]))
 | ((with_reducible apply r_rem);exact rfl;exact rfl;omega;exact rfl)
 | ((first|((with_reducible apply aj);iterate 4 exact rfl)|((with_reducible apply aa);exact rfl))<;>intro hg<;>(first|(exact absurd hg (by decide))|((try simp only [qz,ge_iff_le,List.cons.injEq,and_true] at hg);first|(exact absurd trivial hg)|(exfalso;omega)|(have hT:True:=hg;clear hT hg)|skip)))
 | (((with_reducible apply bL);iterate 3 exact rfl)<;>intro hg<;>(first|(exact absurd hg (by decide))|((try rw [hg]);(try simp only [qz,ge_iff_le,List.cons.injEq,and_true] at hg);first|(exact absurd trivial hg)|(exfalso;omega)|(have hT:True:=hg;clear hT hg)|skip)))
 | (refine zs ?_)
 | fail
 )
        refine au (G:=Nat) (fun (t:Nat)=>t≤W.length) (fun (t:Nat)=>W.length - t) (fun (t:Nat)=>[(0,.c (fY N)),(5,.ptr 0 0),(7,.ptr 1 0),(9,.c (LPt p)),(11,.c (LI (W.map Prod.fst))),(12,.c (LI (W.map Prod.snd))),(13,A j),(14,.ptr 2 0),(15,.c (BO ((W.take t).any fun x=>decide (x.1=p[j].1.2 - p[j].1.1) && decide (x.2=N[p[j].2.1.toNat].2)))),(16,A t)]) (fun (t:Nat)=>[(2,some (.cells 49 [A N[p[j].2.1.toNat].1,A N[p[j].2.1.toNat].2])),(1,some (.cells 26 [A k1,A k2,A k3,A k4])),(0,some (.cells 37 [A X1,A X2,A Y1,A Y2]))]) 3 0 ?_ (by refine ak rfl ?_ ?_<;>repeat (first|exact ai|exact ac|refine ae rfl rfl ?_|refine ab rfl rfl rfl ?_)) rfl ?_
        ·exact Nat.zero_le _
        rintro t hI
        try dsimp only at hI
        try dsimp only
        by_cases ht:t < W.length
        ·have et:(W.take (t+1)).any (fun x=>decide (x.1=p[j].1.2 - p[j].1.1) && decide (x.2=N[p[j].2.1.toNat].2))=((W.take t).any (fun x=>decide (x.1=p[j].1.2 - p[j].1.1) && decide (x.2=N[p[j].2.1.toNat].2)) || (decide (W[t].1=p[j].1.2 - p[j].1.1) && decide (W[t].2=N[p[j].2.1.toNat].2))):=by
          rw [List.take_succ_eq_append_getElem ht,List.any_append];simp
         generalize hF:(W.take t).any (fun x=>decide (x.1=p[j].1.2 - p[j].1.1) && decide (x.2=N[p[j].2.1.toNat].2))=F at *
         have g1:(W.map Prod.fst)[t]'(by omega)=W[t].1:=List.getElem_map ..
         have g2:(W.map Prod.snd)[t]'(by omega)=W[t].2:=List.getElem_map ..
         cases F with
         | true =>
          rw [Bool.true_or] at et
          repeat' (first
 | (((with_reducible apply aa);exact rfl)<;>intro hg<;>(first|(exact absurd hg (by decide))|((try simp only [qz,ge_iff_le,List.cons.injEq,and_true] at hg);first|(exact absurd trivial hg)|(exfalso;omega)|(have hT:True:=hg;clear hT hg)|skip)))
 | (((with_reducible apply bL);iterate 3 exact rfl)<;>intro hg<;>(first|(exact absurd hg (by decide))|((try rw [hg]);(try simp only [qz,ge_iff_le,List.cons.injEq,and_true] at hg);first|(exact absurd trivial hg)|(exfalso;omega)|(have hT:True:=hg;clear hT hg)|skip)))
 | (refine zs ?_)
 | fail
 )
          rw [show (!false)=true from rfl,← et]
          refine ⟨t+1,?_,?_,by refine ak rfl ?_ ?_<;>repeat (first|exact ai|exact ac|refine ae rfl rfl ?_|refine ab rfl rfl rfl ?_)⟩
          ·show W.length - (t+1) < W.length - t;omega
          ·show t+1≤W.length;omega
         | false =>
          rw [Bool.false_or] at et
          rw [← g1,← g2] at et
          by_cases w1:(W.map Prod.fst)[t]'(by omega)=p[j].1.2 - p[j].1.1
          ·by_cases w2:(W.map Prod.snd)[t]'(by omega)=N[p[j].2.1.toNat].2
           ·rw [decide_eq_true w1,decide_eq_true w2,Bool.true_and] at et
            repeat' (first
 | (refine aL (id:=15) 27 ?_ ?_;(kernel_rfl);(simp only [List.take_succ_cons,List.take_zero,List.drop_succ_cons,List.drop_zero]))
 | ((first|((with_reducible apply aj);iterate 4 exact rfl)|((with_reducible apply aa);exact rfl))<;>intro hg<;>(first|(exact absurd hg (by decide))|((try simp only [qz,ge_iff_le,List.cons.injEq,and_true] at hg);first|(exact absurd trivial hg)|(exfalso;omega)|(have hT:True:=hg;clear hT hg)|skip)))
 | (((with_reducible apply bL);iterate 3 exact rfl)<;>intro hg<;>(first|(exact absurd hg (by decide))|((try rw [hg]);(try simp only [qz,ge_iff_le,List.cons.injEq,and_true] at hg);first|(exact absurd trivial hg)|(exfalso;omega)|(have hT:True:=hg;clear hT hg)|skip)))
 | (refine zs ?_)
 | fail
 )
            rw [decide_eq_true w2,← et]
            refine ⟨t+1,?_,?_,by refine ak rfl ?_ ?_<;>repeat (first|exact ai|exact ac|refine ae rfl rfl ?_|refine ab rfl rfl rfl ?_)⟩
            ·show W.length - (t+1) < W.length - t;omega
            ·show t+1≤W.length;omega
           ·rw [decide_eq_true w1,decide_eq_false w2,Bool.true_and] at et
            repeat' (first
 | (refine aL (id:=15) 27 ?_ ?_;(kernel_rfl);(simp only [List.take_succ_cons,List.take_zero,List.drop_succ_cons,List.drop_zero]))
 | ((first|((with_reducible apply aj);iterate 4 exact rfl)|((with_reducible apply aa);exact rfl))<;>intro hg<;>(first|(exact absurd hg (by decide))|((try simp only [qz,ge_iff_le,List.cons.injEq,and_true] at hg);first|(exact absurd trivial hg)|(exfalso;omega)|(have hT:True:=hg;clear hT hg)|skip)))
 | (((with_reducible apply bL);iterate 3 exact rfl)<;>intro hg<;>(first|(exact absurd hg (by decide))|((try rw [hg]);(try simp only [qz,ge_iff_le,List.cons.injEq,and_true] at hg);first|(exact absurd trivial hg)|(exfalso;omega)|(have hT:True:=hg;clear hT hg)|skip)))
 | (refine zs ?_)
 | fail
 )
            rw [decide_eq_false w2,← et]
            refine ⟨t+1,?_,?_,by refine ak rfl ?_ ?_<;>repeat (first|exact ai|exact ac|refine ae rfl rfl ?_|refine ab rfl rfl rfl ?_)⟩
            ·show W.length - (t+1) < W.length - t;omega
            ·show t+1≤W.length;omega
          ·rw [decide_eq_false w1,Bool.false_and] at et
           repeat' (first
 | (refine aL (id:=15) 27 ?_ ?_;(kernel_rfl);(simp only [List.take_succ_cons,List.take_zero,List.drop_succ_cons,List.drop_zero]))
 | ((first|((with_reducible apply aj);iterate 4 exact rfl)|((with_reducible apply aa);exact rfl))<;>intro hg<;>(first|(exact absurd hg (by decide))|((try simp only [qz,ge_iff_le,List.cons.injEq,and_true] at hg);first|(exact absurd trivial hg)|(exfalso;omega)|(have hT:True:=hg;clear hT hg)|skip)))
 | (((with_reducible apply bL);iterate 3 exact rfl)<;>intro hg<;>(first|(exact absurd hg (by decide))|((try rw [hg]);(try simp only [qz,ge_iff_le,List.cons.injEq,and_true] at hg);first|(exact absurd trivial hg)|(exfalso;omega)|(have hT:True:=hg;clear hT hg)|skip)))
 | (refine zs ?_)
 | fail
 )
           rw [← et]
           refine ⟨t+1,?_,?_,by refine ak rfl ?_ ?_<;>repeat (first|exact ai|exact ac|refine ae rfl rfl ?_|refine ab rfl rfl rfl ?_)⟩
           ·show W.length - (t+1) < W.length - t;omega
           ·show t+1≤W.length;omega
        ·obtain rfl:t=W.length:=by omega
         rw [List.take_length]
         cases hF:W.any (fun x=>decide (x.1=p[j].1.2 - p[j].1.1) && decide (x.2=N[p[j].2.1.toNat].2)) with
         | true =>
          repeat' (first
 | (((with_reducible apply aa);exact rfl)<;>intro hg<;>(first|(exact absurd hg (by decide))|((try simp only [qz,ge_iff_le,List.cons.injEq,and_true] at hg);first|(exact absurd trivial hg)|(exfalso;omega)|(have hT:True:=hg;clear hT hg)|skip)))
 | (refine zs ?_)
 | fail
 )
          refine ⟨j+1,?_,?_,by refine ak rfl ?_ ?_<;>repeat (first|exact ai|exact ac|refine ae rfl rfl ?_|refine ab rfl rfl rfl ?_)⟩
          ·show p.length - (j+1) < p.length - j;omega
          ·refine ⟨by show j+1≤_;omega,fun i hi hij=>?_⟩
           by_cases hij2:i < j
           ·exact hall i hi hij2
           ·obtain rfl:i=j:=by omega
            rw [eb,decide_eq_true q1,decide_eq_true q2,decide_eq_true q3]
            obtain ⟨x,hx,hx2⟩:=List.any_eq_true.1 hF
            simp only [Bool.and_eq_true,decide_eq_true_eq] at hx2
            rw [← hx2.1,← hx2.2,decide_eq_true hx];rfl
         | false =>
          rw [hff (by
           rw [eb,decide_eq_true q1,decide_eq_true q2,decide_eq_true q3]
           simp only [Bool.true_and,decide_eq_false_iff_not]
           intro hx
           rw [List.any_eq_false] at hF
           exact absurd (hF _ hx) (by simp))]
          repeat' (first
 | (((with_reducible apply aa);exact rfl)<;>intro hg<;>(first|(exact absurd hg (by decide))|((try simp only [qz,ge_iff_le,List.cons.injEq,and_true] at hg);first|(exact absurd trivial hg)|(exfalso;omega)|(have hT:True:=hg;clear hT hg)|skip)))
 | (refine zs ?_)
 | fail
 )
          all_goals exact aK rfl rfl
       ·rw [hff (by rw [eb,decide_eq_false q3];simp)]
        have hb3:decide ((p[j].1.1 - X1).tmod k3=0)=false:=decide_eq_false q3
        repeat' (first
 | (refine aL (id:=9) 30 ?_ ?_;(kernel_rfl);(simp only [List.take_succ_cons,List.take_zero,List.drop_succ_cons,List.drop_zero]))
 | ((with_reducible apply r_rem);exact rfl;exact rfl;omega;exact rfl)
 | ((first|((with_reducible apply aj);iterate 4 exact rfl)|((with_reducible apply aa);exact rfl))<;>intro hg<;>(first|(exact absurd hg (by decide))|((try simp only [qz,ge_iff_le,List.cons.injEq,and_true] at hg);first|(exact absurd trivial hg)|(exfalso;omega)|(have hT:True:=hg;clear hT hg)|skip)))
 | (((with_reducible apply bL);iterate 3 exact rfl)<;>intro hg<;>(first|(exact absurd hg (by decide))|((try rw [hg]);(try simp only [qz,ge_iff_le,List.cons.injEq,and_true] at hg);first|(exact absurd trivial hg)|(exfalso;omega)|(have hT:True:=hg;clear hT hg)|skip)))
 | (refine zs ?_)
 | fail
 )
        all_goals exact aK rfl rfl
      ·rw [hff (by rw [eb,decide_eq_false q2];simp)]
       repeat' (first
 | (((with_reducible apply aa);exact rfl)<;>intro hg<;>(first|(exact absurd hg (by decide))|((try simp only [qz,ge_iff_le,List.cons.injEq,and_true] at hg);first|(exact absurd trivial hg)|(exfalso;omega)|(have hT:True:=hg;clear hT hg)|skip)))
 | (((with_reducible apply bL);iterate 3 exact rfl)<;>intro hg<;>(first|(exact absurd hg (by decide))|((try rw [hg]);(try simp only [qz,ge_iff_le,List.cons.injEq,and_true] at hg);first|(exact absurd trivial hg)|(exfalso;omega)|(have hT:True:=hg;clear hT hg)|skip)))
 | (refine zs ?_)
 | fail
 )
       all_goals exact aK rfl rfl
     ·rw [hff (by rw [eb,decide_eq_false q1];simp)]
      repeat' (first
 | (((with_reducible apply aa);exact rfl)<;>intro hg<;>(first|(exact absurd hg (by decide))|((try simp only [qz,ge_iff_le,List.cons.injEq,and_true] at hg);first|(exact absurd trivial hg)|(exfalso;omega)|(have hT:True:=hg;clear hT hg)|skip)))
 | (((with_reducible apply bL);iterate 3 exact rfl)<;>intro hg<;>(first|(exact absurd hg (by decide))|((try rw [hg]);(try simp only [qz,ge_iff_le,List.cons.injEq,and_true] at hg);first|(exact absurd trivial hg)|(exfalso;omega)|(have hT:True:=hg;clear hT hg)|skip)))
 | (refine zs ?_)
 | fail
 )
      all_goals exact aK rfl rfl
    ·have ha:p.all (bdPrt c N (X1,X2) (Y1,Y2) k3)=true:=by
      rw [List.all_eq_true]
      intro x hx
      obtain ⟨i,hi,e⟩:=List.mem_iff_getElem.1 hx
      rw [← e];exact hall i hi (by omega)
     rw [ha]
     obtain rfl:j=p.length:=by omega
     repeat' (first
 | (((with_reducible apply aa);exact rfl)<;>intro hg<;>(first|(exact absurd hg (by decide))|((try simp only [qz,ge_iff_le,List.cons.injEq,and_true] at hg);first|(exact absurd trivial hg)|(exfalso;omega)|(have hT:True:=hg;clear hT hg)|skip)))
 | (refine zs ?_)
 | fail
 )
     all_goals exact aK rfl rfl
end Go.Proofs.YtdndfncpglfdeaaGreatDoor.Tp
